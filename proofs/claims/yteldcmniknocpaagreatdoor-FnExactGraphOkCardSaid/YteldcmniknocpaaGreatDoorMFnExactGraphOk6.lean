/- A part of the proof that the law FnExactGraphOk answers true at every input that its row speaks of. Conditions: the row's own. -/
import Derived.Test.YteldcmniknocpaaGreatDoorMFnExactGraphOk5
import Derived.Test.YteldcmniknocpaaGreatDoorKFnExactGraphOk0
import Derived.Test.YteldcmniknocpaaGreatDoorKFnExactGraphOk1
import Derived.Test.YteldcmniknocpaaGreatDoorMFnExactGraphOk0
import Derived.Test.YteldcmniknocpaaGreatDoorRows
import Derived.Test.YteldcmniknocpaaGreatDoorMFnExactGraphOk4
import Derived.Test.YteldcmniknocpaaGreatDoorOp
import Derived.Test.YteldcmniknocpaaGreatDoorCards
import Derived.Test.YteldcmniknocpaaGreatDoorTie
import Derived.Test.YteldcmniknocpaaGreatDoorLaid
import Derived.Test.YteldcmniknocpaaGreatDoorFacts
import Derived.WalkKit
import Derived.ProofKit
import Derived.OpenShut
import Derived.ShutString
import Derived.ChangeOld
import Derived.Below
import Derived.SizedLaws
import Derived.Carry
import Derived.Deep.DeepHandedRow
import Derived.Deep.DeepWitnessRowRef
section
namespace Go.Proofs.YteldcmniknocpaaGreatDoor.U
open Go Go.RowKit Go.Proofs.YteldcmniknocpaaGreatDoorW.PrintWords Go.Proofs.YteldcmniknocpaaGreatDoor.G
set_option linter.unusedVariables false
set_option linter.unusedSimpArgs false
def sumLen (a : B) : Int := if a = [115, 104, 97, 49] then 20 else if a = [115, 104, 97, 50, 53, 54] ∨ a = [104, 49] then 32 else if a = [115, 104, 97, 53, 49, 50] then 64 else -1
theorem impl_sumLength_ev (a : ByteArray) : Ev (fun k => impl_sumLength.f k a) (sumLen (L a)) := by
  unfold impl_sumLength.f sumLen
  rw [toList_L]
  generalize hx : L a = x
  have step : ∀ b : Bool, Ev (fun k => impl_sumLength.j0 k a b) (if b = true then 32 else if x = [115, 104, 97, 53, 49, 50] then 64 else -1) := fun b => by
    refine Ev.step (f := fun _ => if b = true then some 32 else if x = [115, 104, 97, 53, 49, 50] then some 64 else some (-1)) (fun k => by rw [impl_sumLength.j0, toList_L, hx]) ?_
    repeat' split
    all_goals exact Ev.now _
  by_cases h1 : x = [115, 104, 97, 49]
  · rw [if_pos h1]; exact ev_pos h1 (Ev.now _)
  · rw [if_neg h1]
    refine ev_neg h1 ?_
    by_cases h2 : x = [115, 104, 97, 50, 53, 54]
    · refine ev_pos h2 (ev_use (step _) ?_)
      rw [beq_iff_eq.2 h2, if_pos rfl, if_pos (Or.inl h2)]
    · refine ev_neg h2 (ev_use (step _) ?_)
      by_cases h3 : x = [104, 49]
      · rw [beq_iff_eq.2 h3, if_pos rfl, if_pos (Or.inr h3)]
      · rw [beq_eq_false_iff_ne.2 h3, if_neg (by decide), if_neg (show ¬ (x = [115, 104, 97, 50, 53, 54] ∨ x = [104, 49]) from fun e => e.elim h2 h3)]
theorem spec_l04Long_ev (a : ByteArray) : Ev (fun k => spec_l04Long.f k a) (sumLen (L a)) := by
  unfold spec_l04Long.f sumLen
  rw [toList_L]
  generalize hx : L a = x
  have step : ∀ b : Bool, Ev (fun k => spec_l04Long.j0 k a b) (if b = true then 32 else if x = [115, 104, 97, 53, 49, 50] then 64 else -1) := fun b => by
    refine Ev.step (f := fun _ => if b = true then some 32 else if x = [115, 104, 97, 53, 49, 50] then some 64 else some (-1)) (fun k => by rw [spec_l04Long.j0, toList_L, hx]) ?_
    repeat' split
    all_goals exact Ev.now _
  by_cases h1 : x = [115, 104, 97, 49]
  · rw [if_pos h1]; exact ev_pos h1 (Ev.now _)
  · rw [if_neg h1]
    refine ev_neg h1 ?_
    by_cases h2 : x = [115, 104, 97, 50, 53, 54]
    · refine ev_pos h2 (ev_use (step _) ?_)
      rw [beq_iff_eq.2 h2, if_pos rfl, if_pos (Or.inl h2)]
    · refine ev_neg h2 (ev_use (step _) ?_)
      by_cases h3 : x = [104, 49]
      · rw [beq_iff_eq.2 h3, if_pos rfl, if_pos (Or.inr h3)]
      · rw [beq_eq_false_iff_ne.2 h3, if_neg (by decide), if_neg (show ¬ (x = [115, 104, 97, 50, 53, 54] ∨ x = [104, 49]) from fun e => e.elim h2 h3)]
def sum1 (x : S51) : Bool := decide ((x.f1.size : Int) = sumLen (L x.f0))
def sumAt (l : List S51) (i : Nat) : Bool := sum1 (l.getD i z51) && (decide (i = 0) || Op.bytesLess (L (l.getD (i - 1) z51).f0) (L (l.getD i z51).f0))
def sumsFrom (l : List S51) : Nat → Nat → Bool
  | 0, _ => true
  | d + 1, i => sumAt l i && sumsFrom l d (i + 1)
def sumsOk (l : List S51) : Bool := sumsFrom l l.length 0
theorem ask_less {l : List S51} {i : Nat} {c : Bool} {f : Nat → Option Bool} {r : Bool} (hr : Ev f r) (hi : i < l.length) {F : Nat → Option Bool}
    (hF : ∀ k, F k = if (i : Int) > 0 then (if (0 : Int) ≤ wrap64 ((i : Int) - 1) then (if wrap64 ((i : Int) - 1) < (l.length : Int) then (if (Op.bytesLess (rd_T51 l (wrap64 ((i : Int) - 1))).f0.toList (rd_T51 l (i : Int)).f0.toList) = true then f k else some false) else none) else none) else f k) (hn : l.length ≤ 1048576) :
    Ev F ((decide (i = 0) || Op.bytesLess (L (l.getD (i - 1) z51).f0) (L (l.getD i z51).f0)) && r) := by
  have e : F = fun k => if (i : Int) > 0 then (if (0 : Int) ≤ wrap64 ((i : Int) - 1) then (if wrap64 ((i : Int) - 1) < (l.length : Int) then (if (Op.bytesLess (rd_T51 l (wrap64 ((i : Int) - 1))).f0.toList (rd_T51 l (i : Int)).f0.toList) = true then f k else some false) else none) else none) else f k := funext hF
  rw [e]
  by_cases h0 : i = 0
  · rw [decide_eq_true h0, Bool.true_or, Bool.true_and]; exact ev_neg (by omega) hr
  · have w : wrap64 ((i : Int) - 1) = ((i - 1 : Nat) : Int) := by rw [w64 (by omega) (by omega)]; omega
    have e1 : rd_T51 l (((i - 1 : Nat) : Int)) = l.getD (i - 1) z51 := rfl
    have e2 : rd_T51 l (i : Int) = l.getD i z51 := rfl
    rw [decide_eq_false h0, Bool.false_or, w, e1, e2, toList_L, toList_L]
    refine ev_pos (by omega) (ev_pos (by omega) (ev_pos (by omega) ?_))
    by_cases h : Op.bytesLess (L (l.getD (i - 1) z51).f0) (L (l.getD i z51).f0) = true
    · rw [h, Bool.true_and]; exact ev_pos rfl hr
    · simp only [Bool.not_eq_true] at h; rw [h]; exact ev_neg (by simp) (Ev.now _)
theorem impl_areSums_ev (l : List S51) (hn : l.length ≤ 1048576) : Ev (fun k => impl_areSums.f k l) (sumsOk l) := by
  unfold impl_areSums.f sumsOk
  have key : ∀ d i, i + d = l.length → Ev (fun k => impl_areSums.l0 k l l (l.length : Int) (i : Int)) (sumsFrom l d i) := by
    intro d
    induction d with
    | zero => intro i hi; exact Ev.step (f := fun _ => some true) (fun k => by rw [impl_areSums.l0, if_neg (by omega)]) (Ev.now _)
    | succ d ih =>
      intro i hi
      rw [sumsFrom, sumAt, Bool.and_assoc]
      have hr := ask_less (l := l) (i := i) (c := true) (ih (i + 1) (by omega)) (by omega) (fun _ => rfl) hn
      have e2 : rd_T51 l (i : Int) = l.getD i z51 := rfl
      refine Ev.step (fun k => by rw [impl_areSums.l0, if_pos (by omega), if_pos (by omega), if_pos (by omega), wa1 i (by omega)]) ?_
      refine Ev.bind (impl_sumLength_ev _) ?_
      rw [← e2]
      by_cases h : ((rd_T51 l (i : Int)).f1.size : Int) = sumLen (L (rd_T51 l (i : Int)).f0)
      · rw [sum1, decide_eq_true h, Bool.true_and]; exact ev_pos h hr
      · rw [sum1, decide_eq_false h, Bool.false_and]; exact ev_neg h (Ev.now _)
  exact key l.length 0 (by omega)
theorem impl_PackOk_ev (a0 a1 a2 : ByteArray) (l3 : List S51) (a4 : Bool) (l5 : List ByteArray) (h0 : a0.size ≤ 1048576) (h1 : a1.size ≤ 1048576) (h2 : a2.size ≤ 1048576) (h3 : l3.length ≤ 1048576) : Ev (fun k => impl_PackOk.f k a0 a1 a2 l3 a4 l5) (nameOk (L a0) && (decide ((exactL a1).length = 1) && (plainOk (L a2) && sumsOk l3))) := by
  have hl := exactL_len a1
  unfold impl_PackOk.f
  refine Ev.bind (impl_NameOk_ev a0 h0) ?_
  by_cases c0 : nameOk (L a0) = true
  · rw [c0, Bool.true_and]
    refine ev_pos rfl (Ev.bind (impl_Exact_ev a1 h1) ?_)
    by_cases c1 : (exactL a1).length = 1
    · rw [decide_eq_true c1, Bool.true_and]
      refine ev_pos (by omega) (Ev.bind (impl_PlainOk_ev a2 (by omega)) ?_)
      by_cases c2 : plainOk (L a2) = true
      · rw [c2, Bool.true_and]; exact ev_pos rfl (Ev.bind (impl_areSums_ev l3 h3) (Ev.now _))
      · simp only [Bool.not_eq_true] at c2; rw [c2]; exact ev_neg (by simp) (Ev.now _)
    · rw [decide_eq_false c1]; exact ev_neg (by omega) (Ev.now _)
  · simp only [Bool.not_eq_true] at c0; rw [c0]; exact ev_neg (by simp) (Ev.now _)
theorem spec_PackOk_ev (a0 a1 a2 : ByteArray) (l3 : List S51) (a4 : Bool) (l5 : List ByteArray) (h0 : a0.size ≤ 1048576) (h1 : a1.size ≤ 1048576) (h2 : a2.size ≤ 1048576) (h3 : l3.length ≤ 1048576) : Ev (fun k => spec_PackOk.f k a0 a1 a2 l3 a4 l5) (nameOk (L a0) && (decide ((exactL a1).length = 1) && (plainOk (L a2) && sumsOk l3))) := by
  have hl := exactL_len a1
  have tail : Ev (fun k => (spec_NameOk.f k a0).bind fun t552 => (if t552 = true then ((spec_Exact.f k a1).bind fun t553 => (if (t553.length : Int) = 1 then ((spec_PlainOk.f k a2).bind fun t556 => (some t556)) else (some false))) else (some false))) (nameOk (L a0) && (decide ((exactL a1).length = 1) && plainOk (L a2))) := by
    refine Ev.bind (spec_NameOk_ev a0 h0) ?_
    by_cases c0 : nameOk (L a0) = true
    · rw [c0, Bool.true_and]
      refine ev_pos rfl (Ev.bind (spec_Exact_ev a1 h1) ?_)
      by_cases c1 : (exactL a1).length = 1
      · rw [decide_eq_true c1, Bool.true_and]
        exact ev_pos (by omega) (Ev.bind (spec_PlainOk_ev a2 (by omega)) (Ev.now _))
      · rw [decide_eq_false c1]; exact ev_neg (by omega) (Ev.now _)
    · simp only [Bool.not_eq_true] at c0; rw [c0]; exact ev_neg (by simp) (Ev.now _)
  have key : ∀ d i, i + d = l3.length → Ev (fun k => spec_PackOk.l0 k (i : Int) a0 a1 a2 l3 a4 l5) (sumsFrom l3 d i && (nameOk (L a0) && (decide ((exactL a1).length = 1) && plainOk (L a2)))) := by
    intro d
    induction d with
    | zero =>
      intro i hi
      rw [sumsFrom, Bool.true_and]
      exact Ev.step (fun k => by rw [spec_PackOk.l0, if_neg (by omega)]) tail
    | succ d ih =>
      intro i hi
      rw [sumsFrom, sumAt, Bool.and_assoc, Bool.and_assoc]
      have hr := ask_less (l := l3) (i := i) (c := true) (ih (i + 1) (by omega)) (by omega) (fun _ => rfl) h3
      have e2 : rd_T51 l3 (i : Int) = l3.getD i z51 := rfl
      refine Ev.step (fun k => by rw [spec_PackOk.l0, if_pos (by omega), if_pos (show (0 : Int) ≤ (i : Int) by omega), wa1 i (by omega)]) ?_
      refine Ev.bind (spec_l04Long_ev _) ?_
      rw [← e2]
      by_cases h : ((rd_T51 l3 (i : Int)).f1.size : Int) = sumLen (L (rd_T51 l3 (i : Int)).f0)
      · rw [sum1, decide_eq_true h, Bool.true_and]; exact ev_pos h.symm hr
      · rw [sum1, decide_eq_false h, Bool.false_and]; exact ev_neg (fun e => h e.symm) (Ev.now _)
  unfold spec_PackOk.f
  refine ev_use (key l3.length 0 (by omega)) ?_
  show (sumsOk l3 && _) = _
  cases sumsOk l3 <;> cases nameOk (L a0) <;> cases decide ((exactL a1).length = 1) <;> cases plainOk (L a2) <;> rfl
end Go.Proofs.YteldcmniknocpaaGreatDoor.U

end
section
namespace Go.Proofs.YteldcmniknocpaaGreatDoor.U
open Go Go.RowKit Go.Proofs.YteldcmniknocpaaGreatDoorW.PrintWords Go.Proofs.YteldcmniknocpaaGreatDoor.G
set_option linter.unusedVariables false
set_option maxRecDepth 100000
def w_Sum (f0 : ByteArray) (f1 : ByteArray) : Int := (f0.size : Int) + ((f1.size : Int) + (0))
theorem w_Sum_nonneg (f0 : ByteArray) (f1 : ByteArray) : 0 ≤ w_Sum f0 f1 := by
  unfold w_Sum
  omega
def w_SumS (l : List S124) : Int := wList (fun x => w_Sum x.f0 x.f1) l
theorem w_SumS_nonneg (l : List S124) : 0 ≤ w_SumS l := wList_nonneg fun x _ => w_Sum_nonneg _ _
theorem w_SumS_len (l : List S124) : (l.length : Int) ≤ w_SumS l := wList_len fun x _ => w_Sum_nonneg _ _
theorem w_SumS_mem {l : List S124} {x : S124} (hx : x ∈ l) : w_Sum x.f0 x.f1 ≤ w_SumS l := wList_mem (w := fun x : S124 => w_Sum x.f0 x.f1) (fun x _ => w_Sum_nonneg _ _) hx
def w_Pack (f0 : ByteArray) (f1 : ByteArray) (f2 : ByteArray) (f3 : List S124) (f4 : Bool) (f5 : List ByteArray) : Int := (f0.size : Int) + ((f1.size : Int) + ((f2.size : Int) + (w_SumS f3 + (w_StringS f5 + (0)))))
theorem w_Pack_nonneg (f0 : ByteArray) (f1 : ByteArray) (f2 : ByteArray) (f3 : List S124) (f4 : Bool) (f5 : List ByteArray) : 0 ≤ w_Pack f0 f1 f2 f3 f4 f5 := by
  unfold w_Pack
  have := w_SumS_nonneg f3
  have := w_StringS_nonneg f5
  omega
def w_PackS (l : List S66) : Int := wList (fun x => w_Pack x.f0 x.f1 x.f2 x.f3 x.f4 x.f5) l
theorem w_PackS_nonneg (l : List S66) : 0 ≤ w_PackS l := wList_nonneg fun x _ => w_Pack_nonneg _ _ _ _ _ _
theorem w_PackS_len (l : List S66) : (l.length : Int) ≤ w_PackS l := wList_len fun x _ => w_Pack_nonneg _ _ _ _ _ _
theorem w_PackS_mem {l : List S66} {x : S66} (hx : x ∈ l) : w_Pack x.f0 x.f1 x.f2 x.f3 x.f4 x.f5 ≤ w_PackS l := wList_mem (w := fun x : S66 => w_Pack x.f0 x.f1 x.f2 x.f3 x.f4 x.f5) (fun x _ => w_Pack_nonneg _ _ _ _ _ _) hx
def w_Graph (f0 : List ByteArray) (f1 : List S66) : Int := w_StringS f0 + (w_PackS f1 + (0))
theorem w_Graph_nonneg (f0 : List ByteArray) (f1 : List S66) : 0 ≤ w_Graph f0 f1 := by
  unfold w_Graph
  have := w_StringS_nonneg f0
  have := w_PackS_nonneg f1
  omega
theorem toStringS_ok (l : List ByteArray) (h : l.length ≤ maxLen ∧ ∀ x_ ∈ l, x_.size ≤ maxLen) (hw : w_StringS l ≤ 1048576) : Ev (fun k => laws_toStringS.f k l) (l) := by
  have hl := w_StringS_len l
  have e : ((l.length : Int)).toNat = l.length := Int.toNat_natCast _
  unfold laws_toStringS.f
  rw [e]
  refine ev_pos (by omega) (ev_pos (by omega) ?_)
  have := to_loop l ByteArray.empty (⟨#[]⟩ : ByteArray) id (fun k i st => laws_toStringS.l0 k l st i) h.1 ?_ ?_
  · rw [List.map_id] at this; exact this
  · intro k i st hi hs
    show laws_toStringS.l0 (k + 1) l st (i : Int) = _
    rw [laws_toStringS.l0, if_pos (by omega), if_pos (by omega), if_pos (by omega)]
    rfl
  · intro k st
    show laws_toStringS.l0 (k + 1) l st (l.length : Int) = _
    rw [laws_toStringS.l0, if_neg (by omega)]
theorem toSum_ok (f0 : ByteArray) (h0 : f0.size ≤ maxLen) (f1 : ByteArray) (h1 : f1.size ≤ maxLen) (hw : w_Sum f0 f1 ≤ 1048576) : Ev (fun k => laws_toSum.f f0 f1) (f0, f1) := by
  unfold laws_toSum.f
  exact Ev.now _
def t_Sum (x : S124) : S51 := ⟨x.f0, x.f1⟩
theorem toSumS_ok (l : List S124) (h : l.length ≤ maxLen ∧ ∀ x_ ∈ l, (x_.f0.size ≤ maxLen ∧ x_.f1.size ≤ maxLen)) (hw : w_SumS l ≤ 1048576) : Ev (fun k => laws_toSumS.f k l) (l.map t_Sum) := by
  have hl := w_SumS_len l
  have e : ((l.length : Int)).toNat = l.length := Int.toNat_natCast _
  unfold laws_toSumS.f
  rw [e]
  refine ev_pos (by omega) (ev_pos (by omega) ?_)
  refine to_loop l z124 _ t_Sum (fun k i st => laws_toSumS.l0 k l st i) h.1 ?_ ?_
  · intro k i st hi hs
    show laws_toSumS.l0 (k + 1) l st (i : Int) = _
    rw [laws_toSumS.l0, if_pos (by omega), if_pos (by omega)]
    show (if (i : Int) < (st.length : Int) then _ else none) = _
    rw [if_pos (by omega)]
    rfl
  · intro k st
    show laws_toSumS.l0 (k + 1) l st (l.length : Int) = _
    rw [laws_toSumS.l0, if_neg (by omega)]
theorem toPack_ok (f0 : ByteArray) (h0 : f0.size ≤ maxLen) (f1 : ByteArray) (h1 : f1.size ≤ maxLen) (f2 : ByteArray) (h2 : f2.size ≤ maxLen) (f3 : List S124) (h3 : (f3.length ≤ maxLen ∧ ∀ x_ ∈ f3, (x_.f0.size ≤ maxLen ∧ x_.f1.size ≤ maxLen))) (f4 : Bool)  (f5 : List ByteArray) (h5 : (f5.length ≤ maxLen ∧ ∀ x_ ∈ f5, x_.size ≤ maxLen)) (hw : w_Pack f0 f1 f2 f3 f4 f5 ≤ 1048576) : Ev (fun k => laws_toPack.f k f0 f1 f2 f3 f4 f5) (f0, f1, f2, (f3.map t_Sum), f4, f5) := by
  unfold laws_toPack.f
  unfold w_Pack at hw
  have nf3 := w_SumS_nonneg f3
  have nf5 := w_StringS_nonneg f5
  refine Ev.bind (toSumS_ok f3 h3 (by omega)) ?_
  refine Ev.bind (toStringS_ok f5 h5 (by omega)) ?_
  exact Ev.now _
def t_Pack (x : S66) : S44 := ⟨x.f0, x.f1, x.f2, (x.f3.map t_Sum), x.f4, x.f5⟩
theorem toPackS_ok (l : List S66) (h : l.length ≤ maxLen ∧ ∀ x_ ∈ l, (x_.f0.size ≤ maxLen ∧ (x_.f1.size ≤ maxLen ∧ (x_.f2.size ≤ maxLen ∧ ((x_.f3.length ≤ maxLen ∧ ∀ xx_ ∈ x_.f3, (xx_.f0.size ≤ maxLen ∧ xx_.f1.size ≤ maxLen)) ∧ (True ∧ (x_.f5.length ≤ maxLen ∧ ∀ xx_ ∈ x_.f5, xx_.size ≤ maxLen))))))) (hw : w_PackS l ≤ 1048576) : Ev (fun k => laws_toPackS.f k l) (l.map t_Pack) := by
  have hl := w_PackS_len l
  have e : ((l.length : Int)).toNat = l.length := Int.toNat_natCast _
  unfold laws_toPackS.f
  rw [e]
  refine ev_pos (by omega) (ev_pos (by omega) ?_)
  refine to_loop2 l z66 _ t_Pack (fun k i st => laws_toPackS.l0 k l st i) (fun k x => (laws_toPack.f k x.f0 x.f1 x.f2 x.f3 x.f4 x.f5).bind fun b => some ⟨b.1, b.2.1, b.2.2.1, b.2.2.2.1, b.2.2.2.2.1, b.2.2.2.2.2⟩) h.1 ?_ ?_ ?_
  · intro k i st hi hs
    show laws_toPackS.l0 (k + 1) l st (i : Int) = _
    rw [laws_toPackS.l0, if_pos (by omega), if_pos (by omega), Option.bind_assoc]
    refine Option.bind_congr fun b _ => ?_
    show (if (i : Int) < (st.length : Int) then _ else none) = _
    rw [if_pos (by omega)]
    rfl
  · intro k st
    show laws_toPackS.l0 (k + 1) l st (l.length : Int) = _
    rw [laws_toPackS.l0, if_neg (by omega)]
  · intro x hx
    have hx' := h.2 x hx
    have hm := w_PackS_mem hx
    exact Ev.bind (toPack_ok x.f0 hx'.1 x.f1 hx'.2.1 x.f2 hx'.2.2.1 x.f3 hx'.2.2.2.1 x.f4 x.f5 hx'.2.2.2.2.2 (by omega)) (Ev.now _)
theorem toGraph_ok (f0 : List ByteArray) (h0 : (f0.length ≤ maxLen ∧ ∀ x_ ∈ f0, x_.size ≤ maxLen)) (f1 : List S66) (h1 : (f1.length ≤ maxLen ∧ ∀ x_ ∈ f1, (x_.f0.size ≤ maxLen ∧ (x_.f1.size ≤ maxLen ∧ (x_.f2.size ≤ maxLen ∧ ((x_.f3.length ≤ maxLen ∧ ∀ xx_ ∈ x_.f3, (xx_.f0.size ≤ maxLen ∧ xx_.f1.size ≤ maxLen)) ∧ (True ∧ (x_.f5.length ≤ maxLen ∧ ∀ xx_ ∈ x_.f5, xx_.size ≤ maxLen)))))))) (hw : w_Graph f0 f1 ≤ 1048576) : Ev (fun k => laws_toGraph.f k f0 f1) (f0, (f1.map t_Pack)) := by
  unfold laws_toGraph.f
  unfold w_Graph at hw
  have nf0 := w_StringS_nonneg f0
  have nf1 := w_PackS_nonneg f1
  refine Ev.bind (toStringS_ok f0 h0 (by omega)) ?_
  refine Ev.bind (toPackS_ok f1 h1 (by omega)) ?_
  exact Ev.now _
theorem szStringS_ok (l : List ByteArray) (h : l.length ≤ maxLen ∧ ∀ x_ ∈ l, x_.size ≤ maxLen) : Sz (fun k left => laws_szStringS.f k l left) (w_StringS l) := by
  have hs : ∀ x ∈ l, Sz (fun _ left => if wrap64 (left - (x.size : Int)) < 0 then some (-1) else some (wrap64 (left - (x.size : Int)))) (x.size : Int) := fun x hx => ⟨by omega, fun left hr => sz_last hr (h.2 x hx)⟩
  refine ⟨w_StringS_nonneg l, fun left hr => ?_⟩
  show Ev (fun k => laws_szStringS.f k l left) _
  unfold laws_szStringS.f w_StringS wList
  rw [room_sub hr h.1]
  refine sz_cut' hr (sumW_nonneg fun x hx => (hs x hx).1) fun hb hr => ?_
  refine sz_loop l ByteArray.empty (fun s => (s.size : Int)) (fun k i st => laws_szStringS.l0 k l st i) (fun _ x left => if wrap64 (left - (x.size : Int)) < 0 then some (-1) else some (wrap64 (left - (x.size : Int)))) h.1 ?_ ?_ hs _ hr
  · intro k i st hi
    show laws_szStringS.l0 (k + 1) l st (i : Int) = _
    rw [laws_szStringS.l0, if_pos (by omega), if_pos (by omega)]
    show (if wrap64 (st - ((l.getD i ByteArray.empty).size : Int)) < 0 then some (-1) else laws_szStringS.l0 k l (wrap64 (st - ((l.getD i ByteArray.empty).size : Int))) (wrap64 ((i : Int) + 1))) = _
    generalize wrap64 (st - ((l.getD i ByteArray.empty).size : Int)) = y
    by_cases hy : y < 0
    · simp only [if_pos hy]; rfl
    · simp only [if_neg hy]; show _ = (if y < 0 then _ else _); rw [if_neg hy]
  · intro k st
    show laws_szStringS.l0 (k + 1) l st (l.length : Int) = _
    rw [laws_szStringS.l0, if_neg (by omega)]
theorem szSum_ok (f0 : ByteArray) (h0 : f0.size ≤ maxLen) (f1 : ByteArray) (h1 : f1.size ≤ maxLen) : Sz (fun k left => laws_szSum.f f0 f1 left) (w_Sum f0 f1) := by
  refine ⟨w_Sum_nonneg f0 f1, fun left hr => ?_⟩
  show Ev (fun k => laws_szSum.f f0 f1 left) _
  unfold laws_szSum.f w_Sum
  rw [room_sub hr h0]
  refine sz_cut' hr (by omega) fun hb hr => ?_
  rw [room_sub hr h1]
  refine sz_cut' hr (by omega) fun hb hr => ?_
  exact sz_done hr
theorem szSumS_ok (l : List S124) (h : l.length ≤ maxLen ∧ ∀ x_ ∈ l, (x_.f0.size ≤ maxLen ∧ x_.f1.size ≤ maxLen)) : Sz (fun k left => laws_szSumS.f k l left) (w_SumS l) := by
  have hs : ∀ x ∈ l, Sz (fun k left => laws_szSum.f x.f0 x.f1 left) (w_Sum x.f0 x.f1) := fun x hx => by
    have hx' := h.2 x hx
    exact szSum_ok x.f0 hx'.1 x.f1 hx'.2
  refine ⟨w_SumS_nonneg l, fun left hr => ?_⟩
  show Ev (fun k => laws_szSumS.f k l left) _
  unfold laws_szSumS.f w_SumS wList
  rw [room_sub hr h.1]
  refine sz_cut' hr (sumW_nonneg fun x hx => (hs x hx).1) fun hb hr => ?_
  refine sz_loop l z124 (fun x => w_Sum x.f0 x.f1) (fun k i st => laws_szSumS.l0 k l st i) (fun k x left => laws_szSum.f x.f0 x.f1 left) h.1 ?_ ?_ hs _ hr
  · intro k i st hi
    show laws_szSumS.l0 (k + 1) l st (i : Int) = _
    rw [laws_szSumS.l0, if_pos (by omega), if_pos (by omega)]
    rfl
  · intro k st
    show laws_szSumS.l0 (k + 1) l st (l.length : Int) = _
    rw [laws_szSumS.l0, if_neg (by omega)]
theorem szPack_ok (f0 : ByteArray) (h0 : f0.size ≤ maxLen) (f1 : ByteArray) (h1 : f1.size ≤ maxLen) (f2 : ByteArray) (h2 : f2.size ≤ maxLen) (f3 : List S124) (h3 : (f3.length ≤ maxLen ∧ ∀ x_ ∈ f3, (x_.f0.size ≤ maxLen ∧ x_.f1.size ≤ maxLen))) (f4 : Bool)  (f5 : List ByteArray) (h5 : (f5.length ≤ maxLen ∧ ∀ x_ ∈ f5, x_.size ≤ maxLen)) : Sz (fun k left => laws_szPack.f k f0 f1 f2 f3 f4 f5 left) (w_Pack f0 f1 f2 f3 f4 f5) := by
  refine ⟨w_Pack_nonneg f0 f1 f2 f3 f4 f5, fun left hr => ?_⟩
  show Ev (fun k => laws_szPack.f k f0 f1 f2 f3 f4 f5 left) _
  unfold laws_szPack.f w_Pack
  have nf3 := w_SumS_nonneg f3
  have nf5 := w_StringS_nonneg f5
  rw [room_sub hr h0]
  refine sz_cut' hr (by omega) fun hb hr => ?_
  rw [room_sub hr h1]
  refine sz_cut' hr (by omega) fun hb hr => ?_
  rw [room_sub hr h2]
  refine sz_cut' hr (by omega) fun hb hr => ?_
  refine sz_call (g := fun k left => laws_szSumS.f k f3 left) (szSumS_ok f3 h3) hr (by omega) fun hb hr => ?_
  refine sz_call (g := fun k left => laws_szStringS.f k f5 left) (szStringS_ok f5 h5) hr (by omega) fun hb hr => ?_
  exact sz_done hr
theorem szPackS_ok (l : List S66) (h : l.length ≤ maxLen ∧ ∀ x_ ∈ l, (x_.f0.size ≤ maxLen ∧ (x_.f1.size ≤ maxLen ∧ (x_.f2.size ≤ maxLen ∧ ((x_.f3.length ≤ maxLen ∧ ∀ xx_ ∈ x_.f3, (xx_.f0.size ≤ maxLen ∧ xx_.f1.size ≤ maxLen)) ∧ (True ∧ (x_.f5.length ≤ maxLen ∧ ∀ xx_ ∈ x_.f5, xx_.size ≤ maxLen))))))) : Sz (fun k left => laws_szPackS.f k l left) (w_PackS l) := by
  have hs : ∀ x ∈ l, Sz (fun k left => laws_szPack.f k x.f0 x.f1 x.f2 x.f3 x.f4 x.f5 left) (w_Pack x.f0 x.f1 x.f2 x.f3 x.f4 x.f5) := fun x hx => by
    have hx' := h.2 x hx
    exact szPack_ok x.f0 hx'.1 x.f1 hx'.2.1 x.f2 hx'.2.2.1 x.f3 hx'.2.2.2.1 x.f4 x.f5 hx'.2.2.2.2.2
  refine ⟨w_PackS_nonneg l, fun left hr => ?_⟩
  show Ev (fun k => laws_szPackS.f k l left) _
  unfold laws_szPackS.f w_PackS wList
  rw [room_sub hr h.1]
  refine sz_cut' hr (sumW_nonneg fun x hx => (hs x hx).1) fun hb hr => ?_
  refine sz_loop l z66 (fun x => w_Pack x.f0 x.f1 x.f2 x.f3 x.f4 x.f5) (fun k i st => laws_szPackS.l0 k l st i) (fun k x left => laws_szPack.f k x.f0 x.f1 x.f2 x.f3 x.f4 x.f5 left) h.1 ?_ ?_ hs _ hr
  · intro k i st hi
    show laws_szPackS.l0 (k + 1) l st (i : Int) = _
    rw [laws_szPackS.l0, if_pos (by omega), if_pos (by omega)]
    rfl
  · intro k st
    show laws_szPackS.l0 (k + 1) l st (l.length : Int) = _
    rw [laws_szPackS.l0, if_neg (by omega)]
theorem szGraph_ok (f0 : List ByteArray) (h0 : (f0.length ≤ maxLen ∧ ∀ x_ ∈ f0, x_.size ≤ maxLen)) (f1 : List S66) (h1 : (f1.length ≤ maxLen ∧ ∀ x_ ∈ f1, (x_.f0.size ≤ maxLen ∧ (x_.f1.size ≤ maxLen ∧ (x_.f2.size ≤ maxLen ∧ ((x_.f3.length ≤ maxLen ∧ ∀ xx_ ∈ x_.f3, (xx_.f0.size ≤ maxLen ∧ xx_.f1.size ≤ maxLen)) ∧ (True ∧ (x_.f5.length ≤ maxLen ∧ ∀ xx_ ∈ x_.f5, xx_.size ≤ maxLen)))))))) : Sz (fun k left => laws_szGraph.f k f0 f1 left) (w_Graph f0 f1) := by
  refine ⟨w_Graph_nonneg f0 f1, fun left hr => ?_⟩
  show Ev (fun k => laws_szGraph.f k f0 f1 left) _
  unfold laws_szGraph.f w_Graph
  have nf0 := w_StringS_nonneg f0
  have nf1 := w_PackS_nonneg f1
  refine sz_call (g := fun k left => laws_szStringS.f k f0 left) (szStringS_ok f0 h0) hr (by omega) fun hb hr => ?_
  refine sz_call (g := fun k left => laws_szPackS.f k f1 left) (szPackS_ok f1 h1) hr (by omega) fun hb hr => ?_
  exact sz_done hr
end Go.Proofs.YteldcmniknocpaaGreatDoor.U

end
section
namespace Go.Proofs.YteldcmniknocpaaGreatDoor.U
open Go Go.RowKit Go.Proofs.YteldcmniknocpaaGreatDoorW.PrintWords Go.Proofs.YteldcmniknocpaaGreatDoor.G
set_option linter.unusedVariables false
theorem law_szt {w left : Int} {g : Nat → Int → Option Int} {f : Nat → Int → Option Bool} (hl : Room left) (hg : Sz g w) (h : w ≤ left → Ev (fun k => f k (left - w)) true) : Ev (fun k => (g k left).bind fun t => if t < 0 then some true else f k t) true := by
  refine Ev.bind (hg.2 left hl) ?_
  by_cases h0 : w ≤ left
  · rw [szOut_pos h0]; exact ev_neg (by omega) (h h0)
  · rw [szOut_neg (by omega)]; exact ev_pos (by omega) (Ev.now _)
def SmallP (x : S44) : Prop := (x.f0.size ≤ 1048576 ∧ x.f1.size ≤ 1048576 ∧ x.f2.size ≤ 1048576) ∧ (x.f3.length ≤ 1048576 ∧ x.f5.length ≤ 1048576) ∧ (∀ y ∈ x.f3, y.f0.size ≤ 1048576 ∧ y.f1.size ≤ 1048576) ∧ ∀ s ∈ x.f5, s.size ≤ 1048576
theorem w_SumS_all {l : List S124} {n : Int} (h : w_SumS l ≤ n) (hn : n ≤ 1048576) : ∀ y ∈ l.map t_Sum, y.f0.size ≤ 1048576 ∧ y.f1.size ≤ 1048576 := fun y hy => by
  obtain ⟨x, hx, rfl⟩ := List.mem_map.1 hy
  have := w_SumS_mem hx
  unfold w_Sum at this
  show x.f0.size ≤ _ ∧ x.f1.size ≤ _
  omega
theorem small_pack {x : S66} (h : w_Pack x.f0 x.f1 x.f2 x.f3 x.f4 x.f5 ≤ 1048576) : SmallP (t_Pack x) := by
  unfold w_Pack at h
  have n3 := w_SumS_nonneg x.f3
  have n5 := w_StringS_nonneg x.f5
  have l3 := w_SumS_len x.f3
  have l5 := w_StringS_len x.f5
  refine ⟨⟨?_, ?_, ?_⟩, ⟨?_, ?_⟩, ?_, ?_⟩
  · show x.f0.size ≤ _; omega
  · show x.f1.size ≤ _; omega
  · show x.f2.size ≤ _; omega
  · show (x.f3.map t_Sum).length ≤ _; rw [List.length_map]; omega
  · show x.f5.length ≤ _; omega
  · exact w_SumS_all (n := w_SumS x.f3) (Int.le_refl _) (by omega)
  · intro s hs
    have := w_StringS_mem (l := x.f5) hs
    omega
theorem small_graph {t : List ByteArray} {p : List S66} (h : w_Graph t p ≤ 1048576) : (t.length ≤ 1048576 ∧ ∀ s ∈ t, s.size ≤ 1048576) ∧ (p.map t_Pack).length ≤ 1048576 ∧ ∀ x ∈ p.map t_Pack, SmallP x := by
  unfold w_Graph at h
  have n1 := w_StringS_nonneg t
  have n2 := w_PackS_nonneg p
  have l1 := w_StringS_len t
  have l2 := w_PackS_len p
  refine ⟨⟨by omega, fun s hs => ?_⟩, by rw [List.length_map]; omega, fun x hx => ?_⟩
  · have := w_StringS_mem (l := t) hs; omega
  · obtain ⟨y, hy, rfl⟩ := List.mem_map.1 hx
    exact small_pack (by have := w_PackS_mem hy; omega)
theorem small_lists {l : List S44} (h : ∀ x ∈ l, SmallP x) (hl : l.length ≤ 1048576) : l.length ≤ maxLen ∧ ∀ x_ ∈ l, (x_.f3.length ≤ maxLen ∧ x_.f5.length ≤ maxLen) :=
  ⟨by unfold maxLen; omega, fun x hx => by have := (h x hx).2.1; unfold maxLen; omega⟩
end Go.Proofs.YteldcmniknocpaaGreatDoor.U

end
section
namespace Go.Proofs.YteldcmniknocpaaGreatDoor.U
open Go Go.RowKit Go.Proofs.YteldcmniknocpaaGreatDoorW.PrintWords Go.Proofs.YteldcmniknocpaaGreatDoor.G
set_option linter.unusedVariables false
set_option linter.unusedSimpArgs false
def keyOf (x : S44) : ByteArray := (x.f0 ++ (⟨#[64]⟩ : ByteArray)) ++ x.f1
def findFrom (key : ByteArray) : List S44 → Nat → Int
  | [], _ => -1
  | x :: l, i => if L (keyOf x) = L key then (i : Int) else findFrom key l (i + 1)
def findL (key : ByteArray) (l : List S44) : Int := findFrom key l 0
theorem key_spec (x : S44) (h : SmallP x) : spec_KeyOf.f x.f0 x.f1 x.f2 x.f3 x.f4 x.f5 = some (keyOf x) := by
  have e1 : (x.f0 ++ (⟨#[64]⟩ : ByteArray)).size = x.f0.size + 1 := by rw [ByteArray.size_append]; rfl
  have := h.1
  unfold spec_KeyOf.f keyOf; rw [if_pos (by omega), if_pos (by rw [e1]; omega)]
theorem key_impl (x : S44) (h : SmallP x) : impl_KeyOf.f x.f0 x.f1 x.f2 x.f3 x.f4 x.f5 = some (keyOf x) := by
  have e1 : (x.f0 ++ (⟨#[64]⟩ : ByteArray)).size = x.f0.size + 1 := by rw [ByteArray.size_append]; rfl
  have := h.1
  unfold impl_KeyOf.f keyOf; rw [if_pos (by omega), if_pos (by rw [e1]; omega)]
theorem spec_Find_ev (t : List ByteArray) (l : List S44) (key : ByteArray) (hl : l.length ≤ 1048576) (hs : ∀ x ∈ l, SmallP x) : Ev (fun k => spec_Find.f k t l key) (findL key l) := by
  unfold spec_Find.f findL
  have go : ∀ d i, i + d = l.length → Ev (fun k => spec_Find.l0 k key (i : Int) t l) (findFrom key (l.drop i) i) := by
    intro d
    induction d with
    | zero =>
      intro i hi
      rw [List.drop_of_length_le (by omega), findFrom]
      exact Ev.step (f := fun _ => some (-1)) (fun k => by rw [spec_Find.l0, if_neg (by omega)]) (Ev.now _)
    | succ d ih =>
      intro i hi
      have hm := hs _ (getD_mem l i z44 (by omega))
      have e2 : rd_T44 l (i : Int) = l.getD i z44 := rfl
      rw [drop_getD l i z44 (by omega), findFrom]
      refine Ev.step (f := fun k => if L (keyOf (l.getD i z44)) = L key then some (i : Int) else spec_Find.l0 k key ((i + 1 : Nat) : Int) t l) (fun k => ?_) ?_
      · rw [spec_Find.l0, if_pos (by omega), if_pos (by omega), e2, key_spec _ hm, Option.bind_some, toList_L, toList_L, wa1 i (by omega)]
      · by_cases h : L (keyOf (l.getD i z44)) = L key
        · rw [if_pos h]; exact ev_pos h (Ev.now _)
        · rw [if_neg h]; exact ev_neg h (ih (i + 1) (by omega))
  have := go l.length 0 (by omega)
  exact this
theorem impl_Find_ev (t : List ByteArray) (l : List S44) (key : ByteArray) (hl : l.length ≤ 1048576) (hs : ∀ x ∈ l, SmallP x) : Ev (fun k => impl_Find.f k t l key) (findL key l) := by
  unfold impl_Find.f impl_Pack__impl_Find_1.f findL
  have go : ∀ d i, i + d = l.length → Ev (fun k => impl_Pack__impl_Find_1.l0 key k l (l.length : Int) (i : Int)) (findFrom key (l.drop i) i) := by
    intro d
    induction d with
    | zero =>
      intro i hi
      rw [List.drop_of_length_le (by omega), findFrom]
      exact Ev.step (f := fun _ => some (-1)) (fun k => by rw [impl_Pack__impl_Find_1.l0, if_neg (by omega)]) (Ev.now _)
    | succ d ih =>
      intro i hi
      have hm := hs _ (getD_mem l i z44 (by omega))
      have e2 : rd_T44 l (i : Int) = l.getD i z44 := rfl
      rw [drop_getD l i z44 (by omega), findFrom]
      refine Ev.step (f := fun k => if (L (keyOf (l.getD i z44)) == L key) = true then some (i : Int) else impl_Pack__impl_Find_1.l0 key k l (l.length : Int) ((i + 1 : Nat) : Int)) (fun k => ?_) ?_
      · rw [impl_Pack__impl_Find_1.l0, if_pos (by omega), if_pos (by omega), if_pos (by omega), e2, impl_Find_1.f, key_impl _ hm, Option.bind_some, toList_L, toList_L, wa1 i (by omega)]; rfl
      · by_cases h : L (keyOf (l.getD i z44)) = L key
        · rw [if_pos h]; exact ev_pos (beq_iff_eq.2 h) (Ev.now _)
        · rw [if_neg h]; exact ev_neg (by rw [beq_iff_eq]; exact h) (ih (i + 1) (by omega))
  have := go l.length 0 (by omega)
  exact Ev.bind this (Ev.now _)
def packOk (x : S44) : Bool := nameOk (L x.f0) && (decide ((exactL x.f1).length = 1) && (plainOk (L x.f2) && sumsOk x.f3))
theorem spec_packOk (x : S44) (h : SmallP x) : Ev (fun k => spec_PackOk.f k x.f0 x.f1 x.f2 x.f3 x.f4 x.f5) (packOk x) := spec_PackOk_ev _ _ _ _ _ _ h.1.1 h.1.2.1 h.1.2.2 h.2.1.1
theorem impl_packOk (x : S44) (h : SmallP x) : Ev (fun k => impl_PackOk.f k x.f0 x.f1 x.f2 x.f3 x.f4 x.f5) (packOk x) := impl_PackOk_ev _ _ _ _ _ _ h.1.1 h.1.2.1 h.1.2.2 h.2.1.1
def keyAt (p : List S44) (l : List ByteArray) (i : Nat) : Bool := decide (0 ≤ findL (l.getD i ByteArray.empty) p) && (decide (i = 0) || Op.bytesLess (L (l.getD (i - 1) ByteArray.empty)) (L (l.getD i ByteArray.empty)))
def keysFrom (p : List S44) (l : List ByteArray) : Nat → Nat → Bool
  | 0, _ => true
  | d + 1, i => keyAt p l i && keysFrom p l d (i + 1)
def keysOk (p : List S44) (l : List ByteArray) : Bool := keysFrom p l l.length 0
def packAt (p : List S44) (i : Nat) : Bool := packOk (p.getD i z44) && (keysOk p (p.getD i z44).f5 && (decide (i = 0) || Op.bytesLess (L (keyOf (p.getD (i - 1) z44))) (L (keyOf (p.getD i z44)))))
def packsFrom (p : List S44) : Nat → Nat → Bool
  | 0, _ => true
  | d + 1, i => packAt p i && packsFrom p d (i + 1)
def graphOk (t : List ByteArray) (p : List S44) : Bool := packsFrom p p.length 0 && (decide (p.length ≤ 40) && keysOk p t)
theorem ask_key {l : List ByteArray} {i : Nat} {f : Nat → Option Bool} {r : Bool} (hr : Ev f r) (hi : i < l.length) {F : Nat → Option Bool}
    (hF : ∀ k, F k = if (i : Int) > 0 then (if (0 : Int) ≤ wrap64 ((i : Int) - 1) then (if wrap64 ((i : Int) - 1) < (l.length : Int) then (if (Op.bytesLess (rdOf ByteArray.empty l (wrap64 ((i : Int) - 1))).toList (rdOf ByteArray.empty l (i : Int)).toList) = true then f k else some false) else none) else none) else f k) (hn : l.length ≤ 1048576) :
    Ev F ((decide (i = 0) || Op.bytesLess (L (l.getD (i - 1) ByteArray.empty)) (L (l.getD i ByteArray.empty))) && r) := by
  have e : F = fun k => if (i : Int) > 0 then (if (0 : Int) ≤ wrap64 ((i : Int) - 1) then (if wrap64 ((i : Int) - 1) < (l.length : Int) then (if (Op.bytesLess (rdOf ByteArray.empty l (wrap64 ((i : Int) - 1))).toList (rdOf ByteArray.empty l (i : Int)).toList) = true then f k else some false) else none) else none) else f k := funext hF
  rw [e]
  by_cases h0 : i = 0
  · rw [decide_eq_true h0, Bool.true_or, Bool.true_and]; exact ev_neg (by omega) hr
  · have w : wrap64 ((i : Int) - 1) = ((i - 1 : Nat) : Int) := by rw [w64 (by omega) (by omega)]; omega
    have e1 : rdOf ByteArray.empty l (((i - 1 : Nat) : Int)) = l.getD (i - 1) ByteArray.empty := rfl
    have e2 : rdOf ByteArray.empty l (i : Int) = l.getD i ByteArray.empty := rfl
    rw [decide_eq_false h0, Bool.false_or, w, e1, e2, toList_L, toList_L]
    refine ev_pos (by omega) (ev_pos (by omega) (ev_pos (by omega) ?_))
    by_cases h : Op.bytesLess (L (l.getD (i - 1) ByteArray.empty)) (L (l.getD i ByteArray.empty)) = true
    · rw [h, Bool.true_and]; exact ev_pos rfl hr
    · simp only [Bool.not_eq_true] at h; rw [h]; exact ev_neg (by simp) (Ev.now _)
theorem impl_areKeys_ev (t : List ByteArray) (p : List S44) (l : List ByteArray) (hp : p.length ≤ 1048576) (hs : ∀ x ∈ p, SmallP x) (hl : l.length ≤ 1048576) : Ev (fun k => impl_areKeys.f k t p l) (keysOk p l) := by
  unfold impl_areKeys.f keysOk
  have key : ∀ d i, i + d = l.length → Ev (fun k => impl_areKeys.l0 k l l (l.length : Int) (i : Int) t p) (keysFrom p l d i) := by
    intro d
    induction d with
    | zero => intro i hi; exact Ev.step (f := fun _ => some true) (fun k => by rw [impl_areKeys.l0, if_neg (by omega)]) (Ev.now _)
    | succ d ih =>
      intro i hi
      rw [keysFrom, keyAt, Bool.and_assoc]
      have hr := ask_key (l := l) (i := i) (ih (i + 1) (by omega)) (by omega) (fun _ => rfl) hl
      have e2 : rdOf ByteArray.empty l (i : Int) = l.getD i ByteArray.empty := rfl
      refine Ev.step (fun k => by rw [impl_areKeys.l0, if_pos (by omega), if_pos (by omega), if_pos (by omega), wa1 i (by omega)]) ?_
      refine Ev.bind (impl_Find_ev t p _ hp hs) ?_
      rw [← e2]
      by_cases h : findL (rdOf ByteArray.empty l (i : Int)) p < 0
      · rw [decide_eq_false (show ¬ 0 ≤ findL (rdOf ByteArray.empty l (i : Int)) p by omega), Bool.false_and]; exact ev_pos h (Ev.now _)
      · rw [decide_eq_true (show 0 ≤ findL (rdOf ByteArray.empty l (i : Int)) p by omega), Bool.true_and]; exact ev_neg h hr
  exact key l.length 0 (by omega)
theorem spec_l04Keys_ev (t : List ByteArray) (p : List S44) (l : List ByteArray) (hp : p.length ≤ 1048576) (hs : ∀ x ∈ p, SmallP x) (hl : l.length ≤ 1048576) : Ev (fun k => spec_l04Keys.f k t p l) (keysOk p l) := by
  unfold spec_l04Keys.f keysOk
  have key : ∀ d i, i + d = l.length → Ev (fun k => spec_l04Keys.l0 k l (i : Int) t p) (keysFrom p l d i) := by
    intro d
    induction d with
    | zero => intro i hi; exact Ev.step (f := fun _ => some true) (fun k => by rw [spec_l04Keys.l0, if_neg (by omega)]) (Ev.now _)
    | succ d ih =>
      intro i hi
      rw [keysFrom, keyAt, Bool.and_assoc]
      have hr := ask_key (l := l) (i := i) (ih (i + 1) (by omega)) (by omega) (fun _ => rfl) hl
      have e2 : rdOf ByteArray.empty l (i : Int) = l.getD i ByteArray.empty := rfl
      refine Ev.step (fun k => by rw [spec_l04Keys.l0, if_pos (by omega), if_pos (show (0 : Int) ≤ (i : Int) by omega), wa1 i (by omega)]) ?_
      refine Ev.bind (spec_Find_ev t p _ hp hs) ?_
      rw [← e2]
      by_cases h : findL (rdOf ByteArray.empty l (i : Int)) p < 0
      · rw [decide_eq_false (show ¬ 0 ≤ findL (rdOf ByteArray.empty l (i : Int)) p by omega), Bool.false_and]; exact ev_pos h (Ev.now _)
      · rw [decide_eq_true (show 0 ≤ findL (rdOf ByteArray.empty l (i : Int)) p by omega), Bool.true_and]; exact ev_neg h hr
  exact key l.length 0 (by omega)
theorem ev_and {g f : Nat → Option Bool} {a r : Bool} (hg : Ev g a) (hf : Ev f r) : Ev (fun k => (g k).bind fun t => if t = true then f k else some false) (a && r) := by
  refine Ev.bind hg ?_
  cases a with
  | true => rw [Bool.true_and]; exact ev_pos rfl hf
  | false => exact ev_neg (by simp) (Ev.now _)
theorem and_last {g : Nat → Option Bool} {a : Bool} (hg : Ev g a) (n : Nat) : Ev (fun k => if (n : Int) ≤ 40 then (g k).bind fun t => some t else some false) (decide (n ≤ 40) && a) := by
  by_cases h : n ≤ 40
  · rw [decide_eq_true h, Bool.true_and]; exact ev_pos (by omega) (Ev.bind hg (Ev.now _))
  · rw [decide_eq_false h]; exact ev_neg (by omega) (Ev.now _)
theorem packAt_impl (p : List S44) (i : Nat) (a b : Bool) : ((packAt p i && a) && b) = (packOk (p.getD i z44) && ((decide (i = 0) || Op.bytesLess (L (keyOf (p.getD (i - 1) z44))) (L (keyOf (p.getD i z44)))) && (keysOk p (p.getD i z44).f5 && (a && b)))) := by
  unfold packAt
  cases packOk (p.getD i z44) <;> cases keysOk p (p.getD i z44).f5 <;> cases (decide (i = 0) || Op.bytesLess (L (keyOf (p.getD (i - 1) z44))) (L (keyOf (p.getD i z44)))) <;> rfl
theorem packAt_spec (p : List S44) (i : Nat) (a b : Bool) : ((packAt p i && a) && b) = (packOk (p.getD i z44) && (keysOk p (p.getD i z44).f5 && ((decide (i = 0) || Op.bytesLess (L (keyOf (p.getD (i - 1) z44))) (L (keyOf (p.getD i z44)))) && (a && b)))) := by
  unfold packAt
  cases packOk (p.getD i z44) <;> cases keysOk p (p.getD i z44).f5 <;> cases (decide (i = 0) || Op.bytesLess (L (keyOf (p.getD (i - 1) z44))) (L (keyOf (p.getD i z44)))) <;> rfl
theorem impl_GraphOk_ev (t : List ByteArray) (p : List S44) (hp : p.length ≤ 1048576) (hs : ∀ x ∈ p, SmallP x) (ht : t.length ≤ 1048576) : Ev (fun k => impl_GraphOk.f k t p) (graphOk t p) := by
  unfold impl_GraphOk.f graphOk
  have key : ∀ d i, i + d = p.length → Ev (fun k => impl_GraphOk.l0 k p (p.length : Int) (i : Int) t p) (packsFrom p d i && (decide (p.length ≤ 40) && keysOk p t)) := by
    intro d
    induction d with
    | zero =>
      intro i hi
      rw [packsFrom, Bool.true_and]
      exact Ev.step (fun k => by rw [impl_GraphOk.l0, if_neg (by omega)]) (and_last (impl_areKeys_ev t p t hp hs ht) p.length)
    | succ d ih =>
      intro i hi
      have hm := hs _ (getD_mem p i z44 (by omega))
      have e2 : rd_T44 p (i : Int) = p.getD i z44 := rfl
      rw [packsFrom, packAt_impl]
      have tail := ev_and (impl_areKeys_ev t p _ hp hs hm.2.1.2) (ih (i + 1) (by omega))
      refine Ev.step (fun k => by rw [impl_GraphOk.l0, if_pos (by omega), if_pos (by omega), if_pos (by omega), wa1 i (by omega), e2]) ?_
      refine ev_and (impl_packOk _ hm) ?_
      by_cases h0 : i = 0
      · rw [decide_eq_true h0, Bool.true_or, Bool.true_and]; exact ev_neg (by omega) tail
      · have w : wrap64 ((i : Int) - 1) = ((i - 1 : Nat) : Int) := by rw [w64 (by omega) (by omega)]; omega
        have e1 : rd_T44 p (((i - 1 : Nat) : Int)) = p.getD (i - 1) z44 := rfl
        have hm1 := hs _ (getD_mem p (i - 1) z44 (by omega))
        rw [decide_eq_false h0, Bool.false_or, w, e1, key_impl _ hm, key_impl _ hm1]
        simp only [Option.bind_some, toList_L]
        refine ev_pos (by omega) (ev_pos (by omega) (ev_pos (by omega) ?_))
        by_cases h : Op.bytesLess (L (keyOf (p.getD (i - 1) z44))) (L (keyOf (p.getD i z44))) = true
        · rw [h, Bool.true_and]; exact ev_pos rfl tail
        · simp only [Bool.not_eq_true] at h; rw [h]; exact ev_neg (by simp) (Ev.now _)
  exact key p.length 0 (by omega)
theorem spec_GraphOk_ev (t : List ByteArray) (p : List S44) (hp : p.length ≤ 1048576) (hs : ∀ x ∈ p, SmallP x) (ht : t.length ≤ 1048576) : Ev (fun k => spec_GraphOk.f k t p) (graphOk t p) := by
  unfold spec_GraphOk.f graphOk
  have key : ∀ d i, i + d = p.length → Ev (fun k => spec_GraphOk.l0 k (i : Int) t p) (packsFrom p d i && (decide (p.length ≤ 40) && keysOk p t)) := by
    intro d
    induction d with
    | zero =>
      intro i hi
      rw [packsFrom, Bool.true_and]
      exact Ev.step (fun k => by rw [spec_GraphOk.l0, if_neg (by omega)]) (and_last (spec_l04Keys_ev t p t hp hs ht) p.length)
    | succ d ih =>
      intro i hi
      have hm := hs _ (getD_mem p i z44 (by omega))
      have e2 : rd_T44 p (i : Int) = p.getD i z44 := rfl
      rw [packsFrom, packAt_spec]
      refine Ev.step (fun k => by rw [spec_GraphOk.l0, if_pos (by omega), if_pos (show (0 : Int) ≤ (i : Int) by omega), wa1 i (by omega), e2]) ?_
      refine ev_and (spec_packOk _ hm) (ev_and (spec_l04Keys_ev t p _ hp hs hm.2.1.2) ?_)
      have tail := ih (i + 1) (by omega)
      by_cases h0 : i = 0
      · rw [decide_eq_true h0, Bool.true_or, Bool.true_and]; exact ev_neg (by omega) tail
      · have w : wrap64 ((i : Int) - 1) = ((i - 1 : Nat) : Int) := by rw [w64 (by omega) (by omega)]; omega
        have e1 : rd_T44 p (((i - 1 : Nat) : Int)) = p.getD (i - 1) z44 := rfl
        have hm1 := hs _ (getD_mem p (i - 1) z44 (by omega))
        rw [decide_eq_false h0, Bool.false_or, w, e1, key_spec _ hm, key_spec _ hm1]
        simp only [Option.bind_some, toList_L]
        refine ev_pos (by omega) (ev_pos (by omega) (ev_pos (by omega) ?_))
        by_cases h : Op.bytesLess (L (keyOf (p.getD (i - 1) z44))) (L (keyOf (p.getD i z44))) = true
        · rw [h, Bool.true_and]; exact ev_pos rfl tail
        · simp only [Bool.not_eq_true] at h; rw [h]; exact ev_neg (by simp) (Ev.now _)
  exact key p.length 0 (by omega)
end Go.Proofs.YteldcmniknocpaaGreatDoor.U

end
section
namespace Go.Proofs.YteldcmniknocpaaGreatDoor.U
open Go Go.RowKit Go.Proofs.YteldcmniknocpaaGreatDoorW.PrintWords Go.Proofs.YteldcmniknocpaaGreatDoor.G
set_option linter.unusedVariables false
set_option maxRecDepth 100000
theorem eqStringS_ok (l : List ByteArray) (h : l.length ≤ maxLen) : Ev (fun k => laws_eqStringS.f k l l) true := by
  unfold laws_eqStringS.f
  refine ev_pos rfl ?_
  refine eq_loop l ByteArray.empty (fun k i => laws_eqStringS.l0 k l l i) (fun _ x => some true) h ?_ ?_ (fun _ _ => Ev.now _)
  · intro k i hi
    show laws_eqStringS.l0 (k + 1) l l (i : Int) = _
    rw [laws_eqStringS.l0, if_pos (by omega), if_pos (by omega), if_pos (by omega), if_pos rfl]
    rfl
  · intro k
    show laws_eqStringS.l0 (k + 1) l l (l.length : Int) = _
    rw [laws_eqStringS.l0, if_neg (by omega)]
theorem eqSum_ok (f0 : ByteArray)  (f1 : ByteArray)  : Ev (fun k => laws_eqSum.f f0 f1 f0 f1) true := by
  unfold laws_eqSum.f
  refine ev_pos rfl ?_
  refine ev_pos rfl ?_
  exact Ev.now _
theorem eqSumS_ok (l : List S51) (h : l.length ≤ maxLen) : Ev (fun k => laws_eqSumS.f k l l) true := by
  unfold laws_eqSumS.f
  refine ev_pos rfl ?_
  refine eq_loop l z51 (fun k i => laws_eqSumS.l0 k l l i) (fun k x => laws_eqSum.f x.f0 x.f1 x.f0 x.f1) h ?_ ?_ (fun x hx => eqSum_ok x.f0 x.f1)
  · intro k i hi
    show laws_eqSumS.l0 (k + 1) l l (i : Int) = _
    rw [laws_eqSumS.l0, if_pos (by omega), if_pos (by omega), if_pos (by omega)]
    rfl
  · intro k
    show laws_eqSumS.l0 (k + 1) l l (l.length : Int) = _
    rw [laws_eqSumS.l0, if_neg (by omega)]
theorem eqPack_ok (f0 : ByteArray)  (f1 : ByteArray)  (f2 : ByteArray)  (f3 : List S51) (h3 : f3.length ≤ maxLen) (f4 : Bool)  (f5 : List ByteArray) (h5 : f5.length ≤ maxLen) : Ev (fun k => laws_eqPack.f k f0 f1 f2 f3 f4 f5 f0 f1 f2 f3 f4 f5) true := by
  unfold laws_eqPack.f
  refine ev_pos rfl ?_
  refine ev_pos rfl ?_
  refine ev_pos rfl ?_
  refine Ev.bind (eqSumS_ok f3 h3) ?_
  refine ev_pos rfl ?_
  refine ev_neg (by simp) ?_
  refine Ev.bind (eqStringS_ok f5 h5) ?_
  refine ev_pos rfl ?_
  exact Ev.now _
theorem eqPackS_ok (l : List S44) (h : (l.length ≤ maxLen ∧ ∀ x_ ∈ l, (x_.f3.length ≤ maxLen ∧ x_.f5.length ≤ maxLen))) : Ev (fun k => laws_eqPackS.f k l l) true := by
  unfold laws_eqPackS.f
  refine ev_pos rfl ?_
  refine eq_loop l z44 (fun k i => laws_eqPackS.l0 k l l i) (fun k x => laws_eqPack.f k x.f0 x.f1 x.f2 x.f3 x.f4 x.f5 x.f0 x.f1 x.f2 x.f3 x.f4 x.f5) h.1 ?_ ?_ (fun x hx => eqPack_ok x.f0 x.f1 x.f2 x.f3 (h.2 x hx).1 x.f4 x.f5 (h.2 x hx).2)
  · intro k i hi
    show laws_eqPackS.l0 (k + 1) l l (i : Int) = _
    rw [laws_eqPackS.l0, if_pos (by omega), if_pos (by omega), if_pos (by omega)]
    rfl
  · intro k
    show laws_eqPackS.l0 (k + 1) l l (l.length : Int) = _
    rw [laws_eqPackS.l0, if_neg (by omega)]
theorem eqGraph_ok (f0 : List ByteArray) (h0 : f0.length ≤ maxLen) (f1 : List S44) (h1 : (f1.length ≤ maxLen ∧ ∀ x_ ∈ f1, (x_.f3.length ≤ maxLen ∧ x_.f5.length ≤ maxLen))) : Ev (fun k => laws_eqGraph.f k f0 f1 f0 f1) true := by
  unfold laws_eqGraph.f
  refine Ev.bind (eqStringS_ok f0 h0) ?_
  refine ev_pos rfl ?_
  refine Ev.bind (eqPackS_ok f1 h1) ?_
  refine ev_pos rfl ?_
  exact Ev.now _
end Go.Proofs.YteldcmniknocpaaGreatDoor.U

end
section
namespace Go.Proofs.YteldcmniknocpaaGreatDoor.Pure
open Go Go.RowKit Go.Proofs.YteldcmniknocpaaGreatDoorW.PrintWords Go.Proofs.YteldcmniknocpaaGreatDoor.G Go.Proofs.YteldcmniknocpaaGreatDoor.U
theorem FnExactGraphOk : laws_FnExactGraphOk.Pure := by
  intro t p ht hp
  refine Ev.rounds (r := true) ?_
  unfold laws_FnExactGraphOk.f
  refine law_sz (szGraph_ok t ht p hp) fun hw => ?_
  have tt := toGraph_ok t ht p hp hw
  have g1 := small_graph hw
  have e1 := eqGraph_ok t ht.1 (p.map t_Pack) (small_lists g1.2.2 g1.2.1)
  have r1 := spec_GraphOk_ev t (p.map t_Pack) g1.2.1 g1.2.2 g1.1.1
  have r2 := impl_GraphOk_ev t (p.map t_Pack) g1.2.1 g1.2.2 g1.1.1
  exact Ev.bind tt (Ev.bind r1 (Ev.bind tt (Ev.bind r2 (ev_neg (by simp) (Ev.bind tt (Ev.bind e1 (ev_pos rfl (Ev.now _))))))))
end Go.Proofs.YteldcmniknocpaaGreatDoor.Pure

end
section
namespace Go.Proofs.YteldcmniknocpaaGreatDoor.fnExactGraphOk
open Go.ChangeShapes Go.WideShapes Go.ChangeAt Go.RowKit Go.Proofs.YteldcmniknocpaaGreatDoor Go.Proofs.YteldcmniknocpaaGreatDoor.G Go.Proofs.YteldcmniknocpaaGreatDoorW.PrintWords
open Go.ChangeMaps (open_string shut_string)
set_option linter.unusedVariables false
set_option linter.unusedSimpArgs false
theorem own : ownKnob Tryz.prog.godebug = none := by kernel_rfl
theorem laidOut : laidOutB Tryz.prog = true := by kernel_rfl
theorem opens124 : Op.Opens Tryz.prog 124 k124 (fun x_ => (x_.f0.size ≤ maxLen ∧ x_.f1.size ≤ maxLen)) := Op.opens_struct (g := (fun x : S124 => (x.f0, x.f1))) (by kernel_rfl) Tryz.underlying124 (fun a => ⟨⟨a.1, a.2⟩, rfl⟩) (Op.opensF_cons rfl (Op.opens_string (by kernel_rfl) Tryz.underlying9) (Op.opensF_one rfl (Op.opens_string (by kernel_rfl) Tryz.underlying9)))
theorem opens66 : Op.Opens Tryz.prog 66 k66 (fun x_ => (x_.f0.size ≤ maxLen ∧ (x_.f1.size ≤ maxLen ∧ (x_.f2.size ≤ maxLen ∧ ((x_.f3.length ≤ maxLen ∧ ∀ xx_ ∈ x_.f3, (xx_.f0.size ≤ maxLen ∧ xx_.f1.size ≤ maxLen)) ∧ (True ∧ (x_.f5.length ≤ maxLen ∧ ∀ xx_ ∈ x_.f5, xx_.size ≤ maxLen))))))) := Op.opens_struct (g := (fun x : S66 => (x.f0, x.f1, x.f2, x.f3, x.f4, x.f5))) (by kernel_rfl) Tryz.underlying66 (fun a => ⟨⟨a.1, a.2.1, a.2.2.1, a.2.2.2.1, a.2.2.2.2.1, a.2.2.2.2.2⟩, rfl⟩) (Op.opensF_cons rfl (Op.opens_string (by kernel_rfl) Tryz.underlying9) (Op.opensF_cons rfl (Op.opens_string (by kernel_rfl) Tryz.underlying9) (Op.opensF_cons rfl (Op.opens_string (by kernel_rfl) Tryz.underlying9) (Op.opensF_cons rfl (Op.opens_slice (by kernel_rfl) Tryz.underlying64 opens124) (Op.opensF_cons rfl (Op.opens_bool (by kernel_rfl) Tryz.underlying4) (Op.opensF_one rfl (Op.opens_slice (by kernel_rfl) Tryz.underlying22 (Op.opens_string (by kernel_rfl) Tryz.underlying9))))))))
theorem opensArg0 : Op.Opens Tryz.prog 25 (Kd.iso (Kd.pair (Kd.slice 9 Kd.string) (Kd.slice 66 k66)) id) (fun y_ : List ByteArray × List (S66) => ((y_.1.length ≤ maxLen ∧ ∀ x_ ∈ y_.1, x_.size ≤ maxLen) ∧ (y_.2.length ≤ maxLen ∧ ∀ x_ ∈ y_.2, (x_.f0.size ≤ maxLen ∧ (x_.f1.size ≤ maxLen ∧ (x_.f2.size ≤ maxLen ∧ ((x_.f3.length ≤ maxLen ∧ ∀ xx_ ∈ x_.f3, (xx_.f0.size ≤ maxLen ∧ xx_.f1.size ≤ maxLen)) ∧ (True ∧ (x_.f5.length ≤ maxLen ∧ ∀ xx_ ∈ x_.f5, xx_.size ≤ maxLen))))))))) := Op.opens_struct (g := id) (by kernel_rfl) Tryz.underlying25 (fun a => ⟨a, rfl⟩) (Op.opensF_cons rfl (Op.opens_slice (by kernel_rfl) Tryz.underlying22 (Op.opens_string (by kernel_rfl) Tryz.underlying9)) (Op.opensF_one rfl (Op.opens_slice (by kernel_rfl) Tryz.underlying23 opens66)))
set_option maxRecDepth 100000 in
theorem contract (H : Type) (enc : TypeId × Value → H) (W : World) (base : Nat) (args : Array Value) (ds gs : List (DataW H)) (before : List MemPlace)
    (hval : ∀ (j : Nat) t v, Tryz.f3.params[j]? = some t → args[j]? = some v → Value.okWide Tryz.prog W .any base t v)
    (hW : DataW.Whole enc Tryz.prog Tryz.f3.params.toList Rows.fnExactGraphOkSpec.vars false W args.toList ds gs before) (hFE : Glob FactE W) (hFM : Glob FactM W) (hFT : Glob FactT W) :
    Calls Tryz.prog 3 args W fun e W' => ∃ v, e = .returned v ∧ Rows.fnExactGraphOkSpec.post enc Tryz.prog Tryz.f3 false true false false W args v W' := by
  have hW' := hW
  obtain ⟨p, q, hA0, hV, rfl, hfz, hnd⟩ := hW
  have hA : DataW.TrodAll enc Tryz.prog W 0 (fun _ => true) true Tryz.f3.params.toList args.toList ds p := hA0
  rw [Tryz.params3] at hA hval
  obtain ⟨v0, vs0, d0, ds0, p0, q0, hargs, rfl, rfl, h0, r0⟩ := trodAll_cons hA
  obtain ⟨rfl, rfl, rfl⟩ := trodAll_nil r0
  obtain rfl : args = #[v0] := by cases args; simp_all
  obtain ⟨rfl, rfl⟩ := trodVars_none hV
  obtain ⟨cs0, rfl, _⟩ := okWide_struct Tryz.underlying25 (hval 0 25 v0 rfl rfl)
  have k0 := h0
  have lt0 : ∀ x ∈ p0, x.block < W.heap.size := by obtain ⟨m, hm⟩ := k0; exact DataW.trod_lt m _ _ _ hm
  obtain ⟨⟨l0_0, l0_1⟩, hK0, ⟨z0_0, z0_1⟩⟩ := Op.arg_struct opensArg0 h0
  have hK0_ : ((Kd.pair (Kd.slice 9 Kd.string) (Kd.slice 66 k66))).K W (l0_0, l0_1) cs0.toList := hK0
  obtain ⟨u0_0, w0_0, e0_0, kk0_0, m0_0⟩ := hK0_
  obtain ⟨A0_0, c0_0, rfl, hc0_0, hr0_0⟩ := kk0_0
  obtain ⟨A0_1, c0_1, el0_1, hc0_1, hr0_1⟩ := m0_0
  obtain rfl : cs0 = #[.slice A0_0 l0_0.length c0_0, .slice A0_1 l0_1.length c0_1] := by
    apply Array.toList_inj.1
    rw [e0_0, el0_1]
    first | done | rfl
  clear hA0
  obtain ⟨k, h⟩ := Pure.FnExactGraphOk l0_0 l0_1 z0_0 z0_1
  refine (laws_FnExactGraphOk.calls k A0_0 c0_0 l0_0 A0_1 c0_1 l0_1 true W hr0_0 hc0_0 hr0_1 hc0_1 hFE hFM hFT rfl h).mono fun e W' ⟨he, bel0⟩ => ?_
  have bel : Below W.heap.size W W' := bel0
  subst he
  exact ⟨_, rfl, _, _, _, [], _, [], hW', trodAll_mk1 (shut_bool Tryz.underlying4 _), (trodAll_cons_mk (Below.trod laidOut (by kernel_rfl) (of_decide_eq_true (by kernel_rfl)) k0 bel lt0) trodAll_mk0), rfl, bel.frame _, fun h => by cases h⟩
theorem laid_met (os : Os) : laidMet Tryz.prog Rows.fnExactGraphOkRow.laid ((Laid.world os).forCall (fun _ _ => 0) ⟨#[], #[.agg #[.slice none 0 0, .slice none 0 0]], []⟩).memory :=
  laidMet_of_run' Laid.fuel (by kernel_rfl) (by kernel_rfl)
theorem reads (os : Os) {H : Type} (enc : TypeId × Value → H) : ∃ places, DataW.whole enc Tryz.prog ((Laid.world os).forCall (fun _ _ => 0) ⟨#[], #[.agg #[.slice none 0 0, .slice none 0 0]], []⟩).memory Tryz.f3.params.toList Rows.fnExactGraphOkSpec.vars false (#[.agg #[.slice none 0 0, .slice none 0 0]] : Array Value).toList 8 = some ([.agg [.nil, .nil]], [], places) :=
  ⟨[], by kernel_rfl⟩
set_option maxRecDepth 100000 in
theorem lifted (os : Os) (started : os.Started) (H : Type) (enc : TypeId × Value → H) (F : Stop.Interp) :
    ReturnsInHanded {} Tryz.checked os 3 .any ((OpenSpec.ofChange Rows.fnExactGraphOkSpec).preRow enc Tryz.prog Tryz.f3 Rows.fnExactGraphOkRow.domain false Rows.fnExactGraphOkRow.laid) (((OpenSpec.ofChange Rows.fnExactGraphOkSpec).at F).post enc Tryz.prog Tryz.f3 false true false false) := by
  obtain ⟨places, hx⟩ := reads os enc
  refine returnsInHanded_of_row (C := Tryz.checked) (s := OpenSpec.ofChange Rows.fnExactGraphOkSpec) own started (by kernel_rfl) Tryz.func3
    (witness_row_atRef (enc := enc) (C := Tryz.checked) false (Laid.world os) #[.agg #[.slice none 0 0, .slice none 0 0]] rfl (Laid.vars os _) (Laid.heap os _) (by kernel_rfl)
      (OpenSpec.preRow_of_cond 8 hx (by kernel_rfl) (fun k hk => by cases hk) (by kernel_rfl) (laid_met os))) ?_
  intro W base args ds gs before hval hW _ _ _ hL hS _
  exact contract H enc W base args ds gs before hval hW (FactE_of hS hL (fun h => h) (by repeat (first | exact List.Mem.head _ | apply List.Mem.tail)) (by repeat (first | exact List.Mem.head _ | apply List.Mem.tail))) (FactM_of hS hL) (FactT_of hS hL (fun h => h) (by repeat (first | exact List.Mem.head _ | apply List.Mem.tail)))
theorem j10 : (Rows.fnExactGraphOkRow.inPlace == Tryz.prog.inPlace 3) = true := by kernel_rfl
theorem j11 : (Rows.fnExactGraphOkRow.unfollowed == Tryz.prog.unfollowed 3) = true := by kernel_rfl
theorem j12 : (Rows.fnExactGraphOkRow.recurses == Tryz.prog.recurses 3) = true := by kernel_rfl
theorem j13 : (Rows.fnExactGraphOkRow.named == Tryz.prog.varsNamed 3) = true := by kernel_rfl
set_option maxRecDepth 100000 in
theorem closed : joinedFacts Tryz.prog 3 Tryz.f3 (OpenSpec.ofChange Rows.fnExactGraphOkSpec).bare Rows.fnExactGraphOkRow = true :=
  (Facts.and_mk (Facts.and_mk (Facts.and_mk (Facts.and_mk (Facts.and_mk (Facts.and_mk (Facts.and_mk (Facts.and_mk (Facts.and_mk (Facts.and_mk (Facts.and_mk (Facts.and_mk (Facts.and_mk (Facts.and_mk (Facts.and_mk (Facts.and_mk (Facts.and_mk (Facts.and_mk (Facts.and_mk (Facts.and_mk (Facts.and_mk (Facts.and_mk (Facts.and_mk (Facts.and_mk (Facts.and_mk (Facts.and_mk (Facts.and_mk (Facts.and_mk (Facts.and_mk (Facts.and_mk (Facts.and_mk (by kernel_rfl) Facts.laidOut) Facts.mapsRowed) (by kernel_rfl)) (by kernel_rfl)) (by kernel_rfl)) (by kernel_rfl)) (by kernel_rfl)) (by kernel_rfl)) j10) j11) j12) j13) (by kernel_rfl)) (by kernel_rfl)) (by kernel_rfl)) (by kernel_rfl)) (by kernel_rfl)) (by kernel_rfl)) (by kernel_rfl)) (by kernel_rfl)) (by kernel_rfl)) (Facts.plainKeys _ rfl)) (by kernel_rfl)) Facts.heard) Facts.mayEnter) (Facts.lifts _ rfl)) (Facts.make _ rfl)) (by kernel_rfl)) (by kernel_rfl)) (by kernel_rfl)) (by kernel_rfl))
theorem goes : false = Rows.fnExactGraphOkRow.goesBy Tryz.prog := by kernel_rfl
theorem said : Rows.FnExactGraphOkSaid :=
  OpenClaim.holds_of_cond 3 Tryz.f3 rfl rfl rfl rfl rfl rfl rfl ⟨rfl, rfl, rfl, rfl, rfl⟩ rfl rfl rfl rfl rfl (by kernel_rfl) Tryz.func3 closed
    (of_decide_eq_true (by kernel_rfl)) (by unfold Func.isWrapper; first | (rw [if_pos (by decide +kernel)]; kernel_rfl) | (rw [if_neg (by decide +kernel)]; exact ⟨rfl, rfl⟩))
    (fun os started H enc _ F => by rw [OpenClaim.pre_eq_preRow]; exact lifted os started H enc F)
theorem plain (f : FuncId) (fn : Func) (hf : Tryz.pinned.checked.prog.funcNamed "loop.example/g00445/laws.FnExactGraphOk" = some f) (hfn : Tryz.pinned.checked.prog.funcs[f]? = some fn) :
    true = Tryz.pinned.checked.prog.looks [] ∧ ∀ (j : Nat) t, fn.params[j]? = some t → Tryz.pinned.checked.prog.wantsStandIn t = false := by
  obtain rfl : f = 3 := Option.some.inj ((show Tryz.prog.funcNamed "loop.example/g00445/laws.FnExactGraphOk" = some 3 by kernel_rfl).symm.trans hf) |>.symm
  obtain rfl : fn = Tryz.f3 := (Option.some.inj (Tryz.func3.symm.trans hfn)).symm
  refine ⟨Facts.looks, fun j t ht => ?_⟩
  rw [Tryz.params3] at ht
  have hm := Array.mem_of_getElem? ht
  have hall : (#[25] : Array TypeId).all (fun t => Tryz.prog.wantsStandIn t == false) = true := by kernel_rfl
  show Tryz.prog.wantsStandIn t = false
  have h1 := Array.all_eq_true'.1 hall t hm
  exact beq_iff_eq.1 h1
theorem proved : Rows.FnExactGraphOkCardSaid :=
  Claim7.holds_tied_plain_at .later [] _ _ _ _ said (fun _ h => by cases h) (by kernel_rfl) (fun _ h => by cases h) fnExactGraphOk_row_tie rfl ⟨rfl, rfl⟩ Facts.main rfl plain goes
end Go.Proofs.YteldcmniknocpaaGreatDoor.fnExactGraphOk
namespace Go.Proofs.YteldcmniknocpaaGreatDoor
theorem fnExactGraphOk_holds : Rows.FnExactGraphOkCardSaid := fnExactGraphOk.proved
end Go.Proofs.YteldcmniknocpaaGreatDoor

end
