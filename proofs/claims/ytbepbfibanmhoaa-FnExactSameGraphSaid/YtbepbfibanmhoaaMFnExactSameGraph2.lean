/- What is proved: the law FnExactSameGraph answers true at every input that its row speaks of (part 3 of 3 of its proof, merged by wip/tools/merge.py). Conditions: the row's own. -/
import Derived.Test.YtbepbfibanmhoaaMFnExactSameGraph1
import Derived.Test.YtbepbfibanmhoaaGspecSameGraph
import Derived.Test.YtbepbfibanmhoaaGimplSameGraph
import Derived.Test.YtbepbfibanmhoaaG0
import Derived.Test.YtbepbfibanmhoaaRows
import Derived.Test.YtbepbfibanmhoaaOp
import Derived.WalkKit
import Derived.ProofKit
import Derived.OpenShut
import Derived.ShutString
import Derived.ChangeOld
import Derived.Below
import Derived.SizedLaws
import Derived.Carry
section
namespace Go.Proofs.Ytbepbfibanmhoaa.U
open Go Go.RowKit Go.Proofs.YtbepbfibanmhoaaW.PrintWords Go.Proofs.Ytbepbfibanmhoaa.G
set_option linter.unusedVariables false
set_option linter.unusedSimpArgs false

/-- Two lists, member by member. -/
def all2 {α : Type} (p : α → α → Bool) : List α → List α → Bool
  | [], [] => true
  | x :: l, y :: m => p x y && all2 p l m
  | _, _ => false
theorem all2_len {α : Type} (p : α → α → Bool) : ∀ l m : List α, l.length ≠ m.length → all2 p l m = false
  | [], [], h => absurd rfl h
  | [], _ :: _, _ => rfl
  | _ :: _, [], _ => rfl
  | x :: l, y :: m, h => by rw [all2, all2_len p l m (by simpa using h), Bool.and_false]
theorem pair_loop {α : Type} (l m : List α) (z : α) (p : α → α → Bool) (hlen : l.length = m.length) (g : Nat → Int → Option Bool) (hend : Ev (fun k => g k (l.length : Int)) true)
    (hstep : ∀ (i : Nat) (r : Bool), i < l.length → Ev (fun k => g k ((i + 1 : Nat) : Int)) r → Ev (fun k => g k (i : Int)) (p (l.getD i z) (m.getD i z) && r)) : Ev (fun k => g k 0) (all2 p l m) := by
  have key : ∀ d i, i + d = l.length → Ev (fun k => g k (i : Int)) (all2 p (l.drop i) (m.drop i)) := by
    intro d
    induction d with
    | zero =>
      intro i hi
      have e : i = l.length := by omega
      subst e
      rw [List.drop_length, List.drop_of_length_le (by omega)]; exact hend
    | succ d ih =>
      intro i hi
      rw [drop_getD l i z (by omega), drop_getD m i z (by omega), all2]
      exact hstep i _ (by omega) (ih (i + 1) (by omega))
  have := key l.length 0 (by omega)
  exact this
theorem bind_ask {g : Nat → Option Bool} {c : Bool} (hg : Ev g c) {f : Nat → Option Bool} {r : Bool} (hr : Ev f r) : Ev (fun k => (g k).bind fun t => if t = true then f k else some false) (c && r) := by
  refine Ev.bind hg ?_
  cases c with
  | true => exact ev_pos rfl hr
  | false => exact ev_neg (by simp) (Ev.now _)
def tx (a b : ByteArray) : Bool := decide (a.toList = b.toList)
def sm (x y : S55) : Bool := (x.f0.toList == y.f0.toList) && (x.f1.toList == y.f1.toList)
def pk (x y : S40) : Bool := tx x.f0 y.f0 && (tx x.f1 y.f1 && (tx x.f2 y.f2 && ((x.f4 == y.f4) && (all2 sm x.f3 y.f3 && all2 tx x.f5 y.f5))))
theorem ask_b {c : Bool} {f : Nat → Option Bool} {r : Bool} (hr : Ev f r) {p : Prop} [Decidable p] (hp : p ↔ c = true) : Ev (fun k => if p then f k else some false) (c && r) := by
  by_cases h : p
  · rw [hp.1 h, Bool.true_and]; exact ev_pos h hr
  · have : c = false := by simpa using fun e => h (hp.2 e)
    rw [this, Bool.false_and]; exact ev_neg h (Ev.now _)
theorem tx_is (a b : ByteArray) : a.toList = b.toList ↔ tx a b = true := by unfold tx; rw [decide_eq_true_iff]
theorem len_is {α : Type} (l m : List α) : (l.length : Int) = (m.length : Int) ↔ l.length = m.length := by omega
theorem spec_l04SameTexts_ev (l m : List ByteArray) (hl : l.length ≤ 1125899906842624) : Ev (fun k => spec_l04SameTexts.f k l m) (all2 tx l m) := by
  unfold spec_l04SameTexts.f
  by_cases h : l.length = m.length
  · refine ev_pos (by omega) (pair_loop l m ByteArray.empty tx h (fun k i => spec_l04SameTexts.l0 k l m i) ?_ ?_)
    · exact Ev.step (f := fun _ => some true) (fun k => by show spec_l04SameTexts.l0 (k + 1) l m _ = _; rw [spec_l04SameTexts.l0, if_neg (by omega)]) (Ev.now _)
    · intro i r hi hr
      have e1 : rdOf ByteArray.empty l (i : Int) = l.getD i ByteArray.empty := rfl
      have e2 : rdOf ByteArray.empty m (i : Int) = m.getD i ByteArray.empty := rfl
      refine Ev.step (fun k => ?_) (ask_b hr (tx_is (l.getD i ByteArray.empty) (m.getD i ByteArray.empty)))
      show spec_l04SameTexts.l0 (k + 1) l m _ = _
      rw [spec_l04SameTexts.l0, if_pos (by omega), if_pos (by omega), if_pos (by omega), e1, e2, wa1 i (by omega)]
  · rw [all2_len _ _ _ h]; exact ev_neg (by omega) (Ev.now _)
theorem slices_Equal_ev (l m : List ByteArray) (hl : l.length ≤ 1125899906842624) : Ev (fun k => slices_Equal_string_string.f k l m) (all2 tx l m) := by
  unfold slices_Equal_string_string.f
  by_cases h : l.length = m.length
  · refine ev_pos (by omega) (pair_loop l m ByteArray.empty tx h (fun k i => slices_Equal_string_string.l0 k l m (l.length : Int) i) ?_ ?_)
    · exact Ev.step (f := fun _ => some true) (fun k => by show slices_Equal_string_string.l0 (k + 1) l m _ _ = _; rw [slices_Equal_string_string.l0, if_neg (by omega)]) (Ev.now _)
    · intro i r hi hr
      have e1 : rdOf ByteArray.empty l (i : Int) = l.getD i ByteArray.empty := rfl
      have e2 : rdOf ByteArray.empty m (i : Int) = m.getD i ByteArray.empty := rfl
      refine Ev.step (fun k => ?_) (ask_b hr (tx_is (l.getD i ByteArray.empty) (m.getD i ByteArray.empty)))
      show slices_Equal_string_string.l0 (k + 1) l m _ _ = _
      rw [slices_Equal_string_string.l0, if_pos (by omega), if_pos (by omega), if_pos (by omega), if_pos (by omega), e1, e2, wa1 i (by omega)]
  · rw [all2_len _ _ _ h]; exact ev_neg (by omega) (Ev.now _)
theorem sm_step (x y : S55) {f : Nat → Option Bool} {r : Bool} (hr : Ev f r) : Ev (fun k => if (!(x.f0.toList == y.f0.toList) || (!(x.f1.toList == y.f1.toList))) = true then some false else f k) (sm x y && r) := by
  unfold sm
  cases x.f0.toList == y.f0.toList with
  | false => exact ev_pos rfl (Ev.now _)
  | true =>
    cases x.f1.toList == y.f1.toList with
    | false => exact ev_pos rfl (Ev.now _)
    | true => exact ev_neg (by simp) hr
theorem sums_ev (l m : List S55) (hl : l.length ≤ 1125899906842624) : Ev (fun k => impl_Sum.f k l m) (all2 sm l m) := by
  unfold impl_Sum.f
  by_cases h : l.length = m.length
  · refine ev_pos (by omega) (pair_loop l m z55 sm h (fun k i => impl_Sum.l0 k l m (l.length : Int) i) ?_ ?_)
    · exact Ev.step (f := fun _ => some true) (fun k => by show impl_Sum.l0 (k + 1) l m _ _ = _; rw [impl_Sum.l0, if_neg (by omega)]) (Ev.now _)
    · intro i r hi hr
      have e1 : rd_T55 l (i : Int) = l.getD i z55 := rfl
      have e2 : rd_T55 m (i : Int) = m.getD i z55 := rfl
      refine Ev.step (fun k => ?_) (sm_step (l.getD i z55) (m.getD i z55) hr)
      show impl_Sum.l0 (k + 1) l m _ _ = _
      rw [impl_Sum.l0, if_pos (by omega), if_pos (by omega), if_pos (by omega), if_pos (by omega), e1, e2, wa1 i (by omega)]
  · rw [all2_len _ _ _ h]; exact ev_neg (by omega) (Ev.now _)
theorem spec_l04SamePack_ev (x y : S40) (h3 : x.f3.length ≤ 1125899906842624) (h5 : x.f5.length ≤ 1125899906842624) : Ev (fun k => spec_l04SamePack.f k x.f0 x.f1 x.f2 x.f3 x.f4 x.f5 y.f0 y.f1 y.f2 y.f3 y.f4 y.f5) (pk x y) := by
  unfold spec_l04SamePack.f pk
  have stop : Ev (fun k => spec_l04SamePack.j0 k true x.f0 x.f1 x.f2 x.f3 x.f4 x.f5 y.f0 y.f1 y.f2 y.f3 y.f4 y.f5) false := Ev.step (f := fun _ => some false) (fun k => by rw [spec_l04SamePack.j0, if_pos rfl]) (Ev.now _)
  have no : ∀ {c : Bool} {p : Prop} [Decidable p] {f : Nat → Option Bool} {r : Bool}, Ev f r → (p ↔ c = true) → Ev (fun k => if p then f k else spec_l04SamePack.j0 k true x.f0 x.f1 x.f2 x.f3 x.f4 x.f5 y.f0 y.f1 y.f2 y.f3 y.f4 y.f5) (c && r) := by
    intro c p _ f r hr hp
    by_cases h : p
    · rw [hp.1 h, Bool.true_and]; exact ev_pos h hr
    · have : c = false := by simpa using fun e => h (hp.2 e)
      rw [this, Bool.false_and]; exact ev_neg h stop
  refine no (no (no ?_ (tx_is _ _)) (tx_is _ _)) (tx_is _ _)
  by_cases hb : (x.f4 == y.f4) = true
  · rw [hb, Bool.true_and]
    refine ev_neg (by simp only [bne, hb]; decide) ?_
    by_cases hl : x.f3.length = y.f3.length
    · refine ev_pos (by omega) (Ev.bind (spec_l04SameTexts_ev x.f5 y.f5 h5) ?_)
      by_cases ht : all2 tx x.f5 y.f5 = true
      · rw [ht, Bool.and_true]
        refine Ev.step (f := fun k => spec_l04SamePack.l0 k 0 x.f0 x.f1 x.f2 x.f3 x.f4 x.f5 y.f0 y.f1 y.f2 y.f3 y.f4 y.f5) (fun k => by rw [spec_l04SamePack.j0, if_neg (by decide)]) ?_
        refine pair_loop x.f3 y.f3 z55 sm hl (fun k i => spec_l04SamePack.l0 k i x.f0 x.f1 x.f2 x.f3 x.f4 x.f5 y.f0 y.f1 y.f2 y.f3 y.f4 y.f5) ?_ ?_
        · exact Ev.step (f := fun _ => some true) (fun k => by show spec_l04SamePack.l0 (k + 1) _ _ _ _ _ _ _ _ _ _ _ _ _ = _; rw [spec_l04SamePack.l0, if_neg (by omega)]) (Ev.now _)
        · intro i r hi hr
          have e1 : rd_T55 x.f3 (i : Int) = x.f3.getD i z55 := rfl
          have e2 : rd_T55 y.f3 (i : Int) = y.f3.getD i z55 := rfl
          refine Ev.step (fun k => ?_) (sm_step (x.f3.getD i z55) (y.f3.getD i z55) hr)
          show spec_l04SamePack.l0 (k + 1) _ _ _ _ _ _ _ _ _ _ _ _ _ = _
          rw [spec_l04SamePack.l0, if_pos (by omega), if_pos (by omega), if_pos (by omega), e1, e2, wa1 i (by omega)]
      · have ht' : all2 tx x.f5 y.f5 = false := by simpa using ht
        rw [ht', Bool.and_false]; exact stop
    · rw [all2_len _ _ _ hl, Bool.false_and]; exact ev_neg (by omega) stop
  · have hb' : (x.f4 == y.f4) = false := by simpa using hb
    rw [hb', Bool.false_and]
    exact ev_pos (by simp only [bne, hb']; decide) stop
theorem impl_samePack_ev (x y : S40) (h3 : x.f3.length ≤ 1125899906842624) (h5 : x.f5.length ≤ 1125899906842624) : Ev (fun k => impl_samePack.f k x.f0 x.f1 x.f2 x.f3 x.f4 x.f5 y.f0 y.f1 y.f2 y.f3 y.f4 y.f5) (pk x y) := by
  unfold impl_samePack.f pk
  refine ask_b (ask_b (ask_b (ask_b ?_ Iff.rfl) (tx_is _ _)) (tx_is _ _)) (tx_is _ _)
  refine Ev.bind (sums_ev x.f3 y.f3 h3) (ask_b ?_ Iff.rfl)
  exact Ev.bind (slices_Equal_ev x.f5 y.f5 h5) (Ev.now _)
theorem packs_ev (l m : List S40) (hl : l.length ≤ 1125899906842624) (hs : ∀ x ∈ l, x.f3.length ≤ 1125899906842624 ∧ x.f5.length ≤ 1125899906842624) : Ev (fun k => impl_Pack__impl_samePack.f k l m) (all2 pk l m) := by
  unfold impl_Pack__impl_samePack.f
  by_cases h : l.length = m.length
  · refine ev_pos (by omega) (pair_loop l m z40 pk h (fun k i => impl_Pack__impl_samePack.l0 k m l (l.length : Int) i) ?_ ?_)
    · exact Ev.step (f := fun _ => some true) (fun k => by show impl_Pack__impl_samePack.l0 (k + 1) m l _ _ = _; rw [impl_Pack__impl_samePack.l0, if_neg (by omega)]) (Ev.now _)
    · intro i r hi hr
      have hm := hs _ (getD_mem l i z40 hi)
      have e1 : rd_T40 l (i : Int) = l.getD i z40 := rfl
      have e2 : rd_T40 m (i : Int) = m.getD i z40 := rfl
      refine Ev.step (fun k => ?_) (bind_ask (impl_samePack_ev (l.getD i z40) (m.getD i z40) hm.1 hm.2) hr)
      show impl_Pack__impl_samePack.l0 (k + 1) m l _ _ = _
      rw [impl_Pack__impl_samePack.l0, if_pos (by omega), if_pos (by omega), if_pos (by omega), if_pos (by omega), e1, e2, wa1 i (by omega)]
  · rw [all2_len _ _ _ h]; exact ev_neg (by omega) (Ev.now _)
def sameG (t : List ByteArray) (p : List S40) (u : List ByteArray) (q : List S40) : Bool := all2 tx t u && all2 pk p q
theorem impl_SameGraph_ev (t : List ByteArray) (p : List S40) (u : List ByteArray) (q : List S40) (ht : t.length ≤ 1125899906842624) (hp : p.length ≤ 1125899906842624) (hs : ∀ x ∈ p, x.f3.length ≤ 1125899906842624 ∧ x.f5.length ≤ 1125899906842624) : Ev (fun k => impl_SameGraph.f k t p u q) (sameG t p u q) := by
  unfold impl_SameGraph.f sameG
  exact Ev.bind (slices_Equal_ev t u ht) (ask_b (Ev.bind (packs_ev p q hp hs) (Ev.now _)) Iff.rfl)
theorem spec_SameGraph_ev (t : List ByteArray) (p : List S40) (u : List ByteArray) (q : List S40) (ht : t.length ≤ 1125899906842624) (hp : p.length ≤ 1125899906842624) (hs : ∀ x ∈ p, x.f3.length ≤ 1125899906842624 ∧ x.f5.length ≤ 1125899906842624) : Ev (fun k => spec_SameGraph.f k t p u q) (sameG t p u q) := by
  unfold spec_SameGraph.f sameG
  have stop : Ev (fun k => spec_SameGraph.j0 k true t p u q) false := Ev.step (f := fun _ => some false) (fun k => by rw [spec_SameGraph.j0, if_pos rfl]) (Ev.now _)
  by_cases hl : p.length = q.length
  · refine ev_pos (by omega) (Ev.bind (spec_l04SameTexts_ev t u ht) ?_)
    by_cases h1 : all2 tx t u = true
    · rw [h1, Bool.true_and]
      refine Ev.step (f := fun k => spec_SameGraph.l0 k 0 t p u q) (fun k => by rw [spec_SameGraph.j0, if_neg (by decide)]) ?_
      refine pair_loop p q z40 pk hl (fun k i => spec_SameGraph.l0 k i t p u q) ?_ ?_
      · exact Ev.step (f := fun _ => some true) (fun k => by show spec_SameGraph.l0 (k + 1) _ _ _ _ _ = _; rw [spec_SameGraph.l0, if_neg (by omega)]) (Ev.now _)
      · intro i r hi hr
        have hm := hs _ (getD_mem p i z40 hi)
        have e1 : rd_T40 p (i : Int) = p.getD i z40 := rfl
        have e2 : rd_T40 q (i : Int) = q.getD i z40 := rfl
        refine Ev.step (fun k => ?_) (bind_ask (spec_l04SamePack_ev (p.getD i z40) (q.getD i z40) hm.1 hm.2) hr)
        show spec_SameGraph.l0 (k + 1) _ _ _ _ _ = _
        rw [spec_SameGraph.l0, if_pos (by omega), if_pos (by omega), if_pos (by omega), e1, e2, wa1 i (by omega)]
    · have h1' : all2 tx t u = false := by simpa using h1
      rw [h1', Bool.false_and]; exact stop
  · rw [all2_len pk _ _ hl, Bool.and_false]; exact ev_neg (by omega) stop
end Go.Proofs.Ytbepbfibanmhoaa.U
end

section
namespace Go.Proofs.Ytbepbfibanmhoaa.U
open Go Go.RowKit Go.Proofs.YtbepbfibanmhoaaW.PrintWords Go.Proofs.Ytbepbfibanmhoaa.G
set_option linter.unusedVariables false
set_option maxRecDepth 100000
def w_Sum (f0 : ByteArray) (f1 : ByteArray) : Int := (f0.size : Int) + ((f1.size : Int) + (0))
theorem w_Sum_nonneg (f0 : ByteArray) (f1 : ByteArray) : 0 ≤ w_Sum f0 f1 := by
  unfold w_Sum
  omega

end Go.Proofs.Ytbepbfibanmhoaa.U
end

section
namespace Go.Proofs.Ytbepbfibanmhoaa.U
open Go Go.RowKit Go.Proofs.YtbepbfibanmhoaaW.PrintWords Go.Proofs.Ytbepbfibanmhoaa.G
set_option linter.unusedVariables false
set_option maxRecDepth 100000
def w_SumS (l : List S60) : Int := wList (fun x => w_Sum x.f0 x.f1) l
theorem w_SumS_nonneg (l : List S60) : 0 ≤ w_SumS l := wList_nonneg fun x _ => w_Sum_nonneg _ _
theorem w_SumS_len (l : List S60) : (l.length : Int) ≤ w_SumS l := wList_len fun x _ => w_Sum_nonneg _ _
theorem w_SumS_mem {l : List S60} {x : S60} (hx : x ∈ l) : w_Sum x.f0 x.f1 ≤ w_SumS l := wList_mem (w := fun x : S60 => w_Sum x.f0 x.f1) (fun x _ => w_Sum_nonneg _ _) hx

end Go.Proofs.Ytbepbfibanmhoaa.U
end

section
namespace Go.Proofs.Ytbepbfibanmhoaa.U
open Go Go.RowKit Go.Proofs.YtbepbfibanmhoaaW.PrintWords Go.Proofs.Ytbepbfibanmhoaa.G
set_option linter.unusedVariables false
set_option maxRecDepth 100000
def w_Pack (f0 : ByteArray) (f1 : ByteArray) (f2 : ByteArray) (f3 : List S60) (f4 : Bool) (f5 : List ByteArray) : Int := (f0.size : Int) + ((f1.size : Int) + ((f2.size : Int) + (w_SumS f3 + (w_StringS f5 + (0)))))
theorem w_Pack_nonneg (f0 : ByteArray) (f1 : ByteArray) (f2 : ByteArray) (f3 : List S60) (f4 : Bool) (f5 : List ByteArray) : 0 ≤ w_Pack f0 f1 f2 f3 f4 f5 := by
  unfold w_Pack
  have := w_SumS_nonneg f3
  have := w_StringS_nonneg f5
  omega

end Go.Proofs.Ytbepbfibanmhoaa.U
end

section
namespace Go.Proofs.Ytbepbfibanmhoaa.U
open Go Go.RowKit Go.Proofs.YtbepbfibanmhoaaW.PrintWords Go.Proofs.Ytbepbfibanmhoaa.G
set_option linter.unusedVariables false
set_option maxRecDepth 100000
def w_PackS (l : List S52) : Int := wList (fun x => w_Pack x.f0 x.f1 x.f2 x.f3 x.f4 x.f5) l
theorem w_PackS_nonneg (l : List S52) : 0 ≤ w_PackS l := wList_nonneg fun x _ => w_Pack_nonneg _ _ _ _ _ _
theorem w_PackS_len (l : List S52) : (l.length : Int) ≤ w_PackS l := wList_len fun x _ => w_Pack_nonneg _ _ _ _ _ _
theorem w_PackS_mem {l : List S52} {x : S52} (hx : x ∈ l) : w_Pack x.f0 x.f1 x.f2 x.f3 x.f4 x.f5 ≤ w_PackS l := wList_mem (w := fun x : S52 => w_Pack x.f0 x.f1 x.f2 x.f3 x.f4 x.f5) (fun x _ => w_Pack_nonneg _ _ _ _ _ _) hx

end Go.Proofs.Ytbepbfibanmhoaa.U
end

section
namespace Go.Proofs.Ytbepbfibanmhoaa.U
open Go Go.RowKit Go.Proofs.YtbepbfibanmhoaaW.PrintWords Go.Proofs.Ytbepbfibanmhoaa.G
set_option linter.unusedVariables false
set_option maxRecDepth 100000
def w_Graph (f0 : List ByteArray) (f1 : List S52) : Int := w_StringS f0 + (w_PackS f1 + (0))
theorem w_Graph_nonneg (f0 : List ByteArray) (f1 : List S52) : 0 ≤ w_Graph f0 f1 := by
  unfold w_Graph
  have := w_StringS_nonneg f0
  have := w_PackS_nonneg f1
  omega

end Go.Proofs.Ytbepbfibanmhoaa.U
end

section
namespace Go.Proofs.Ytbepbfibanmhoaa.U
open Go Go.RowKit Go.Proofs.YtbepbfibanmhoaaW.PrintWords Go.Proofs.Ytbepbfibanmhoaa.G
set_option linter.unusedVariables false
set_option maxRecDepth 100000
theorem toStringS_ok (l : List ByteArray) (h : l.length ≤ maxLen ∧ ∀ x_ ∈ l, x_.size ≤ maxLen) (hw : w_StringS l ≤ 1048576) : Ev (fun k => laws_toStringS.f k l) (l) := by
  have hl := w_StringS_len l
  have e : ((l.length : Int)).toNat = l.length := Int.toNat_natCast _
  unfold laws_toStringS.f
  rw [e]
  refine ev_pos (by omega) (ev_pos (by omega) ?_)
  have := to_loop l ByteArray.empty (⟨#[]⟩ : ByteArray) id (fun k i st => laws_toStringS.l0 k l st i) h.1 ?_ ?_
  · rw [List.map_id] at this; exact this
  · intro k i st hi hs
    show laws_toStringS.l0 (k + 1) l st (i : Int) = _
    rw [laws_toStringS.l0, if_pos (by omega), if_pos (by omega), if_pos (by omega)]
    rfl
  · intro k st
    show laws_toStringS.l0 (k + 1) l st (l.length : Int) = _
    rw [laws_toStringS.l0, if_neg (by omega)]

end Go.Proofs.Ytbepbfibanmhoaa.U
end

section
namespace Go.Proofs.Ytbepbfibanmhoaa.U
open Go Go.RowKit Go.Proofs.YtbepbfibanmhoaaW.PrintWords Go.Proofs.Ytbepbfibanmhoaa.G
set_option linter.unusedVariables false
set_option maxRecDepth 100000
theorem toSum_ok (f0 : ByteArray) (h0 : f0.size ≤ maxLen) (f1 : ByteArray) (h1 : f1.size ≤ maxLen) (hw : w_Sum f0 f1 ≤ 1048576) : Ev (fun k => laws_toSum.f f0 f1) (f0, f1) := by
  unfold laws_toSum.f
  exact Ev.now _

end Go.Proofs.Ytbepbfibanmhoaa.U
end

section
namespace Go.Proofs.Ytbepbfibanmhoaa.U
open Go Go.RowKit Go.Proofs.YtbepbfibanmhoaaW.PrintWords Go.Proofs.Ytbepbfibanmhoaa.G
set_option linter.unusedVariables false
set_option maxRecDepth 100000
/-- The picture of the laws' struct. -/
def t_Sum (x : S60) : S55 := ⟨x.f0, x.f1⟩
theorem toSumS_ok (l : List S60) (h : l.length ≤ maxLen ∧ ∀ x_ ∈ l, (x_.f0.size ≤ maxLen ∧ x_.f1.size ≤ maxLen)) (hw : w_SumS l ≤ 1048576) : Ev (fun k => laws_toSumS.f k l) (l.map t_Sum) := by
  have hl := w_SumS_len l
  have e : ((l.length : Int)).toNat = l.length := Int.toNat_natCast _
  unfold laws_toSumS.f
  rw [e]
  refine ev_pos (by omega) (ev_pos (by omega) ?_)
  refine to_loop l z60 _ t_Sum (fun k i st => laws_toSumS.l0 k l st i) h.1 ?_ ?_
  · intro k i st hi hs
    show laws_toSumS.l0 (k + 1) l st (i : Int) = _
    rw [laws_toSumS.l0, if_pos (by omega), if_pos (by omega)]
    show (if (i : Int) < (st.length : Int) then _ else none) = _
    rw [if_pos (by omega)]
    rfl
  · intro k st
    show laws_toSumS.l0 (k + 1) l st (l.length : Int) = _
    rw [laws_toSumS.l0, if_neg (by omega)]

end Go.Proofs.Ytbepbfibanmhoaa.U
end

section
namespace Go.Proofs.Ytbepbfibanmhoaa.U
open Go Go.RowKit Go.Proofs.YtbepbfibanmhoaaW.PrintWords Go.Proofs.Ytbepbfibanmhoaa.G
set_option linter.unusedVariables false
set_option maxRecDepth 100000
theorem toPack_ok (f0 : ByteArray) (h0 : f0.size ≤ maxLen) (f1 : ByteArray) (h1 : f1.size ≤ maxLen) (f2 : ByteArray) (h2 : f2.size ≤ maxLen) (f3 : List S60) (h3 : (f3.length ≤ maxLen ∧ ∀ x_ ∈ f3, (x_.f0.size ≤ maxLen ∧ x_.f1.size ≤ maxLen))) (f4 : Bool)  (f5 : List ByteArray) (h5 : (f5.length ≤ maxLen ∧ ∀ x_ ∈ f5, x_.size ≤ maxLen)) (hw : w_Pack f0 f1 f2 f3 f4 f5 ≤ 1048576) : Ev (fun k => laws_toPack.f k f0 f1 f2 f3 f4 f5) (f0, f1, f2, (f3.map t_Sum), f4, f5) := by
  unfold laws_toPack.f
  unfold w_Pack at hw
  have nf3 := w_SumS_nonneg f3
  have nf5 := w_StringS_nonneg f5
  refine Ev.bind (toSumS_ok f3 h3 (by omega)) ?_
  refine Ev.bind (toStringS_ok f5 h5 (by omega)) ?_
  exact Ev.now _

end Go.Proofs.Ytbepbfibanmhoaa.U
end

section
namespace Go.Proofs.Ytbepbfibanmhoaa.U
open Go Go.RowKit Go.Proofs.YtbepbfibanmhoaaW.PrintWords Go.Proofs.Ytbepbfibanmhoaa.G
set_option linter.unusedVariables false
set_option maxRecDepth 100000
/-- The picture of the laws' struct. -/
def t_Pack (x : S52) : S40 := ⟨x.f0, x.f1, x.f2, (x.f3.map t_Sum), x.f4, x.f5⟩
theorem toPackS_ok (l : List S52) (h : l.length ≤ maxLen ∧ ∀ x_ ∈ l, (x_.f0.size ≤ maxLen ∧ (x_.f1.size ≤ maxLen ∧ (x_.f2.size ≤ maxLen ∧ ((x_.f3.length ≤ maxLen ∧ ∀ xx_ ∈ x_.f3, (xx_.f0.size ≤ maxLen ∧ xx_.f1.size ≤ maxLen)) ∧ (True ∧ (x_.f5.length ≤ maxLen ∧ ∀ xx_ ∈ x_.f5, xx_.size ≤ maxLen))))))) (hw : w_PackS l ≤ 1048576) : Ev (fun k => laws_toPackS.f k l) (l.map t_Pack) := by
  have hl := w_PackS_len l
  have e : ((l.length : Int)).toNat = l.length := Int.toNat_natCast _
  unfold laws_toPackS.f
  rw [e]
  refine ev_pos (by omega) (ev_pos (by omega) ?_)
  refine to_loop2 l z52 _ t_Pack (fun k i st => laws_toPackS.l0 k l st i) (fun k x => (laws_toPack.f k x.f0 x.f1 x.f2 x.f3 x.f4 x.f5).bind fun b => some ⟨b.1, b.2.1, b.2.2.1, b.2.2.2.1, b.2.2.2.2.1, b.2.2.2.2.2⟩) h.1 ?_ ?_ ?_
  · intro k i st hi hs
    show laws_toPackS.l0 (k + 1) l st (i : Int) = _
    rw [laws_toPackS.l0, if_pos (by omega), if_pos (by omega), Option.bind_assoc]
    refine Option.bind_congr fun b _ => ?_
    show (if (i : Int) < (st.length : Int) then _ else none) = _
    rw [if_pos (by omega)]
    rfl
  · intro k st
    show laws_toPackS.l0 (k + 1) l st (l.length : Int) = _
    rw [laws_toPackS.l0, if_neg (by omega)]
  · intro x hx
    have hx' := h.2 x hx
    have hm := w_PackS_mem hx
    exact Ev.bind (toPack_ok x.f0 hx'.1 x.f1 hx'.2.1 x.f2 hx'.2.2.1 x.f3 hx'.2.2.2.1 x.f4 x.f5 hx'.2.2.2.2.2 (by omega)) (Ev.now _)

end Go.Proofs.Ytbepbfibanmhoaa.U
end

section
namespace Go.Proofs.Ytbepbfibanmhoaa.U
open Go Go.RowKit Go.Proofs.YtbepbfibanmhoaaW.PrintWords Go.Proofs.Ytbepbfibanmhoaa.G
set_option linter.unusedVariables false
set_option maxRecDepth 100000
theorem toGraph_ok (f0 : List ByteArray) (h0 : (f0.length ≤ maxLen ∧ ∀ x_ ∈ f0, x_.size ≤ maxLen)) (f1 : List S52) (h1 : (f1.length ≤ maxLen ∧ ∀ x_ ∈ f1, (x_.f0.size ≤ maxLen ∧ (x_.f1.size ≤ maxLen ∧ (x_.f2.size ≤ maxLen ∧ ((x_.f3.length ≤ maxLen ∧ ∀ xx_ ∈ x_.f3, (xx_.f0.size ≤ maxLen ∧ xx_.f1.size ≤ maxLen)) ∧ (True ∧ (x_.f5.length ≤ maxLen ∧ ∀ xx_ ∈ x_.f5, xx_.size ≤ maxLen)))))))) (hw : w_Graph f0 f1 ≤ 1048576) : Ev (fun k => laws_toGraph.f k f0 f1) (f0, (f1.map t_Pack)) := by
  unfold laws_toGraph.f
  unfold w_Graph at hw
  have nf0 := w_StringS_nonneg f0
  have nf1 := w_PackS_nonneg f1
  refine Ev.bind (toStringS_ok f0 h0 (by omega)) ?_
  refine Ev.bind (toPackS_ok f1 h1 (by omega)) ?_
  exact Ev.now _

end Go.Proofs.Ytbepbfibanmhoaa.U
end

section
namespace Go.Proofs.Ytbepbfibanmhoaa.U
open Go Go.RowKit Go.Proofs.YtbepbfibanmhoaaW.PrintWords Go.Proofs.Ytbepbfibanmhoaa.G
set_option linter.unusedVariables false
set_option maxRecDepth 100000
theorem szStringS_ok (l : List ByteArray) (h : l.length ≤ maxLen ∧ ∀ x_ ∈ l, x_.size ≤ maxLen) : Sz (fun k left => laws_szStringS.f k l left) (w_StringS l) := by
  have hs : ∀ x ∈ l, Sz (fun _ left => if wrap64 (left - (x.size : Int)) < 0 then some (-1) else some (wrap64 (left - (x.size : Int)))) (x.size : Int) := fun x hx => ⟨by omega, fun left hr => sz_last hr (h.2 x hx)⟩
  refine ⟨w_StringS_nonneg l, fun left hr => ?_⟩
  show Ev (fun k => laws_szStringS.f k l left) _
  unfold laws_szStringS.f w_StringS wList
  rw [room_sub hr h.1]
  refine sz_cut' hr (sumW_nonneg fun x hx => (hs x hx).1) fun hb hr => ?_
  refine sz_loop l ByteArray.empty (fun s => (s.size : Int)) (fun k i st => laws_szStringS.l0 k l st i) (fun _ x left => if wrap64 (left - (x.size : Int)) < 0 then some (-1) else some (wrap64 (left - (x.size : Int)))) h.1 ?_ ?_ hs _ hr
  · intro k i st hi
    show laws_szStringS.l0 (k + 1) l st (i : Int) = _
    rw [laws_szStringS.l0, if_pos (by omega), if_pos (by omega)]
    show (if wrap64 (st - ((l.getD i ByteArray.empty).size : Int)) < 0 then some (-1) else laws_szStringS.l0 k l (wrap64 (st - ((l.getD i ByteArray.empty).size : Int))) (wrap64 ((i : Int) + 1))) = _
    generalize wrap64 (st - ((l.getD i ByteArray.empty).size : Int)) = y
    by_cases hy : y < 0
    · simp only [if_pos hy]; rfl
    · simp only [if_neg hy]; show _ = (if y < 0 then _ else _); rw [if_neg hy]
  · intro k st
    show laws_szStringS.l0 (k + 1) l st (l.length : Int) = _
    rw [laws_szStringS.l0, if_neg (by omega)]

end Go.Proofs.Ytbepbfibanmhoaa.U
end

section
namespace Go.Proofs.Ytbepbfibanmhoaa.U
open Go Go.RowKit Go.Proofs.YtbepbfibanmhoaaW.PrintWords Go.Proofs.Ytbepbfibanmhoaa.G
set_option linter.unusedVariables false
set_option maxRecDepth 100000
theorem szSum_ok (f0 : ByteArray) (h0 : f0.size ≤ maxLen) (f1 : ByteArray) (h1 : f1.size ≤ maxLen) : Sz (fun k left => laws_szSum.f f0 f1 left) (w_Sum f0 f1) := by
  refine ⟨w_Sum_nonneg f0 f1, fun left hr => ?_⟩
  show Ev (fun k => laws_szSum.f f0 f1 left) _
  unfold laws_szSum.f w_Sum
  rw [room_sub hr h0]
  refine sz_cut' hr (by omega) fun hb hr => ?_
  rw [room_sub hr h1]
  refine sz_cut' hr (by omega) fun hb hr => ?_
  exact sz_done hr

end Go.Proofs.Ytbepbfibanmhoaa.U
end

section
namespace Go.Proofs.Ytbepbfibanmhoaa.U
open Go Go.RowKit Go.Proofs.YtbepbfibanmhoaaW.PrintWords Go.Proofs.Ytbepbfibanmhoaa.G
set_option linter.unusedVariables false
set_option maxRecDepth 100000
theorem szSumS_ok (l : List S60) (h : l.length ≤ maxLen ∧ ∀ x_ ∈ l, (x_.f0.size ≤ maxLen ∧ x_.f1.size ≤ maxLen)) : Sz (fun k left => laws_szSumS.f k l left) (w_SumS l) := by
  have hs : ∀ x ∈ l, Sz (fun k left => laws_szSum.f x.f0 x.f1 left) (w_Sum x.f0 x.f1) := fun x hx => by
    have hx' := h.2 x hx
    exact szSum_ok x.f0 hx'.1 x.f1 hx'.2
  refine ⟨w_SumS_nonneg l, fun left hr => ?_⟩
  show Ev (fun k => laws_szSumS.f k l left) _
  unfold laws_szSumS.f w_SumS wList
  rw [room_sub hr h.1]
  refine sz_cut' hr (sumW_nonneg fun x hx => (hs x hx).1) fun hb hr => ?_
  refine sz_loop l z60 (fun x => w_Sum x.f0 x.f1) (fun k i st => laws_szSumS.l0 k l st i) (fun k x left => laws_szSum.f x.f0 x.f1 left) h.1 ?_ ?_ hs _ hr
  · intro k i st hi
    show laws_szSumS.l0 (k + 1) l st (i : Int) = _
    rw [laws_szSumS.l0, if_pos (by omega), if_pos (by omega)]
    rfl
  · intro k st
    show laws_szSumS.l0 (k + 1) l st (l.length : Int) = _
    rw [laws_szSumS.l0, if_neg (by omega)]

end Go.Proofs.Ytbepbfibanmhoaa.U
end

section
namespace Go.Proofs.Ytbepbfibanmhoaa.U
open Go Go.RowKit Go.Proofs.YtbepbfibanmhoaaW.PrintWords Go.Proofs.Ytbepbfibanmhoaa.G
set_option linter.unusedVariables false
set_option maxRecDepth 100000
theorem szPack_ok (f0 : ByteArray) (h0 : f0.size ≤ maxLen) (f1 : ByteArray) (h1 : f1.size ≤ maxLen) (f2 : ByteArray) (h2 : f2.size ≤ maxLen) (f3 : List S60) (h3 : (f3.length ≤ maxLen ∧ ∀ x_ ∈ f3, (x_.f0.size ≤ maxLen ∧ x_.f1.size ≤ maxLen))) (f4 : Bool)  (f5 : List ByteArray) (h5 : (f5.length ≤ maxLen ∧ ∀ x_ ∈ f5, x_.size ≤ maxLen)) : Sz (fun k left => laws_szPack.f k f0 f1 f2 f3 f4 f5 left) (w_Pack f0 f1 f2 f3 f4 f5) := by
  refine ⟨w_Pack_nonneg f0 f1 f2 f3 f4 f5, fun left hr => ?_⟩
  show Ev (fun k => laws_szPack.f k f0 f1 f2 f3 f4 f5 left) _
  unfold laws_szPack.f w_Pack
  have nf3 := w_SumS_nonneg f3
  have nf5 := w_StringS_nonneg f5
  rw [room_sub hr h0]
  refine sz_cut' hr (by omega) fun hb hr => ?_
  rw [room_sub hr h1]
  refine sz_cut' hr (by omega) fun hb hr => ?_
  rw [room_sub hr h2]
  refine sz_cut' hr (by omega) fun hb hr => ?_
  refine sz_call (g := fun k left => laws_szSumS.f k f3 left) (szSumS_ok f3 h3) hr (by omega) fun hb hr => ?_
  refine sz_call (g := fun k left => laws_szStringS.f k f5 left) (szStringS_ok f5 h5) hr (by omega) fun hb hr => ?_
  exact sz_done hr

end Go.Proofs.Ytbepbfibanmhoaa.U
end

section
namespace Go.Proofs.Ytbepbfibanmhoaa.U
open Go Go.RowKit Go.Proofs.YtbepbfibanmhoaaW.PrintWords Go.Proofs.Ytbepbfibanmhoaa.G
set_option linter.unusedVariables false
set_option maxRecDepth 100000
theorem szPackS_ok (l : List S52) (h : l.length ≤ maxLen ∧ ∀ x_ ∈ l, (x_.f0.size ≤ maxLen ∧ (x_.f1.size ≤ maxLen ∧ (x_.f2.size ≤ maxLen ∧ ((x_.f3.length ≤ maxLen ∧ ∀ xx_ ∈ x_.f3, (xx_.f0.size ≤ maxLen ∧ xx_.f1.size ≤ maxLen)) ∧ (True ∧ (x_.f5.length ≤ maxLen ∧ ∀ xx_ ∈ x_.f5, xx_.size ≤ maxLen))))))) : Sz (fun k left => laws_szPackS.f k l left) (w_PackS l) := by
  have hs : ∀ x ∈ l, Sz (fun k left => laws_szPack.f k x.f0 x.f1 x.f2 x.f3 x.f4 x.f5 left) (w_Pack x.f0 x.f1 x.f2 x.f3 x.f4 x.f5) := fun x hx => by
    have hx' := h.2 x hx
    exact szPack_ok x.f0 hx'.1 x.f1 hx'.2.1 x.f2 hx'.2.2.1 x.f3 hx'.2.2.2.1 x.f4 x.f5 hx'.2.2.2.2.2
  refine ⟨w_PackS_nonneg l, fun left hr => ?_⟩
  show Ev (fun k => laws_szPackS.f k l left) _
  unfold laws_szPackS.f w_PackS wList
  rw [room_sub hr h.1]
  refine sz_cut' hr (sumW_nonneg fun x hx => (hs x hx).1) fun hb hr => ?_
  refine sz_loop l z52 (fun x => w_Pack x.f0 x.f1 x.f2 x.f3 x.f4 x.f5) (fun k i st => laws_szPackS.l0 k l st i) (fun k x left => laws_szPack.f k x.f0 x.f1 x.f2 x.f3 x.f4 x.f5 left) h.1 ?_ ?_ hs _ hr
  · intro k i st hi
    show laws_szPackS.l0 (k + 1) l st (i : Int) = _
    rw [laws_szPackS.l0, if_pos (by omega), if_pos (by omega)]
    rfl
  · intro k st
    show laws_szPackS.l0 (k + 1) l st (l.length : Int) = _
    rw [laws_szPackS.l0, if_neg (by omega)]

end Go.Proofs.Ytbepbfibanmhoaa.U
end

section
namespace Go.Proofs.Ytbepbfibanmhoaa.U
open Go Go.RowKit Go.Proofs.YtbepbfibanmhoaaW.PrintWords Go.Proofs.Ytbepbfibanmhoaa.G
set_option linter.unusedVariables false
set_option maxRecDepth 100000
theorem szGraph_ok (f0 : List ByteArray) (h0 : (f0.length ≤ maxLen ∧ ∀ x_ ∈ f0, x_.size ≤ maxLen)) (f1 : List S52) (h1 : (f1.length ≤ maxLen ∧ ∀ x_ ∈ f1, (x_.f0.size ≤ maxLen ∧ (x_.f1.size ≤ maxLen ∧ (x_.f2.size ≤ maxLen ∧ ((x_.f3.length ≤ maxLen ∧ ∀ xx_ ∈ x_.f3, (xx_.f0.size ≤ maxLen ∧ xx_.f1.size ≤ maxLen)) ∧ (True ∧ (x_.f5.length ≤ maxLen ∧ ∀ xx_ ∈ x_.f5, xx_.size ≤ maxLen)))))))) : Sz (fun k left => laws_szGraph.f k f0 f1 left) (w_Graph f0 f1) := by
  refine ⟨w_Graph_nonneg f0 f1, fun left hr => ?_⟩
  show Ev (fun k => laws_szGraph.f k f0 f1 left) _
  unfold laws_szGraph.f w_Graph
  have nf0 := w_StringS_nonneg f0
  have nf1 := w_PackS_nonneg f1
  refine sz_call (g := fun k left => laws_szStringS.f k f0 left) (szStringS_ok f0 h0) hr (by omega) fun hb hr => ?_
  refine sz_call (g := fun k left => laws_szPackS.f k f1 left) (szPackS_ok f1 h1) hr (by omega) fun hb hr => ?_
  exact sz_done hr

end Go.Proofs.Ytbepbfibanmhoaa.U
end

section
namespace Go.Proofs.Ytbepbfibanmhoaa.U
open Go Go.RowKit Go.Proofs.YtbepbfibanmhoaaW.PrintWords Go.Proofs.Ytbepbfibanmhoaa.G
set_option linter.unusedVariables false

theorem law_szt {w left : Int} {g : Nat → Int → Option Int} {f : Nat → Int → Option Bool} (hl : Room left) (hg : Sz g w) (h : w ≤ left → Ev (fun k => f k (left - w)) true) : Ev (fun k => (g k left).bind fun t => if t < 0 then some true else f k t) true := by
  refine Ev.bind (hg.2 left hl) ?_
  by_cases h0 : w ≤ left
  · rw [szOut_pos h0]; exact ev_neg (by omega) (h h0)
  · rw [szOut_neg (by omega)]; exact ev_pos (by omega) (Ev.now _)
/-- All of a pack is small. -/
def SmallP (x : S40) : Prop := (x.f0.size ≤ 1048576 ∧ x.f1.size ≤ 1048576 ∧ x.f2.size ≤ 1048576) ∧ (x.f3.length ≤ 1048576 ∧ x.f5.length ≤ 1048576) ∧ (∀ y ∈ x.f3, y.f0.size ≤ 1048576 ∧ y.f1.size ≤ 1048576) ∧ ∀ s ∈ x.f5, s.size ≤ 1048576
theorem w_SumS_all {l : List S60} {n : Int} (h : w_SumS l ≤ n) (hn : n ≤ 1048576) : ∀ y ∈ l.map t_Sum, y.f0.size ≤ 1048576 ∧ y.f1.size ≤ 1048576 := fun y hy => by
  obtain ⟨x, hx, rfl⟩ := List.mem_map.1 hy
  have := w_SumS_mem hx
  unfold w_Sum at this
  show x.f0.size ≤ _ ∧ x.f1.size ≤ _
  omega
theorem small_pack {x : S52} (h : w_Pack x.f0 x.f1 x.f2 x.f3 x.f4 x.f5 ≤ 1048576) : SmallP (t_Pack x) := by
  unfold w_Pack at h
  have n3 := w_SumS_nonneg x.f3
  have n5 := w_StringS_nonneg x.f5
  have l3 := w_SumS_len x.f3
  have l5 := w_StringS_len x.f5
  refine ⟨⟨?_, ?_, ?_⟩, ⟨?_, ?_⟩, ?_, ?_⟩
  · show x.f0.size ≤ _; omega
  · show x.f1.size ≤ _; omega
  · show x.f2.size ≤ _; omega
  · show (x.f3.map t_Sum).length ≤ _; rw [List.length_map]; omega
  · show x.f5.length ≤ _; omega
  · exact w_SumS_all (n := w_SumS x.f3) (Int.le_refl _) (by omega)
  · intro s hs
    have := w_StringS_mem (l := x.f5) hs
    omega
theorem small_graph {t : List ByteArray} {p : List S52} (h : w_Graph t p ≤ 1048576) : (t.length ≤ 1048576 ∧ ∀ s ∈ t, s.size ≤ 1048576) ∧ (p.map t_Pack).length ≤ 1048576 ∧ ∀ x ∈ p.map t_Pack, SmallP x := by
  unfold w_Graph at h
  have n1 := w_StringS_nonneg t
  have n2 := w_PackS_nonneg p
  have l1 := w_StringS_len t
  have l2 := w_PackS_len p
  refine ⟨⟨by omega, fun s hs => ?_⟩, by rw [List.length_map]; omega, fun x hx => ?_⟩
  · have := w_StringS_mem (l := t) hs; omega
  · obtain ⟨y, hy, rfl⟩ := List.mem_map.1 hx
    exact small_pack (by have := w_PackS_mem hy; omega)
theorem small_lists {l : List S40} (h : ∀ x ∈ l, SmallP x) (hl : l.length ≤ 1048576) : l.length ≤ maxLen ∧ ∀ x_ ∈ l, (x_.f3.length ≤ maxLen ∧ x_.f5.length ≤ maxLen) :=
  ⟨by unfold maxLen; omega, fun x hx => by have := (h x hx).2.1; unfold maxLen; omega⟩
end Go.Proofs.Ytbepbfibanmhoaa.U
end

section
namespace Go.Proofs.Ytbepbfibanmhoaa.U
open Go Go.RowKit Go.Proofs.YtbepbfibanmhoaaW.PrintWords Go.Proofs.Ytbepbfibanmhoaa.G
set_option linter.unusedVariables false
set_option maxRecDepth 100000
theorem eqStringS_ok (l : List ByteArray) (h : l.length ≤ maxLen) : Ev (fun k => laws_eqStringS.f k l l) true := by
  unfold laws_eqStringS.f
  refine ev_pos rfl ?_
  refine eq_loop l ByteArray.empty (fun k i => laws_eqStringS.l0 k l l i) (fun _ x => some true) h ?_ ?_ (fun _ _ => Ev.now _)
  · intro k i hi
    show laws_eqStringS.l0 (k + 1) l l (i : Int) = _
    rw [laws_eqStringS.l0, if_pos (by omega), if_pos (by omega), if_pos (by omega), if_pos rfl]
    rfl
  · intro k
    show laws_eqStringS.l0 (k + 1) l l (l.length : Int) = _
    rw [laws_eqStringS.l0, if_neg (by omega)]

end Go.Proofs.Ytbepbfibanmhoaa.U
end

section
namespace Go.Proofs.Ytbepbfibanmhoaa.U
open Go Go.RowKit Go.Proofs.YtbepbfibanmhoaaW.PrintWords Go.Proofs.Ytbepbfibanmhoaa.G
set_option linter.unusedVariables false
set_option maxRecDepth 100000
theorem eqSum_ok (f0 : ByteArray)  (f1 : ByteArray)  : Ev (fun k => laws_eqSum.f f0 f1 f0 f1) true := by
  unfold laws_eqSum.f
  refine ev_pos rfl ?_
  refine ev_pos rfl ?_
  exact Ev.now _

end Go.Proofs.Ytbepbfibanmhoaa.U
end

section
namespace Go.Proofs.Ytbepbfibanmhoaa.U
open Go Go.RowKit Go.Proofs.YtbepbfibanmhoaaW.PrintWords Go.Proofs.Ytbepbfibanmhoaa.G
set_option linter.unusedVariables false
set_option maxRecDepth 100000
theorem eqSumS_ok (l : List S55) (h : l.length ≤ maxLen) : Ev (fun k => laws_eqSumS.f k l l) true := by
  unfold laws_eqSumS.f
  refine ev_pos rfl ?_
  refine eq_loop l z55 (fun k i => laws_eqSumS.l0 k l l i) (fun k x => laws_eqSum.f x.f0 x.f1 x.f0 x.f1) h ?_ ?_ (fun x hx => eqSum_ok x.f0 x.f1)
  · intro k i hi
    show laws_eqSumS.l0 (k + 1) l l (i : Int) = _
    rw [laws_eqSumS.l0, if_pos (by omega), if_pos (by omega), if_pos (by omega)]
    rfl
  · intro k
    show laws_eqSumS.l0 (k + 1) l l (l.length : Int) = _
    rw [laws_eqSumS.l0, if_neg (by omega)]

end Go.Proofs.Ytbepbfibanmhoaa.U
end

section
namespace Go.Proofs.Ytbepbfibanmhoaa.U
open Go Go.RowKit Go.Proofs.YtbepbfibanmhoaaW.PrintWords Go.Proofs.Ytbepbfibanmhoaa.G
set_option linter.unusedVariables false
set_option maxRecDepth 100000
theorem eqPack_ok (f0 : ByteArray)  (f1 : ByteArray)  (f2 : ByteArray)  (f3 : List S55) (h3 : f3.length ≤ maxLen) (f4 : Bool)  (f5 : List ByteArray) (h5 : f5.length ≤ maxLen) : Ev (fun k => laws_eqPack.f k f0 f1 f2 f3 f4 f5 f0 f1 f2 f3 f4 f5) true := by
  unfold laws_eqPack.f
  refine ev_pos rfl ?_
  refine ev_pos rfl ?_
  refine ev_pos rfl ?_
  refine Ev.bind (eqSumS_ok f3 h3) ?_
  refine ev_pos rfl ?_
  refine ev_neg (by simp) ?_
  refine Ev.bind (eqStringS_ok f5 h5) ?_
  refine ev_pos rfl ?_
  exact Ev.now _

end Go.Proofs.Ytbepbfibanmhoaa.U
end

section
namespace Go.Proofs.Ytbepbfibanmhoaa.U
open Go Go.RowKit Go.Proofs.YtbepbfibanmhoaaW.PrintWords Go.Proofs.Ytbepbfibanmhoaa.G
set_option linter.unusedVariables false
set_option maxRecDepth 100000
theorem eqPackS_ok (l : List S40) (h : (l.length ≤ maxLen ∧ ∀ x_ ∈ l, (x_.f3.length ≤ maxLen ∧ x_.f5.length ≤ maxLen))) : Ev (fun k => laws_eqPackS.f k l l) true := by
  unfold laws_eqPackS.f
  refine ev_pos rfl ?_
  refine eq_loop l z40 (fun k i => laws_eqPackS.l0 k l l i) (fun k x => laws_eqPack.f k x.f0 x.f1 x.f2 x.f3 x.f4 x.f5 x.f0 x.f1 x.f2 x.f3 x.f4 x.f5) h.1 ?_ ?_ (fun x hx => eqPack_ok x.f0 x.f1 x.f2 x.f3 (h.2 x hx).1 x.f4 x.f5 (h.2 x hx).2)
  · intro k i hi
    show laws_eqPackS.l0 (k + 1) l l (i : Int) = _
    rw [laws_eqPackS.l0, if_pos (by omega), if_pos (by omega), if_pos (by omega)]
    rfl
  · intro k
    show laws_eqPackS.l0 (k + 1) l l (l.length : Int) = _
    rw [laws_eqPackS.l0, if_neg (by omega)]

end Go.Proofs.Ytbepbfibanmhoaa.U
end

section
namespace Go.Proofs.Ytbepbfibanmhoaa.U
open Go Go.RowKit Go.Proofs.YtbepbfibanmhoaaW.PrintWords Go.Proofs.Ytbepbfibanmhoaa.G
set_option linter.unusedVariables false
set_option maxRecDepth 100000
theorem eqGraph_ok (f0 : List ByteArray) (h0 : f0.length ≤ maxLen) (f1 : List S40) (h1 : (f1.length ≤ maxLen ∧ ∀ x_ ∈ f1, (x_.f3.length ≤ maxLen ∧ x_.f5.length ≤ maxLen))) : Ev (fun k => laws_eqGraph.f k f0 f1 f0 f1) true := by
  unfold laws_eqGraph.f
  refine Ev.bind (eqStringS_ok f0 h0) ?_
  refine ev_pos rfl ?_
  refine Ev.bind (eqPackS_ok f1 h1) ?_
  refine ev_pos rfl ?_
  exact Ev.now _

end Go.Proofs.Ytbepbfibanmhoaa.U
end

section
namespace Go.Proofs.Ytbepbfibanmhoaa.Pure
open Go Go.RowKit Go.Proofs.YtbepbfibanmhoaaW.PrintWords Go.Proofs.Ytbepbfibanmhoaa.G Go.Proofs.Ytbepbfibanmhoaa.U

theorem FnExactSameGraph : laws_FnExactSameGraph.Pure := by
  intro t p u q ht hp hu hq
  refine Ev.rounds (r := true) ?_
  unfold laws_FnExactSameGraph.f
  have s1 := szGraph_ok t ht p hp
  have s2 := szGraph_ok u hu q hq
  refine law_szt room_all s1 fun hw => ?_
  refine law_szt (room_le room_all s1.1 hw) s2 fun hv => ?_
  have n1 := s1.1
  have n2 := s2.1
  have tt := toGraph_ok t ht p hp hw
  have tu := toGraph_ok u hu q hq (by omega)
  have g1 := small_graph hw
  have g2 := small_graph (t := u) (p := q) (by omega)
  have hs : ∀ x ∈ p.map t_Pack, x.f3.length ≤ 1125899906842624 ∧ x.f5.length ≤ 1125899906842624 := fun x hx => by have := (g1.2.2 x hx).2.1; omega
  have e1 := eqGraph_ok t ht.1 (p.map t_Pack) (small_lists g1.2.2 g1.2.1)
  have e2 := eqGraph_ok u hu.1 (q.map t_Pack) (small_lists g2.2.2 g2.2.1)
  have r1 := spec_SameGraph_ev t (p.map t_Pack) u (q.map t_Pack) (by omega) (by omega) hs
  have r2 := impl_SameGraph_ev t (p.map t_Pack) u (q.map t_Pack) (by omega) (by omega) hs
  exact Ev.bind tt (Ev.bind tu (Ev.bind r1 (Ev.bind tt (Ev.bind tu (Ev.bind r2 (ev_neg (by simp) (Ev.bind tt (Ev.bind e1 (ev_pos rfl (Ev.bind tu (Ev.bind e2 (ev_pos rfl (Ev.now _)))))))))))))
end Go.Proofs.Ytbepbfibanmhoaa.Pure
end

section
namespace Go.Proofs.Ytbepbfibanmhoaa.fnExactSameGraph
open Go.ChangeShapes Go.WideShapes Go.ChangeAt Go.RowKit Go.Proofs.Ytbepbfibanmhoaa Go.Proofs.Ytbepbfibanmhoaa.G Go.Proofs.YtbepbfibanmhoaaW.PrintWords
open Go.ChangeMaps (open_string shut_string)
set_option linter.unusedVariables false
set_option linter.unusedSimpArgs false
theorem own : ownKnob Try.prog.godebug = none := by kernel_rfl
theorem laidOut : laidOutB Try.prog = true := by kernel_rfl
theorem opens60 : Op.Opens Try.prog 60 k60 (fun x_ => (x_.f0.size ≤ maxLen ∧ x_.f1.size ≤ maxLen)) := Op.opens_struct (g := (fun x : S60 => (x.f0, x.f1))) (by kernel_rfl) Try.underlying60 (fun a => ⟨⟨a.1, a.2⟩, rfl⟩) (Op.opensF_cons rfl (Op.opens_string (by kernel_rfl) Try.underlying9) (Op.opensF_one rfl (Op.opens_string (by kernel_rfl) Try.underlying9)))
theorem opens52 : Op.Opens Try.prog 52 k52 (fun x_ => (x_.f0.size ≤ maxLen ∧ (x_.f1.size ≤ maxLen ∧ (x_.f2.size ≤ maxLen ∧ ((x_.f3.length ≤ maxLen ∧ ∀ xx_ ∈ x_.f3, (xx_.f0.size ≤ maxLen ∧ xx_.f1.size ≤ maxLen)) ∧ (True ∧ (x_.f5.length ≤ maxLen ∧ ∀ xx_ ∈ x_.f5, xx_.size ≤ maxLen))))))) := Op.opens_struct (g := (fun x : S52 => (x.f0, x.f1, x.f2, x.f3, x.f4, x.f5))) (by kernel_rfl) Try.underlying52 (fun a => ⟨⟨a.1, a.2.1, a.2.2.1, a.2.2.2.1, a.2.2.2.2.1, a.2.2.2.2.2⟩, rfl⟩) (Op.opensF_cons rfl (Op.opens_string (by kernel_rfl) Try.underlying9) (Op.opensF_cons rfl (Op.opens_string (by kernel_rfl) Try.underlying9) (Op.opensF_cons rfl (Op.opens_string (by kernel_rfl) Try.underlying9) (Op.opensF_cons rfl (Op.opens_slice (by kernel_rfl) Try.underlying50 opens60) (Op.opensF_cons rfl (Op.opens_bool (by kernel_rfl) Try.underlying4) (Op.opensF_one rfl (Op.opens_slice (by kernel_rfl) Try.underlying22 (Op.opens_string (by kernel_rfl) Try.underlying9))))))))
theorem opensArg0 : Op.Opens Try.prog 25 (Kd.iso (Kd.pair (Kd.slice 9 Kd.string) (Kd.slice 52 k52)) id) (fun y_ : List ByteArray × List (S52) => ((y_.1.length ≤ maxLen ∧ ∀ x_ ∈ y_.1, x_.size ≤ maxLen) ∧ (y_.2.length ≤ maxLen ∧ ∀ x_ ∈ y_.2, (x_.f0.size ≤ maxLen ∧ (x_.f1.size ≤ maxLen ∧ (x_.f2.size ≤ maxLen ∧ ((x_.f3.length ≤ maxLen ∧ ∀ xx_ ∈ x_.f3, (xx_.f0.size ≤ maxLen ∧ xx_.f1.size ≤ maxLen)) ∧ (True ∧ (x_.f5.length ≤ maxLen ∧ ∀ xx_ ∈ x_.f5, xx_.size ≤ maxLen))))))))) := Op.opens_struct (g := id) (by kernel_rfl) Try.underlying25 (fun a => ⟨a, rfl⟩) (Op.opensF_cons rfl (Op.opens_slice (by kernel_rfl) Try.underlying22 (Op.opens_string (by kernel_rfl) Try.underlying9)) (Op.opensF_one rfl (Op.opens_slice (by kernel_rfl) Try.underlying23 opens52)))
theorem opensArg1 : Op.Opens Try.prog 25 (Kd.iso (Kd.pair (Kd.slice 9 Kd.string) (Kd.slice 52 k52)) id) (fun y_ : List ByteArray × List (S52) => ((y_.1.length ≤ maxLen ∧ ∀ x_ ∈ y_.1, x_.size ≤ maxLen) ∧ (y_.2.length ≤ maxLen ∧ ∀ x_ ∈ y_.2, (x_.f0.size ≤ maxLen ∧ (x_.f1.size ≤ maxLen ∧ (x_.f2.size ≤ maxLen ∧ ((x_.f3.length ≤ maxLen ∧ ∀ xx_ ∈ x_.f3, (xx_.f0.size ≤ maxLen ∧ xx_.f1.size ≤ maxLen)) ∧ (True ∧ (x_.f5.length ≤ maxLen ∧ ∀ xx_ ∈ x_.f5, xx_.size ≤ maxLen))))))))) := Op.opens_struct (g := id) (by kernel_rfl) Try.underlying25 (fun a => ⟨a, rfl⟩) (Op.opensF_cons rfl (Op.opens_slice (by kernel_rfl) Try.underlying22 (Op.opens_string (by kernel_rfl) Try.underlying9)) (Op.opensF_one rfl (Op.opens_slice (by kernel_rfl) Try.underlying23 opens52)))
set_option maxRecDepth 100000 in
theorem contract (H : Type) (enc : TypeId × Value → H) (W : World) (base : Nat) (args : Array Value) (ds gs : List (DataW H)) (before : List MemPlace)
    (hval : ∀ (j : Nat) t v, Try.f4.params[j]? = some t → args[j]? = some v → Value.okWide Try.prog W .any base t v)
    (hW : DataW.Whole enc Try.prog Try.f4.params.toList Rows.fnExactSameGraphSpec.vars false W args.toList ds gs before) :
    Calls Try.prog 4 args W fun e W' => ∃ v, e = .returned v ∧ Rows.fnExactSameGraphSpec.post enc Try.prog Try.f4 false true false false W args v W' := by
  have hW' := hW
  obtain ⟨p, q, hA0, hV, rfl, hfz, hnd⟩ := hW
  have hA : DataW.TrodAll enc Try.prog W 0 (fun _ => true) true Try.f4.params.toList args.toList ds p := hA0
  rw [Try.params4] at hA hval
  obtain ⟨v0, vs0, d0, ds0, p0, q0, hargs, rfl, rfl, h0, r0⟩ := trodAll_cons hA
  obtain ⟨v1, vs1, d1, ds1, p1, q1, rfl, rfl, rfl, h1, r1⟩ := trodAll_cons r0
  obtain ⟨rfl, rfl, rfl⟩ := trodAll_nil r1
  obtain rfl : args = #[v0, v1] := by cases args; simp_all
  obtain ⟨rfl, rfl⟩ := trodVars_none hV
  obtain ⟨cs0, rfl, _⟩ := okWide_struct Try.underlying25 (hval 0 25 v0 rfl rfl)
  have k0 := h0
  have lt0 : ∀ x ∈ p0, x.block < W.heap.size := by obtain ⟨m, hm⟩ := k0; exact DataW.trod_lt m _ _ _ hm
  obtain ⟨⟨l0_0, l0_1⟩, hK0, ⟨z0_0, z0_1⟩⟩ := Op.arg_struct opensArg0 h0
  have hK0_ : ((Kd.pair (Kd.slice 9 Kd.string) (Kd.slice 52 k52))).K W (l0_0, l0_1) cs0.toList := hK0
  obtain ⟨u0_0, w0_0, e0_0, kk0_0, m0_0⟩ := hK0_
  obtain ⟨A0_0, c0_0, rfl, hc0_0, hr0_0⟩ := kk0_0
  obtain ⟨A0_1, c0_1, el0_1, hc0_1, hr0_1⟩ := m0_0
  obtain rfl : cs0 = #[.slice A0_0 l0_0.length c0_0, .slice A0_1 l0_1.length c0_1] := by
    apply Array.toList_inj.1
    rw [e0_0, el0_1]
    first | done | rfl
  obtain ⟨cs1, rfl, _⟩ := okWide_struct Try.underlying25 (hval 1 25 v1 rfl rfl)
  have k1 := h1
  have lt1 : ∀ x ∈ p1, x.block < W.heap.size := by obtain ⟨m, hm⟩ := k1; exact DataW.trod_lt m _ _ _ hm
  obtain ⟨⟨l1_0, l1_1⟩, hK1, ⟨z1_0, z1_1⟩⟩ := Op.arg_struct opensArg1 h1
  have hK1_ : ((Kd.pair (Kd.slice 9 Kd.string) (Kd.slice 52 k52))).K W (l1_0, l1_1) cs1.toList := hK1
  obtain ⟨u1_0, w1_0, e1_0, kk1_0, m1_0⟩ := hK1_
  obtain ⟨A1_0, c1_0, rfl, hc1_0, hr1_0⟩ := kk1_0
  obtain ⟨A1_1, c1_1, el1_1, hc1_1, hr1_1⟩ := m1_0
  obtain rfl : cs1 = #[.slice A1_0 l1_0.length c1_0, .slice A1_1 l1_1.length c1_1] := by
    apply Array.toList_inj.1
    rw [e1_0, el1_1]
    first | done | rfl
  clear hA0
  obtain ⟨k, h⟩ := Pure.FnExactSameGraph l0_0 l0_1 l1_0 l1_1 z0_0 z0_1 z1_0 z1_1
  refine (laws_FnExactSameGraph.calls k A0_0 c0_0 l0_0 A0_1 c0_1 l0_1 A1_0 c1_0 l1_0 A1_1 c1_1 l1_1 true W hr0_0 hc0_0 hr0_1 hc0_1 hr1_0 hc1_0 hr1_1 hc1_1 rfl h).mono fun e W' ⟨he, bel0⟩ => ?_
  have bel : Below W.heap.size W W' := bel0
  subst he
  exact ⟨_, rfl, _, _, _, [], _, [], hW', trodAll_mk1 (shut_bool Try.underlying4 _), (trodAll_cons_mk (Below.trod laidOut (by kernel_rfl) (of_decide_eq_true (by kernel_rfl)) k0 bel lt0) (trodAll_cons_mk (Below.trod laidOut (by kernel_rfl) (of_decide_eq_true (by kernel_rfl)) k1 bel lt1) trodAll_mk0)), rfl, bel.frame _, fun h => by cases h⟩
set_option maxRecDepth 100000 in
theorem lifted (os : Os) (started : os.Started) (H : Type) (enc : TypeId × Value → H) :
    ReturnsInHanded {} Try.checked os 4 .any (Rows.fnExactSameGraphSpec.pre6 enc Try.prog Try.f4 Rows.fnExactSameGraphRow.domain false) (Rows.fnExactSameGraphSpec.post enc Try.prog Try.f4 false true false false) := by
  refine returnsInHanded_of_change_sized (C := Try.checked) own started (by kernel_rfl) Try.func4
    (ChangeSpec.witness6 (enc := enc) (C := Try.checked) false ⟨#[], #[.agg #[.slice none 0 0, .slice none 0 0], .agg #[.slice none 0 0, .slice none 0 0]], []⟩ 8 (by kernel_rfl) (by kernel_rfl) (by kernel_rfl) (by kernel_rfl)) ?_
  intro W base args ds gs before hval hW _ _ hS
  exact contract H enc W base args ds gs before hval hW
theorem over : Rows.fnExactSameGraphRow.holds Try.pinned (OpenSpec.ofChange Rows.fnExactSameGraphSpec) :=
  OpenClaim.holds_of_wide 4 Try.f4 rfl rfl rfl rfl rfl rfl rfl ⟨rfl, rfl, rfl, rfl, rfl⟩ rfl rfl rfl rfl rfl (by kernel_rfl) Try.func4 (by kernel_rfl)
    (of_decide_eq_true (by kernel_rfl)) (by unfold Func.isWrapper; first | (rw [if_pos (by decide +kernel)]; kernel_rfl) | (rw [if_neg (by decide +kernel)]; exact ⟨rfl, rfl⟩))
    (fun os started H enc _ => lifted os started H enc)
theorem proved : Rows.FnExactSameGraphSaid := over
end Go.Proofs.Ytbepbfibanmhoaa.fnExactSameGraph
namespace Go.Proofs.Ytbepbfibanmhoaa
/-- The statement, under a short name, for the claim. -/
theorem fnExactSameGraph_holds : Rows.FnExactSameGraphSaid := fnExactSameGraph.proved
end Go.Proofs.Ytbepbfibanmhoaa
end
