/- A part of the proof that the law FnExactGraphText answers true at every input that its row speaks of. Conditions: the row's own. -/
import Derived.Test.YteldcmniknocpaaGreatDoorMFnExactGraphText6
import Derived.Test.YteldcmniknocpaaGreatDoorKFnExactGraphText0
import Derived.Test.YteldcmniknocpaaGreatDoorKFnExactGraphText1
import Derived.Lib.Join
import Derived.Test.YteldcmniknocpaaGreatDoorMFnExactGraphText5
import Derived.Test.YteldcmniknocpaaGreatDoorMFnExactGraphText0
import Derived.Test.YteldcmniknocpaaGreatDoorRows
import Derived.Test.YteldcmniknocpaaGreatDoorOp
import Derived.Test.YteldcmniknocpaaGreatDoorCards
import Derived.Test.YteldcmniknocpaaGreatDoorTie
import Derived.Test.YteldcmniknocpaaGreatDoorLaid
import Derived.Test.YteldcmniknocpaaGreatDoorFacts
import Derived.WalkKit
import Derived.ProofKit
import Derived.OpenShut
import Derived.ShutString
import Derived.ChangeOld
import Derived.Below
import Derived.SizedLaws
import Derived.Carry
import Derived.Deep.DeepHandedRow
import Derived.Deep.DeepWitnessRowRef
section
namespace Go.Proofs.YteldcmniknocpaaGreatDoor.U
open Go Go.RowKit Go.Proofs.YteldcmniknocpaaGreatDoorW.PrintWords Go.Proofs.YteldcmniknocpaaGreatDoor.G
set_option linter.unusedVariables false
set_option linter.unusedSimpArgs false
def wordSum (y : S51) : B := L y.f0 ++ (58 :: putHex ((L y.f1).take 4))
def tailW (a2 : ByteArray) (l5 : List ByteArray) : List B := (if L a2 = [] then [] else [L a2]) ++ (if l5 = [] then [] else [45, 62] :: l5.map L)
def lineW (x : S44) : List B := (if x.f4 = true then [[100, 101, 118]] else []) ++ (x.f3.map wordSum ++ tailW x.f2 x.f5)
def lineT (x : S44) : B := L (keyOf x) ++ Lib.joinTail [32] (lineW x)
def packsT (l : List S44) : B := (l.map fun x => lineT x ++ [10]).flatten
def graphT (t : List ByteArray) (p : List S44) : B := if graphOk t p = true then ([116, 111, 112] ++ Lib.joinTail [32] (t.map L)) ++ (10 :: packsT p) else []
theorem jt_append (s : B) (a b : List B) : Lib.joinTail s (a ++ b) = Lib.joinTail s a ++ Lib.joinTail s b := by unfold Lib.joinTail; rw [List.map_append, List.flatten_append]
theorem jt_cons (s x : B) (a : List B) : Lib.joinTail s (x :: a) = s ++ (x ++ Lib.joinTail s a) := by unfold Lib.joinTail; rw [List.map_cons, List.flatten_cons, List.append_assoc]
theorem jt_nil (s : B) : Lib.joinTail s [] = [] := rfl
theorem jt_le (n : Nat) (q : List B) (h : ∀ x ∈ q, x.length ≤ n) : (Lib.joinTail [32] q).length ≤ (n + 1) * q.length := by
  induction q with
  | nil => simp [Lib.joinTail]
  | cons x q ih =>
    have h1 := ih fun y hy => h y (by simp [hy])
    have h2 := h x (by simp)
    rw [jt_cons]
    simp only [List.length_append, List.length_cons, List.length_nil, Nat.mul_add, Nat.mul_one]
    omega
theorem join_some32 (q : List B) (n m : Nat) (hn : ∀ x ∈ q, x.length ≤ n) (hb : (n + 1) * q.length ≤ 140737488355328) (hq : q.length ≤ 140737488355328) : strings_Join.f (q.map S) (⟨#[32]⟩ : ByteArray) = some (S (Lib.join q [32])) := by
  unfold strings_Join.f
  have e : ((q.map S).map (·.data.toList)) = q := by
    rw [List.map_map]
    have : ((fun x : ByteArray => x.data.toList) ∘ S) = id := by funext x; exact L_S x
    rw [this, List.map_id]
  have e2 : (⟨#[32]⟩ : ByteArray).data.toList = [32] := rfl
  have le : (Lib.join q [32]).length ≤ (n + 1) * q.length := by
    cases q with
    | nil => simp [Lib.join_nil]
    | cons x r =>
      rw [Lib.join_cons, List.length_append, List.length_cons, Nat.mul_succ]
      have := jt_le n r fun y hy => hn y (by simp [hy])
      have := hn x (by simp)
      omega
  rw [e, e2, List.length_map, if_pos ⟨hq, Nat.le_trans le hb⟩]; rfl
theorem wordSum_len {y : S51} (h : y.f0.size ≤ 1048576) : (wordSum y).length ≤ 1048585 := by
  unfold wordSum
  have := size_L y.f0
  rw [List.length_append, List.length_cons, putHex_length, List.length_take]; omega
theorem map_L_S (l : List ByteArray) : (l.map L).map S = l := by
  rw [List.map_map]
  have : (S ∘ L) = id := by funext x; exact S_L x
  rw [this, List.map_id]
theorem tailW_ok {a2 : ByteArray} {l5 : List ByteArray} (h2 : a2.size ≤ 1048576) (h5 : l5.length ≤ 1048576) (hl : ∀ s ∈ l5, s.size ≤ 1048576) : (tailW a2 l5).length ≤ 1048578 ∧ ∀ x ∈ tailW a2 l5, x.length ≤ 1048576 := by
  have := size_L a2
  have hn : ∀ x ∈ l5.map L, x.length ≤ 1048576 := fun x hx => by
    obtain ⟨s, hs, rfl⟩ := List.mem_map.1 hx
    have := hl s hs; have := size_L s; omega
  unfold tailW
  refine ⟨?_, fun x hx => ?_⟩
  · by_cases c : L a2 = [] <;> by_cases d : l5 = []
    · rw [if_pos c, if_pos d]; simp
    · rw [if_pos c, if_neg d]; simp; omega
    · rw [if_neg c, if_pos d]; simp
    · rw [if_neg c, if_neg d]; simp; omega
  · rcases List.mem_append.1 hx with hx | hx
    · split at hx
      · cases hx
      · rw [List.mem_singleton] at hx; subst hx; omega
    · split at hx
      · cases hx
      · rcases List.mem_cons.1 hx with rfl | hx
        · simp
        · exact hn x hx
theorem sumsFrom_at (l : List S51) : ∀ d i, sumsFrom l d i = true → ∀ j, i ≤ j → j < i + d → sumAt l j = true := by
  intro d
  induction d with
  | zero => intro i _ j h1 h2; omega
  | succ d ih =>
    intro i h j h1 h2
    rw [sumsFrom, Bool.and_eq_true] at h
    by_cases e : j = i
    · subst e; exact h.1
    · exact ih (i + 1) h.2 j (by omega) (by omega)
theorem sums_four {l : List S51} (h : sumsOk l = true) (j : Nat) (hj : j < l.length) : 4 ≤ (l.getD j z51).f1.size := by
  have := sumsFrom_at l l.length 0 h j (by omega) (by omega)
  rw [sumAt, Bool.and_eq_true, sum1, decide_eq_true_eq] at this
  have := this.1
  unfold sumLen at this
  split at this
  · omega
  · split at this
    · omega
    · split at this <;> omega
theorem packsFrom_at (p : List S44) : ∀ d i, packsFrom p d i = true → ∀ j, i ≤ j → j < i + d → packAt p j = true := by
  intro d
  induction d with
  | zero => intro i _ j h1 h2; omega
  | succ d ih =>
    intro i h j h1 h2
    rw [packsFrom, Bool.and_eq_true] at h
    by_cases e : j = i
    · subst e; exact h.1
    · exact ih (i + 1) h.2 j (by omega) (by omega)
theorem graphOk_is {t : List ByteArray} {p : List S44} (h : graphOk t p = true) : p.length ≤ 40 ∧ ∀ i, i < p.length → ∀ j, j < (p.getD i z44).f3.length → 4 ≤ ((p.getD i z44).f3.getD j z51).f1.size := by
  unfold graphOk at h
  rw [Bool.and_eq_true, Bool.and_eq_true, decide_eq_true_eq] at h
  refine ⟨h.2.1, fun i hi => sums_four ?_⟩
  have := packsFrom_at p p.length 0 h.1 i (by omega) (by omega)
  rw [packAt, Bool.and_eq_true, packOk, Bool.and_eq_true, Bool.and_eq_true, Bool.and_eq_true] at this
  exact this.1.2.2.2
theorem hex_four (y : S51) : L (y.f1.extract 0 4) = (L y.f1).take 4 := by rw [L_extract]; simp
theorem packsT_cons (x : S44) (l : List S44) : packsT (x :: l) = (lineT x ++ [10]) ++ packsT l := by unfold packsT; rw [List.map_cons, List.flatten_cons]
theorem size3 (a : ByteArray) (c : UInt8) (b : ByteArray) : ((a ++ (⟨#[c]⟩ : ByteArray)) ++ b).size = a.size + 1 + b.size := by rw [ByteArray.size_append, ByteArray.size_append]; rfl
theorem size2 (a : ByteArray) (c : UInt8) : (a ++ (⟨#[c]⟩ : ByteArray)).size = a.size + 1 := by rw [ByteArray.size_append]; rfl
theorem put1 (acc : B) (c : UInt8) (x : ByteArray) : (S acc ++ (⟨#[c]⟩ : ByteArray)) ++ x = S (acc ++ (c :: L x)) := by
  apply L_inj; rw [L_S, L_append, L_append, L_S]
  show (acc ++ [c]) ++ L x = _
  simp
theorem put0 (acc : B) (c : UInt8) : S acc ++ (⟨#[c]⟩ : ByteArray) = S (acc ++ [c]) := by
  apply L_inj; rw [L_S, L_append, L_S]; rfl
theorem spec_needs (a0 a1 a2 : ByteArray) (l3 : List S51) (a4 : Bool) (l5 : List ByteArray) (h5 : l5.length ≤ 1048576) (hl : ∀ s ∈ l5, s.size ≤ 1048576) : ∀ d i (acc : B), i + d = l5.length → 1 ≤ i → acc.length ≤ 10000000000010 + 1048577 * i →
    Ev (fun k => spec_l04Line.l1 k (S acc) (i : Int) a0 a1 a2 l3 a4 l5) (S (acc ++ Lib.joinTail [32] ((l5.drop i).map L))) := by
  intro d
  induction d with
  | zero =>
    intro i acc hi h1 ha
    rw [List.drop_of_length_le (by omega), List.map_nil, jt_nil, List.append_nil]
    exact Ev.step (f := fun k => some (S acc)) (fun k => by rw [spec_l04Line.l1, if_neg (by omega)]) (Ev.now _)
  | succ d ih =>
    intro i acc hi h1 ha
    have hlt : i < l5.length := by omega
    have hm := hl _ (getD_mem l5 i ByteArray.empty hlt)
    have hm' := size_L (l5.getD i ByteArray.empty)
    have ee : rdOf ByteArray.empty l5 (i : Int) = l5.getD i ByteArray.empty := rfl
    rw [drop_getD l5 i ByteArray.empty hlt, List.map_cons, jt_cons, ← List.append_assoc, ← List.append_assoc]
    have go := ih (i + 1) ((acc ++ [32]) ++ L (l5.getD i ByteArray.empty)) (by omega) (by omega) (by rw [List.length_append, List.length_append, List.length_singleton]; omega)
    rw [List.append_assoc acc] at go ⊢
    refine Ev.step (fun k => ?_) go
    rw [spec_l04Line.l1, if_pos (by omega), if_neg (by omega), if_pos (by rw [size_S]; omega), if_pos (by omega), ee, if_pos (by rw [size2, size_S]; omega), put1, wa1 i (by omega)]; rfl
theorem spec_needs0 (a0 a1 a2 : ByteArray) (l3 : List S51) (a4 : Bool) (l5 : List ByteArray) (h5 : l5.length ≤ 1048576) (hl : ∀ s ∈ l5, s.size ≤ 1048576) (acc : B) (ha : acc.length ≤ 10000000000000) :
    Ev (fun k => spec_l04Line.l1 k (S acc) 0 a0 a1 a2 l3 a4 l5) (S (acc ++ Lib.joinTail [32] (if l5 = [] then [] else [45, 62] :: l5.map L))) := by
  cases l5 with
  | nil =>
    rw [if_pos rfl, jt_nil, List.append_nil]
    exact Ev.step (f := fun k => some (S acc)) (fun k => by rw [spec_l04Line.l1, if_neg (by simp)]) (Ev.now _)
  | cons y r =>
    have hm := hl y (by simp)
    have hm' := size_L y
    rw [if_neg (by simp), List.map_cons, jt_cons, jt_cons]
    have go := spec_needs a0 a1 a2 l3 a4 (y :: r) h5 hl r.length 1 (acc ++ ([32] ++ ([45, 62] ++ ([32] ++ L y)))) (by simp; omega) (by omega) (by simp; omega)
    rw [show (y :: r).drop 1 = r from rfl, List.append_assoc] at go
    simp only [List.append_assoc] at go ⊢
    refine Ev.step (fun k => ?_) go
    have ee : rdOf ByteArray.empty (y :: r) 0 = y := rfl
    have e1 : S acc ++ (⟨#[32, 45, 62]⟩ : ByteArray) = S (acc ++ [32, 45, 62]) := by apply L_inj; rw [L_S, L_append, L_S]; rfl
    have e2 : S (acc ++ ([32] ++ ([45, 62] ++ ([32] ++ L y)))) = S ((acc ++ [32, 45, 62]) ++ (32 :: L y)) := by congr 1; simp
    rw [spec_l04Line.l1, if_pos (by simp), if_pos rfl, if_pos (by rw [size_S]; omega), e1, if_pos (by rw [size_S, List.length_append]; simp; omega), if_pos (by omega), ee, if_pos (by rw [size2, size_S, List.length_append]; simp; omega), put1, show wrap64 (0 + 1) = ((1 : Nat) : Int) from wa1 0 (by omega), e2]
theorem spec_tail (a0 a1 a2 : ByteArray) (l3 : List S51) (a4 : Bool) (l5 : List ByteArray) (h2 : a2.size ≤ 1048576) (h5 : l5.length ≤ 1048576) (hl : ∀ s ∈ l5, s.size ≤ 1048576) (acc : B) (ha : acc.length ≤ 9000000000000) :
    Ev (fun k => if a2.toList = ([] : List UInt8) then spec_l04Line.j2 k (S acc) a0 a1 a2 l3 a4 l5 else if (S acc).size + 1 ≤ 9223372036854775807 then (if (S acc ++ (⟨#[32]⟩ : ByteArray)).size + a2.size ≤ 9223372036854775807 then spec_l04Line.j2 k ((S acc ++ (⟨#[32]⟩ : ByteArray)) ++ a2) a0 a1 a2 l3 a4 l5 else none) else none) (S (acc ++ Lib.joinTail [32] (tailW a2 l5))) := by
  have j2 : ∀ (b : B) r, Ev (fun k => spec_l04Line.l1 k (S b) 0 a0 a1 a2 l3 a4 l5) r → Ev (fun k => spec_l04Line.j2 k (S b) a0 a1 a2 l3 a4 l5) r := fun b r h => Ev.step (fun k => by rw [spec_l04Line.j2]) h
  have := size_L a2
  unfold tailW
  by_cases c : L a2 = []
  · rw [if_pos c, List.nil_append]
    exact ev_pos (by rw [toList_L]; exact c) (j2 _ _ (spec_needs0 a0 a1 a2 l3 a4 l5 h5 hl acc (by omega)))
  · rw [if_neg c, jt_append, jt_cons, jt_nil, List.append_nil, ← List.append_assoc]
    refine ev_neg (by rw [toList_L]; exact c) (ev_pos (by rw [size_S]; omega) (ev_pos (by rw [size2, size_S]; omega) ?_))
    rw [put1]
    exact j2 _ _ (spec_needs0 a0 a1 a2 l3 a4 l5 h5 hl (acc ++ (32 :: L a2)) (by rw [List.length_append, List.length_cons]; omega))
theorem spec_sums (a0 a1 a2 : ByteArray) (l3 : List S51) (a4 : Bool) (l5 : List ByteArray) (h2 : a2.size ≤ 1048576) (h3 : l3.length ≤ 1048576) (h4 : ∀ y ∈ l3, y.f0.size ≤ 1048576 ∧ y.f1.size ≤ 1048576) (hf : ∀ j, j < l3.length → 4 ≤ (l3.getD j z51).f1.size) (h5 : l5.length ≤ 1048576) (hl : ∀ s ∈ l5, s.size ≤ 1048576) : ∀ d i (acc : B), i + d = l3.length → acc.length ≤ 1000000000000 + 1048586 * i →
    Ev (fun k => spec_l04Line.l0 k (S acc) (i : Int) a0 a1 a2 l3 a4 l5) (S (acc ++ Lib.joinTail [32] ((l3.drop i).map wordSum ++ tailW a2 l5))) := by
  intro d
  induction d with
  | zero =>
    intro i acc hi ha
    rw [List.drop_of_length_le (by omega), List.map_nil, List.nil_append]
    exact Ev.step (fun k => by rw [spec_l04Line.l0, if_neg (by omega)]) (spec_tail a0 a1 a2 l3 a4 l5 h2 h5 hl acc (by omega))
  | succ d ih =>
    intro i acc hi ha
    have hlt : i < l3.length := by omega
    have hm := h4 _ (getD_mem l3 i z51 hlt)
    have h4' := hf i hlt
    have hw := wordSum_len hm.1
    have ee : rd_T51 l3 (i : Int) = l3.getD i z51 := rfl
    rw [drop_getD l3 i z51 hlt, List.map_cons, List.cons_append, jt_cons]
    generalize l3.getD i z51 = y at *
    have z0 := size_L y.f0
    have go := ih (i + 1) (acc ++ (32 :: wordSum y)) (by omega) (by rw [List.length_append, List.length_cons]; omega)
    have eg : acc ++ ([32] ++ (wordSum y ++ Lib.joinTail [32] (List.map wordSum (List.drop (i + 1) l3) ++ tailW a2 l5))) = (acc ++ (32 :: wordSum y)) ++ Lib.joinTail [32] (List.map wordSum (List.drop (i + 1) l3) ++ tailW a2 l5) := by simp
    rw [eg]
    have hx := spec_PutHex_ev (y.f1.extract 0 4) (by rw [size_L, hex_four, List.length_take]; omega)
    rw [hex_four] at hx
    have hxl : (putHex ((L y.f1).take 4)).length ≤ 8 := by rw [putHex_length, List.length_take]; omega
    refine Ev.step (f := fun k => (spec_PutHex.f k (y.f1.extract 0 4)).bind fun t => if (((S acc ++ (⟨#[32]⟩ : ByteArray)) ++ y.f0) ++ (⟨#[58]⟩ : ByteArray)).size + t.size ≤ 9223372036854775807 then spec_l04Line.l0 k ((((S acc ++ (⟨#[32]⟩ : ByteArray)) ++ y.f0) ++ (⟨#[58]⟩ : ByteArray)) ++ t) ((i + 1 : Nat) : Int) a0 a1 a2 l3 a4 l5 else none) (fun k => ?_) (Ev.bind hx (ev_pos ?_ ?_))
    · rw [spec_l04Line.l0, if_pos (by omega), if_pos (by rw [size_S]; omega), if_pos (by omega), ee, if_pos (by rw [size2, size_S]; omega), if_pos (by rw [size3, size_S]; omega), if_pos (by omega), if_pos (by omega), wa1 i (by omega)]
    · rw [size2, size3, size_S, size_S]; omega
    · have e : (((S acc ++ (⟨#[32]⟩ : ByteArray)) ++ y.f0) ++ (⟨#[58]⟩ : ByteArray)) ++ S (putHex ((L y.f1).take 4)) = S (acc ++ (32 :: wordSum y)) := by
        rw [put1, put0, S_append]; congr 1; unfold wordSum; simp
      rw [e]; exact go
theorem keyOf_len {x : S44} (h : SmallP x) : (L (keyOf x)).length ≤ 2097153 := by
  have := h.1; have := size_L x.f0; have := size_L x.f1
  unfold keyOf; rw [L_append, L_append, List.length_append, List.length_append]
  show (_ + 1) + _ ≤ _; omega
theorem spec_l04Line_ev (x : S44) (h : SmallP x) (hf : ∀ j, j < x.f3.length → 4 ≤ (x.f3.getD j z51).f1.size) : Ev (fun k => spec_l04Line.f k x.f0 x.f1 x.f2 x.f3 x.f4 x.f5) (S (lineT x)) := by
  unfold spec_l04Line.f lineT lineW
  have hk := keyOf_len h
  have hz := size_L (keyOf x)
  have j0 : ∀ (b : B) r, Ev (fun k => spec_l04Line.l0 k (S b) ((0 : Nat) : Int) x.f0 x.f1 x.f2 x.f3 x.f4 x.f5) r → Ev (fun k => spec_l04Line.j0 k (S b) x.f0 x.f1 x.f2 x.f3 x.f4 x.f5) r := fun b r h => Ev.step (fun k => by rw [spec_l04Line.j0]; rfl) h
  have sums := fun acc ha => spec_sums x.f0 x.f1 x.f2 x.f3 x.f4 x.f5 h.1.2.2 h.2.1.1 h.2.2.1 hf h.2.1.2 h.2.2.2 x.f3.length 0 acc (by omega) ha
  rw [key_spec x h]
  refine ev_some ?_
  by_cases c : x.f4 = true
  · rw [if_pos c, List.singleton_append, jt_cons]
    have e : keyOf x ++ (⟨#[32, 100, 101, 118]⟩ : ByteArray) = S (L (keyOf x) ++ [32, 100, 101, 118]) := by apply L_inj; rw [L_append, L_S]; rfl
    have e2 : L (keyOf x) ++ ([32] ++ ([100, 101, 118] ++ Lib.joinTail [32] (x.f3.map wordSum ++ tailW x.f2 x.f5))) = (L (keyOf x) ++ [32, 100, 101, 118]) ++ Lib.joinTail [32] (x.f3.map wordSum ++ tailW x.f2 x.f5) := by simp
    rw [e2]
    refine ev_pos c (ev_pos (by omega) ?_)
    rw [e]
    exact j0 _ _ (sums _ (by rw [List.length_append]; simp; omega))
  · rw [if_neg c, List.nil_append]
    exact ev_neg c (j0 (L (keyOf x)) _ (sums _ (by omega)))
theorem lineT_len {x : S44} (h : SmallP x) : (lineT x).length ≤ 5000000000000 := by
  have hk := keyOf_len h
  have ht := tailW_ok h.1.2.2 h.2.1.2 h.2.2.2
  have hall : ∀ w ∈ lineW x, w.length ≤ 1048585 := fun w hw => by
    unfold lineW at hw
    rcases List.mem_append.1 hw with hw | hw
    · split at hw
      · rw [List.mem_singleton] at hw; subst hw; simp
      · cases hw
    · rcases List.mem_append.1 hw with hw | hw
      · obtain ⟨y, hy, rfl⟩ := List.mem_map.1 hw
        exact wordSum_len (h.2.2.1 y hy).1
      · have := ht.2 w hw; omega
  have hn : (lineW x).length ≤ 2097155 := by
    have := h.2.1
    unfold lineW
    rw [List.length_append, List.length_append, List.length_map]
    split <;> simp <;> omega
  have := jt_le 1048585 (lineW x) hall
  have : (1048585 + 1) * (lineW x).length ≤ (1048585 + 1) * 2097155 := Nat.mul_le_mul_left _ hn
  unfold lineT; rw [List.length_append]; omega
theorem join_len32 (q : List B) (n : Nat) (hn : ∀ x ∈ q, x.length ≤ n) : (Lib.join q [32]).length ≤ (n + 1) * q.length := by
  cases q with
  | nil => simp [Lib.join_nil]
  | cons x r =>
    rw [Lib.join_cons, List.length_append, List.length_cons, Nat.mul_succ]
    have := jt_le n r fun y hy => hn y (by simp [hy])
    have := hn x (by simp)
    omega
theorem impl_end (acc : B) (p : List S44) (i : Nat) (hi : i ≤ 1048576) (hacc : acc.length ≤ 1000000000000000) (r : ByteArray) (q : List B) (hq : q.length ≤ 4194304) (hw : ∀ w ∈ q, w.length ≤ 2097153)
    (h : Ev (fun k => impl_GraphText.l0 k (S (acc ++ (Lib.join q [32] ++ [10]))) p (p.length : Int) ((i + 1 : Nat) : Int)) r) :
    Ev (fun k => (strings_Join.f (q.map S) (⟨#[32]⟩ : ByteArray)).bind fun t => if t.size + 1 ≤ 9223372036854775807 then (if (S acc).size + (t ++ (⟨#[10]⟩ : ByteArray)).size ≤ 9223372036854775807 then impl_GraphText.l0 k (S acc ++ (t ++ (⟨#[10]⟩ : ByteArray))) p (p.length : Int) (wrap64 ((i : Int) + 1)) else none) else none) r := by
  have hj := join_len32 q 2097153 hw
  rw [join_some32 q 2097153 0 hw (by omega) (by omega), wa1 i (by omega)]
  refine ev_some (ev_pos (by rw [size_S]; omega) (ev_pos (by rw [size2, size_S, size_S]; omega) ?_))
  rw [put0, S_append]; exact h
theorem impl_sums (acc : B) (p : List S44) (i : Nat) (hi : i ≤ 1048576) (hacc : acc.length ≤ 1000000000000000) (r : ByteArray) (a0 a1 a2 : ByteArray) (l3 : List S51) (a4 : Bool) (l5 : List ByteArray) (h2 : a2.size ≤ 1048576) (h3 : l3.length ≤ 1048576) (h4 : ∀ y ∈ l3, y.f0.size ≤ 1048576 ∧ y.f1.size ≤ 1048576) (hf : ∀ j, j < l3.length → 4 ≤ (l3.getD j z51).f1.size) (h5 : l5.length ≤ 1048576) (hl : ∀ s ∈ l5, s.size ≤ 1048576) : ∀ d j (W : List B), j + d = l3.length → W.length ≤ 2 + j → (∀ w ∈ W, w.length ≤ 2097153) →
    Ev (fun k => impl_GraphText.l0 k (S (acc ++ (Lib.join (W ++ ((l3.drop j).map wordSum ++ tailW a2 l5)) [32] ++ [10]))) p (p.length : Int) ((i + 1 : Nat) : Int)) r →
    Ev (fun k => impl_GraphText.l1 k (S acc) (W.map S) p (p.length : Int) (i : Int) l3 (l3.length : Int) (j : Int) a0 a1 a2 l3 a4 l5) r := by
  intro d
  induction d with
  | zero =>
    intro j W hj hW hw h
    rw [List.drop_of_length_le (by omega), List.map_nil, List.nil_append] at h
    have ht := tailW_ok h2 h5 hl
    have hq : (W ++ tailW a2 l5).length ≤ 4194304 := by rw [List.length_append]; omega
    have hqw : ∀ w ∈ W ++ tailW a2 l5, w.length ≤ 2097153 := fun w hx => by
      rcases List.mem_append.1 hx with hx | hx
      · exact hw w hx
      · have := ht.2 w hx; omega
    have fin := impl_end acc p i hi hacc r (W ++ tailW a2 l5) hq hqw h
    have hWl : (W.map S).length ≤ 1048578 := by rw [List.length_map]; omega
    refine Ev.step (fun k => by rw [impl_GraphText.l1, if_neg (by omega)]) ?_
    by_cases c : L a2 = []
    · refine ev_pos (by rw [toList_L]; exact c) ?_
      by_cases e : l5 = []
      · have e1 : (W ++ tailW a2 l5).map S = W.map S := by unfold tailW; rw [if_pos c, if_pos e, List.append_nil, List.append_nil]
        rw [e1] at fin
        refine ev_neg (by rw [e]; simp) ?_
        exact fin
      · have e1 : (W ++ tailW a2 l5).map S = (W.map S ++ [(⟨#[45, 62]⟩ : ByteArray)]) ++ l5 := by unfold tailW; rw [if_pos c, if_neg e, List.nil_append, List.map_append, List.map_cons, map_L_S, List.append_assoc]; rfl
        have hp : 0 < l5.length := List.length_pos_iff.2 e
        rw [e1] at fin
        refine ev_pos (by omega) (ev_pos (by omega) (ev_some (ev_pos (by rw [List.length_append, List.length_singleton]; omega) ?_)))
        exact fin
    · refine ev_neg (by rw [toList_L]; exact c) (ev_pos (by omega) (ev_some ?_))
      by_cases e : l5 = []
      · have e1 : (W ++ tailW a2 l5).map S = W.map S ++ [a2] := by unfold tailW; rw [if_neg c, if_pos e, List.append_nil, List.map_append]; rfl
        rw [e1] at fin
        refine ev_neg (by rw [e]; simp) ?_
        exact fin
      · have e1 : (W ++ tailW a2 l5).map S = ((W.map S ++ [a2]) ++ [(⟨#[45, 62]⟩ : ByteArray)]) ++ l5 := by unfold tailW; rw [if_neg c, if_neg e]; simp only [List.map_append, List.map_cons, List.map_nil, map_L_S, S_L, List.append_assoc, List.cons_append, List.nil_append]; rfl
        have hp : 0 < l5.length := List.length_pos_iff.2 e
        rw [e1] at fin
        refine ev_pos (by omega) (ev_pos (by rw [List.length_append, List.length_singleton]; omega) (ev_some (ev_pos (by rw [List.length_append, List.length_append, List.length_singleton, List.length_singleton]; omega) ?_)))
        exact fin
  | succ d ih =>
    intro j W hj hW hw h
    have hlt : j < l3.length := by omega
    have hm := h4 _ (getD_mem l3 j z51 hlt)
    have h4' := hf j hlt
    have hwl := wordSum_len hm.1
    have ee : rd_T51 l3 (j : Int) = l3.getD j z51 := rfl
    rw [drop_getD l3 j z51 hlt, List.map_cons, List.cons_append] at h
    generalize l3.getD j z51 = y at *
    have z0 := size_L y.f0
    have hx := impl_PutHex_ev (y.f1.extract 0 4) (by rw [size_L, hex_four, List.length_take]; omega)
    rw [hex_four] at hx
    have hxl : (putHex ((L y.f1).take 4)).length ≤ 8 := by rw [putHex_length, List.length_take]; omega
    have go := ih (j + 1) (W ++ [wordSum y]) (by omega) (by rw [List.length_append, List.length_singleton]; omega) (fun w hx => by
      rcases List.mem_append.1 hx with hx | hx
      · exact hw w hx
      · rw [List.mem_singleton] at hx; subst hx; omega) (by rw [List.append_assoc, List.singleton_append]; exact h)
    have e : W.map S ++ [(y.f0 ++ (⟨#[58]⟩ : ByteArray)) ++ S (putHex ((L y.f1).take 4))] = (W ++ [wordSum y]).map S := by
      rw [List.map_append, List.map_singleton]
      congr 2
      apply L_inj; rw [L_append, L_append, L_S, L_S]; unfold wordSum
      show (L y.f0 ++ [58]) ++ _ = _; simp
    refine Ev.step (f := fun k => (impl_PutHex.f k (y.f1.extract 0 4)).bind fun t => if (y.f0 ++ (⟨#[58]⟩ : ByteArray)).size + t.size ≤ 9223372036854775807 then (if (W.map S).length < 8796093022208 then impl_GraphText.l1 k (S acc) (W.map S ++ [(y.f0 ++ (⟨#[58]⟩ : ByteArray)) ++ t]) p (p.length : Int) (i : Int) l3 (l3.length : Int) ((j + 1 : Nat) : Int) a0 a1 a2 l3 a4 l5 else none) else none) (fun k => ?_) (Ev.bind hx (ev_pos ?_ (ev_pos (by rw [List.length_map]; omega) ?_)))
    · rw [impl_GraphText.l1, if_pos (by omega), if_pos (by omega), if_pos (by omega), ee, if_pos (by omega), if_pos (by omega), if_pos (by omega), wa1 j (by omega)]
    · rw [size2, size_S]; omega
    · rw [e]; exact go
theorem impl_packs (p : List S44) (hs : ∀ x ∈ p, SmallP x) (hp : p.length ≤ 40) (hf : ∀ i, i < p.length → ∀ j, j < (p.getD i z44).f3.length → 4 ≤ ((p.getD i z44).f3.getD j z51).f1.size) : ∀ d i (acc : B), i + d = p.length → acc.length ≤ 100000000000000 + 5000000000001 * i →
    Ev (fun k => impl_GraphText.l0 k (S acc) p (p.length : Int) (i : Int)) (S (acc ++ packsT (p.drop i))) := by
  intro d
  induction d with
  | zero =>
    intro i acc hi ha
    rw [List.drop_of_length_le (by omega)]
    exact Ev.step (f := fun k => some (S acc)) (fun k => by rw [impl_GraphText.l0, if_neg (by omega)]) (ev_use (Ev.now _) (by simp [packsT]))
  | succ d ih =>
    intro i acc hi ha
    have hlt : i < p.length := by omega
    have hm := hs _ (getD_mem p i z44 hlt)
    have hfi := hf i hlt
    have ee : rd_T44 p (i : Int) = p.getD i z44 := rfl
    rw [drop_getD p i z44 hlt, packsT_cons, ← List.append_assoc]
    generalize p.getD i z44 = x at *
    have hln := lineT_len hm
    have hk := keyOf_len hm
    have go := ih (i + 1) (acc ++ (lineT x ++ [10])) (by omega) (by rw [List.length_append, List.length_append, List.length_singleton]; omega)
    have sums := impl_sums acc p i (by omega) (by omega) (S ((acc ++ (lineT x ++ [10])) ++ packsT (p.drop (i + 1)))) x.f0 x.f1 x.f2 x.f3 x.f4 x.f5 hm.1.2.2 hm.2.1.1 hm.2.2.1 hfi hm.2.1.2 hm.2.2.2 x.f3.length 0
    have j1 : ∀ W : List B, Ev (fun k => impl_GraphText.l1 k (S acc) (W.map S) p (p.length : Int) (i : Int) x.f3 (x.f3.length : Int) ((0 : Nat) : Int) x.f0 x.f1 x.f2 x.f3 x.f4 x.f5) (S ((acc ++ (lineT x ++ [10])) ++ packsT (p.drop (i + 1)))) → Ev (fun k => impl_GraphText.j1 k (S acc) (W.map S) p (p.length : Int) (i : Int) x.f0 x.f1 x.f2 x.f3 x.f4 x.f5) (S ((acc ++ (lineT x ++ [10])) ++ packsT (p.drop (i + 1)))) := fun W h => Ev.step (fun k => by rw [impl_GraphText.j1]; rfl) h
    refine Ev.step (fun k => by rw [impl_GraphText.l0, if_pos (by omega), if_pos (by omega), if_pos (by omega), ee, key_impl _ hm, Option.bind_some]) (ev_some ?_)
    by_cases c : x.f4 = true
    · have e1 : [keyOf x] ++ [(⟨#[100, 101, 118]⟩ : ByteArray)] = [L (keyOf x), [100, 101, 118]].map S := rfl
      refine ev_pos c (ev_pos (by simp) ?_)
      rw [e1]
      refine j1 _ (sums [L (keyOf x), [100, 101, 118]] (by omega) (by simp) (fun w hw => ?_) ?_)
      · rcases List.mem_cons.1 hw with rfl | hw
        · exact hk
        · rw [List.mem_singleton] at hw; subst hw; simp
      · have e2 : Lib.join ([L (keyOf x), [100, 101, 118]] ++ ((x.f3.drop 0).map wordSum ++ tailW x.f2 x.f5)) [32] = lineT x := by
          rw [List.cons_append, Lib.join_cons]; unfold lineT lineW; rw [if_pos c]; rfl
        rw [e2]; exact go
    · have e1 : [keyOf x] = [L (keyOf x)].map S := rfl
      refine ev_neg c ?_
      rw [e1]
      refine j1 _ (sums [L (keyOf x)] (by omega) (by simp) (fun w hw => ?_) ?_)
      · rw [List.mem_singleton] at hw; subst hw; exact hk
      · have e2 : Lib.join ([L (keyOf x)] ++ ((x.f3.drop 0).map wordSum ++ tailW x.f2 x.f5)) [32] = lineT x := by
          rw [List.cons_append, Lib.join_cons]; unfold lineT lineW; rw [if_neg c]; rfl
        rw [e2]; exact go
theorem impl_GraphText_ev (t : List ByteArray) (p : List S44) (hp : p.length ≤ 1048576) (hs : ∀ x ∈ p, SmallP x) (ht : t.length ≤ 1048576) (hts : ∀ s ∈ t, s.size ≤ 1048576) : Ev (fun k => impl_GraphText.f k t p) (S (graphT t p)) := by
  unfold impl_GraphText.f graphT
  refine Ev.bind (impl_GraphOk_ev t p hp hs ht) ?_
  by_cases h : graphOk t p = true
  · obtain ⟨h40, hf⟩ := graphOk_is h
    have hw : ∀ w ∈ [116, 111, 112] :: t.map L, w.length ≤ 1048576 := fun w hw => by
      rcases List.mem_cons.1 hw with rfl | hw
      · simp
      · obtain ⟨s, hs', rfl⟩ := List.mem_map.1 hw
        have := hts s hs'; have := size_L s; omega
    have hql : ([116, 111, 112] :: t.map L).length ≤ 1048577 := by simp; omega
    have hj := join_len32 _ 1048576 hw
    have e1 : [(⟨#[116, 111, 112]⟩ : ByteArray)] ++ t = ([116, 111, 112] :: t.map L).map S := by rw [List.map_cons, map_L_S]; rfl
    rw [if_pos h]
    refine ev_pos h (ev_some (ev_pos (by simp; omega) ?_))
    rw [e1, join_some32 _ 1048576 0 hw (by omega) (by omega)]
    refine ev_some (ev_pos (by rw [size_S]; omega) ?_)
    rw [put0]
    refine ev_use (impl_packs p hs h40 hf p.length 0 _ (by omega) (by rw [List.length_append, List.length_singleton]; omega)) ?_
    rw [Lib.join_cons, List.drop_zero]; simp
  · rw [if_neg h]
    exact ev_neg h (Ev.now _)
theorem spec_packs (t : List ByteArray) (p : List S44) (hs : ∀ x ∈ p, SmallP x) (hp : p.length ≤ 40) (hf : ∀ i, i < p.length → ∀ j, j < (p.getD i z44).f3.length → 4 ≤ ((p.getD i z44).f3.getD j z51).f1.size) : ∀ d i (acc : B), i + d = p.length → acc.length ≤ 100000000000000 + 5000000000001 * i →
    Ev (fun k => spec_GraphText.l1 k (S acc) (i : Int) t p) (S (acc ++ packsT (p.drop i))) := by
  intro d
  induction d with
  | zero =>
    intro i acc hi ha
    rw [List.drop_of_length_le (by omega)]
    exact Ev.step (f := fun k => some (S acc)) (fun k => by rw [spec_GraphText.l1, if_neg (by omega)]) (ev_use (Ev.now _) (by simp [packsT]))
  | succ d ih =>
    intro i acc hi ha
    have hlt : i < p.length := by omega
    have hm := hs _ (getD_mem p i z44 hlt)
    have hfi := hf i hlt
    have ee : rd_T44 p (i : Int) = p.getD i z44 := rfl
    rw [drop_getD p i z44 hlt, packsT_cons, ← List.append_assoc]
    generalize p.getD i z44 = x at *
    have hln := lineT_len hm
    have go := ih (i + 1) (acc ++ (lineT x ++ [10])) (by omega) (by rw [List.length_append, List.length_append, List.length_singleton]; omega)
    refine Ev.step (fun k => by rw [spec_GraphText.l1, if_pos (by omega), if_pos (show (0 : Int) ≤ (i : Int) by omega), ee, wa1 i (by omega)]) ?_
    refine Ev.bind (spec_l04Line_ev x hm hfi) (ev_pos (by rw [size_S, size_S]; omega) (ev_pos (by rw [S_append, size_S, List.length_append]; omega) ?_))
    rw [S_append, put0, List.append_assoc]; exact go
theorem spec_GraphText_ev (t : List ByteArray) (p : List S44) (hp : p.length ≤ 1048576) (hs : ∀ x ∈ p, SmallP x) (ht : t.length ≤ 1048576) (hts : ∀ s ∈ t, s.size ≤ 1048576) : Ev (fun k => spec_GraphText.f k t p) (S (graphT t p)) := by
  unfold spec_GraphText.f graphT
  refine Ev.bind (spec_GraphOk_ev t p hp hs ht) ?_
  by_cases h : graphOk t p = true
  · obtain ⟨h40, hf⟩ := graphOk_is h
    rw [if_pos h]
    refine ev_pos h ?_
    have key : ∀ d i (acc : B), i + d = t.length → acc.length ≤ 3 + 1048577 * i → Ev (fun k => spec_GraphText.l0 k (S acc) (i : Int) t p) (S ((acc ++ Lib.joinTail [32] ((t.drop i).map L)) ++ (10 :: packsT p))) := by
      intro d
      induction d with
      | zero =>
        intro i acc hi ha
        rw [List.drop_of_length_le (by omega), List.map_nil, jt_nil, List.append_nil]
        refine Ev.step (f := fun k => if (S acc).size + 1 ≤ 9223372036854775807 then spec_GraphText.l1 k (S acc ++ (⟨#[10]⟩ : ByteArray)) 0 t p else none) (fun k => by rw [spec_GraphText.l0, if_neg (show ¬ (i : Int) < (t.length : Int) by omega)]) (ev_pos (by rw [size_S]; omega) ?_)
        rw [put0]
        refine ev_use (spec_packs t p hs h40 hf p.length 0 _ (by omega) (by rw [List.length_append, List.length_singleton]; omega)) ?_
        rw [List.drop_zero, List.append_assoc]; rfl
      | succ d ih =>
        intro i acc hi ha
        have hlt : i < t.length := by omega
        have hm := hts _ (getD_mem t i ByteArray.empty hlt)
        have hm' := size_L (t.getD i ByteArray.empty)
        have ee : rdOf ByteArray.empty t (i : Int) = t.getD i ByteArray.empty := rfl
        have go := ih (i + 1) (acc ++ (32 :: L (t.getD i ByteArray.empty))) (by omega) (by rw [List.length_append, List.length_cons]; omega)
        rw [drop_getD t i ByteArray.empty hlt, List.map_cons, jt_cons]
        have e : acc ++ ([32] ++ (L (t.getD i ByteArray.empty) ++ Lib.joinTail [32] ((t.drop (i + 1)).map L))) = (acc ++ (32 :: L (t.getD i ByteArray.empty))) ++ Lib.joinTail [32] ((t.drop (i + 1)).map L) := by simp
        rw [e]
        refine Ev.step (fun k => ?_) go
        rw [spec_GraphText.l0, if_pos (by omega), if_pos (by rw [size_S]; omega), if_pos (by omega), ee, if_pos (by rw [size2, size_S]; omega), put1, wa1 i (by omega)]
    exact key t.length 0 [116, 111, 112] (by omega) (by simp)
  · rw [if_neg h]
    exact ev_neg h (Ev.now _)
end Go.Proofs.YteldcmniknocpaaGreatDoor.U

end
section
namespace Go.Proofs.YteldcmniknocpaaGreatDoor.U
open Go Go.RowKit Go.Proofs.YteldcmniknocpaaGreatDoorW.PrintWords Go.Proofs.YteldcmniknocpaaGreatDoor.G
set_option linter.unusedVariables false
set_option maxRecDepth 100000
theorem eqStringS_ok (l : List ByteArray) (h : l.length ≤ maxLen) : Ev (fun k => laws_eqStringS.f k l l) true := by
  unfold laws_eqStringS.f
  refine ev_pos rfl ?_
  refine eq_loop l ByteArray.empty (fun k i => laws_eqStringS.l0 k l l i) (fun _ x => some true) h ?_ ?_ (fun _ _ => Ev.now _)
  · intro k i hi
    show laws_eqStringS.l0 (k + 1) l l (i : Int) = _
    rw [laws_eqStringS.l0, if_pos (by omega), if_pos (by omega), if_pos (by omega), if_pos rfl]
    rfl
  · intro k
    show laws_eqStringS.l0 (k + 1) l l (l.length : Int) = _
    rw [laws_eqStringS.l0, if_neg (by omega)]
theorem eqSum_ok (f0 : ByteArray)  (f1 : ByteArray)  : Ev (fun k => laws_eqSum.f f0 f1 f0 f1) true := by
  unfold laws_eqSum.f
  refine ev_pos rfl ?_
  refine ev_pos rfl ?_
  exact Ev.now _
theorem eqSumS_ok (l : List S51) (h : l.length ≤ maxLen) : Ev (fun k => laws_eqSumS.f k l l) true := by
  unfold laws_eqSumS.f
  refine ev_pos rfl ?_
  refine eq_loop l z51 (fun k i => laws_eqSumS.l0 k l l i) (fun k x => laws_eqSum.f x.f0 x.f1 x.f0 x.f1) h ?_ ?_ (fun x hx => eqSum_ok x.f0 x.f1)
  · intro k i hi
    show laws_eqSumS.l0 (k + 1) l l (i : Int) = _
    rw [laws_eqSumS.l0, if_pos (by omega), if_pos (by omega), if_pos (by omega)]
    rfl
  · intro k
    show laws_eqSumS.l0 (k + 1) l l (l.length : Int) = _
    rw [laws_eqSumS.l0, if_neg (by omega)]
theorem eqPack_ok (f0 : ByteArray)  (f1 : ByteArray)  (f2 : ByteArray)  (f3 : List S51) (h3 : f3.length ≤ maxLen) (f4 : Bool)  (f5 : List ByteArray) (h5 : f5.length ≤ maxLen) : Ev (fun k => laws_eqPack.f k f0 f1 f2 f3 f4 f5 f0 f1 f2 f3 f4 f5) true := by
  unfold laws_eqPack.f
  refine ev_pos rfl ?_
  refine ev_pos rfl ?_
  refine ev_pos rfl ?_
  refine Ev.bind (eqSumS_ok f3 h3) ?_
  refine ev_pos rfl ?_
  refine ev_neg (by simp) ?_
  refine Ev.bind (eqStringS_ok f5 h5) ?_
  refine ev_pos rfl ?_
  exact Ev.now _
theorem eqPackS_ok (l : List S44) (h : (l.length ≤ maxLen ∧ ∀ x_ ∈ l, (x_.f3.length ≤ maxLen ∧ x_.f5.length ≤ maxLen))) : Ev (fun k => laws_eqPackS.f k l l) true := by
  unfold laws_eqPackS.f
  refine ev_pos rfl ?_
  refine eq_loop l z44 (fun k i => laws_eqPackS.l0 k l l i) (fun k x => laws_eqPack.f k x.f0 x.f1 x.f2 x.f3 x.f4 x.f5 x.f0 x.f1 x.f2 x.f3 x.f4 x.f5) h.1 ?_ ?_ (fun x hx => eqPack_ok x.f0 x.f1 x.f2 x.f3 (h.2 x hx).1 x.f4 x.f5 (h.2 x hx).2)
  · intro k i hi
    show laws_eqPackS.l0 (k + 1) l l (i : Int) = _
    rw [laws_eqPackS.l0, if_pos (by omega), if_pos (by omega), if_pos (by omega)]
    rfl
  · intro k
    show laws_eqPackS.l0 (k + 1) l l (l.length : Int) = _
    rw [laws_eqPackS.l0, if_neg (by omega)]
theorem eqGraph_ok (f0 : List ByteArray) (h0 : f0.length ≤ maxLen) (f1 : List S44) (h1 : (f1.length ≤ maxLen ∧ ∀ x_ ∈ f1, (x_.f3.length ≤ maxLen ∧ x_.f5.length ≤ maxLen))) : Ev (fun k => laws_eqGraph.f k f0 f1 f0 f1) true := by
  unfold laws_eqGraph.f
  refine Ev.bind (eqStringS_ok f0 h0) ?_
  refine ev_pos rfl ?_
  refine Ev.bind (eqPackS_ok f1 h1) ?_
  refine ev_pos rfl ?_
  exact Ev.now _
end Go.Proofs.YteldcmniknocpaaGreatDoor.U

end
section
namespace Go.Proofs.YteldcmniknocpaaGreatDoor.Pure
open Go Go.RowKit Go.Proofs.YteldcmniknocpaaGreatDoorW.PrintWords Go.Proofs.YteldcmniknocpaaGreatDoor.G Go.Proofs.YteldcmniknocpaaGreatDoor.U
theorem FnExactGraphText : laws_FnExactGraphText.Pure := by
  intro t p ht hp
  refine Ev.rounds (r := true) ?_
  unfold laws_FnExactGraphText.f
  refine law_sz (szGraph_ok t ht p hp) fun hw => ?_
  have tt := toGraph_ok t ht p hp hw
  have g1 := small_graph hw
  have e1 := eqGraph_ok t ht.1 (p.map t_Pack) (small_lists g1.2.2 g1.2.1)
  have r1 := spec_GraphText_ev t (p.map t_Pack) g1.2.1 g1.2.2 g1.1.1 g1.1.2
  have r2 := impl_GraphText_ev t (p.map t_Pack) g1.2.1 g1.2.2 g1.1.1 g1.1.2
  exact Ev.bind tt (Ev.bind r1 (Ev.bind tt (Ev.bind r2 (ev_pos rfl (Ev.bind tt (Ev.bind e1 (ev_pos rfl (Ev.now _))))))))
end Go.Proofs.YteldcmniknocpaaGreatDoor.Pure

end
section
namespace Go.Proofs.YteldcmniknocpaaGreatDoor.fnExactGraphText
open Go.ChangeShapes Go.WideShapes Go.ChangeAt Go.RowKit Go.Proofs.YteldcmniknocpaaGreatDoor Go.Proofs.YteldcmniknocpaaGreatDoor.G Go.Proofs.YteldcmniknocpaaGreatDoorW.PrintWords
open Go.ChangeMaps (open_string shut_string)
set_option linter.unusedVariables false
set_option linter.unusedSimpArgs false
theorem own : ownKnob Tryz.prog.godebug = none := by kernel_rfl
theorem laidOut : laidOutB Tryz.prog = true := by kernel_rfl
theorem opens124 : Op.Opens Tryz.prog 124 k124 (fun x_ => (x_.f0.size ≤ maxLen ∧ x_.f1.size ≤ maxLen)) := Op.opens_struct (g := (fun x : S124 => (x.f0, x.f1))) (by kernel_rfl) Tryz.underlying124 (fun a => ⟨⟨a.1, a.2⟩, rfl⟩) (Op.opensF_cons rfl (Op.opens_string (by kernel_rfl) Tryz.underlying9) (Op.opensF_one rfl (Op.opens_string (by kernel_rfl) Tryz.underlying9)))
theorem opens66 : Op.Opens Tryz.prog 66 k66 (fun x_ => (x_.f0.size ≤ maxLen ∧ (x_.f1.size ≤ maxLen ∧ (x_.f2.size ≤ maxLen ∧ ((x_.f3.length ≤ maxLen ∧ ∀ xx_ ∈ x_.f3, (xx_.f0.size ≤ maxLen ∧ xx_.f1.size ≤ maxLen)) ∧ (True ∧ (x_.f5.length ≤ maxLen ∧ ∀ xx_ ∈ x_.f5, xx_.size ≤ maxLen))))))) := Op.opens_struct (g := (fun x : S66 => (x.f0, x.f1, x.f2, x.f3, x.f4, x.f5))) (by kernel_rfl) Tryz.underlying66 (fun a => ⟨⟨a.1, a.2.1, a.2.2.1, a.2.2.2.1, a.2.2.2.2.1, a.2.2.2.2.2⟩, rfl⟩) (Op.opensF_cons rfl (Op.opens_string (by kernel_rfl) Tryz.underlying9) (Op.opensF_cons rfl (Op.opens_string (by kernel_rfl) Tryz.underlying9) (Op.opensF_cons rfl (Op.opens_string (by kernel_rfl) Tryz.underlying9) (Op.opensF_cons rfl (Op.opens_slice (by kernel_rfl) Tryz.underlying64 opens124) (Op.opensF_cons rfl (Op.opens_bool (by kernel_rfl) Tryz.underlying4) (Op.opensF_one rfl (Op.opens_slice (by kernel_rfl) Tryz.underlying22 (Op.opens_string (by kernel_rfl) Tryz.underlying9))))))))
theorem opensArg0 : Op.Opens Tryz.prog 25 (Kd.iso (Kd.pair (Kd.slice 9 Kd.string) (Kd.slice 66 k66)) id) (fun y_ : List ByteArray × List (S66) => ((y_.1.length ≤ maxLen ∧ ∀ x_ ∈ y_.1, x_.size ≤ maxLen) ∧ (y_.2.length ≤ maxLen ∧ ∀ x_ ∈ y_.2, (x_.f0.size ≤ maxLen ∧ (x_.f1.size ≤ maxLen ∧ (x_.f2.size ≤ maxLen ∧ ((x_.f3.length ≤ maxLen ∧ ∀ xx_ ∈ x_.f3, (xx_.f0.size ≤ maxLen ∧ xx_.f1.size ≤ maxLen)) ∧ (True ∧ (x_.f5.length ≤ maxLen ∧ ∀ xx_ ∈ x_.f5, xx_.size ≤ maxLen))))))))) := Op.opens_struct (g := id) (by kernel_rfl) Tryz.underlying25 (fun a => ⟨a, rfl⟩) (Op.opensF_cons rfl (Op.opens_slice (by kernel_rfl) Tryz.underlying22 (Op.opens_string (by kernel_rfl) Tryz.underlying9)) (Op.opensF_one rfl (Op.opens_slice (by kernel_rfl) Tryz.underlying23 opens66)))
set_option maxRecDepth 100000 in
theorem contract (H : Type) (enc : TypeId × Value → H) (W : World) (base : Nat) (args : Array Value) (ds gs : List (DataW H)) (before : List MemPlace)
    (hval : ∀ (j : Nat) t v, Tryz.f4.params[j]? = some t → args[j]? = some v → Value.okWide Tryz.prog W .any base t v)
    (hW : DataW.Whole enc Tryz.prog Tryz.f4.params.toList Rows.fnExactGraphTextSpec.vars false W args.toList ds gs before) (hFE : Glob FactE W) (hFM : Glob FactM W) (hFT : Glob FactT W) :
    Calls Tryz.prog 4 args W fun e W' => ∃ v, e = .returned v ∧ Rows.fnExactGraphTextSpec.post enc Tryz.prog Tryz.f4 false true false false W args v W' := by
  have hW' := hW
  obtain ⟨p, q, hA0, hV, rfl, hfz, hnd⟩ := hW
  have hA : DataW.TrodAll enc Tryz.prog W 0 (fun _ => true) true Tryz.f4.params.toList args.toList ds p := hA0
  rw [Tryz.params4] at hA hval
  obtain ⟨v0, vs0, d0, ds0, p0, q0, hargs, rfl, rfl, h0, r0⟩ := trodAll_cons hA
  obtain ⟨rfl, rfl, rfl⟩ := trodAll_nil r0
  obtain rfl : args = #[v0] := by cases args; simp_all
  obtain ⟨rfl, rfl⟩ := trodVars_none hV
  obtain ⟨cs0, rfl, _⟩ := okWide_struct Tryz.underlying25 (hval 0 25 v0 rfl rfl)
  have k0 := h0
  have lt0 : ∀ x ∈ p0, x.block < W.heap.size := by obtain ⟨m, hm⟩ := k0; exact DataW.trod_lt m _ _ _ hm
  obtain ⟨⟨l0_0, l0_1⟩, hK0, ⟨z0_0, z0_1⟩⟩ := Op.arg_struct opensArg0 h0
  have hK0_ : ((Kd.pair (Kd.slice 9 Kd.string) (Kd.slice 66 k66))).K W (l0_0, l0_1) cs0.toList := hK0
  obtain ⟨u0_0, w0_0, e0_0, kk0_0, m0_0⟩ := hK0_
  obtain ⟨A0_0, c0_0, rfl, hc0_0, hr0_0⟩ := kk0_0
  obtain ⟨A0_1, c0_1, el0_1, hc0_1, hr0_1⟩ := m0_0
  obtain rfl : cs0 = #[.slice A0_0 l0_0.length c0_0, .slice A0_1 l0_1.length c0_1] := by
    apply Array.toList_inj.1
    rw [e0_0, el0_1]
    first | done | rfl
  clear hA0
  obtain ⟨k, h⟩ := Pure.FnExactGraphText l0_0 l0_1 z0_0 z0_1
  refine (laws_FnExactGraphText.calls k A0_0 c0_0 l0_0 A0_1 c0_1 l0_1 true W hr0_0 hc0_0 hr0_1 hc0_1 hFE hFM hFT rfl h).mono fun e W' ⟨he, bel0⟩ => ?_
  have bel : Below W.heap.size W W' := bel0
  subst he
  exact ⟨_, rfl, _, _, _, [], _, [], hW', trodAll_mk1 (shut_bool Tryz.underlying4 _), (trodAll_cons_mk (Below.trod laidOut (by kernel_rfl) (of_decide_eq_true (by kernel_rfl)) k0 bel lt0) trodAll_mk0), rfl, bel.frame _, fun h => by cases h⟩
theorem laid_met (os : Os) : laidMet Tryz.prog Rows.fnExactGraphTextRow.laid ((Laid.world os).forCall (fun _ _ => 0) ⟨#[], #[.agg #[.slice none 0 0, .slice none 0 0]], []⟩).memory :=
  laidMet_of_run' Laid.fuel (by kernel_rfl) (by kernel_rfl)
theorem reads (os : Os) {H : Type} (enc : TypeId × Value → H) : ∃ places, DataW.whole enc Tryz.prog ((Laid.world os).forCall (fun _ _ => 0) ⟨#[], #[.agg #[.slice none 0 0, .slice none 0 0]], []⟩).memory Tryz.f4.params.toList Rows.fnExactGraphTextSpec.vars false (#[.agg #[.slice none 0 0, .slice none 0 0]] : Array Value).toList 8 = some ([.agg [.nil, .nil]], [], places) :=
  ⟨[], by kernel_rfl⟩
set_option maxRecDepth 100000 in
theorem lifted (os : Os) (started : os.Started) (H : Type) (enc : TypeId × Value → H) (F : Stop.Interp) :
    ReturnsInHanded {} Tryz.checked os 4 .any ((OpenSpec.ofChange Rows.fnExactGraphTextSpec).preRow enc Tryz.prog Tryz.f4 Rows.fnExactGraphTextRow.domain false Rows.fnExactGraphTextRow.laid) (((OpenSpec.ofChange Rows.fnExactGraphTextSpec).at F).post enc Tryz.prog Tryz.f4 false true false false) := by
  obtain ⟨places, hx⟩ := reads os enc
  refine returnsInHanded_of_row (C := Tryz.checked) (s := OpenSpec.ofChange Rows.fnExactGraphTextSpec) own started (by kernel_rfl) Tryz.func4
    (witness_row_atRef (enc := enc) (C := Tryz.checked) false (Laid.world os) #[.agg #[.slice none 0 0, .slice none 0 0]] rfl (Laid.vars os _) (Laid.heap os _) (by kernel_rfl)
      (OpenSpec.preRow_of_cond 8 hx (by kernel_rfl) (fun k hk => by cases hk) (by kernel_rfl) (laid_met os))) ?_
  intro W base args ds gs before hval hW _ _ _ hL hS _
  exact contract H enc W base args ds gs before hval hW (FactE_of hS hL (fun h => h) (by repeat (first | exact List.Mem.head _ | apply List.Mem.tail)) (by repeat (first | exact List.Mem.head _ | apply List.Mem.tail))) (FactM_of hS hL) (FactT_of hS hL (fun h => h) (by repeat (first | exact List.Mem.head _ | apply List.Mem.tail)))
theorem j10 : (Rows.fnExactGraphTextRow.inPlace == Tryz.prog.inPlace 4) = true := by kernel_rfl
theorem j11 : (Rows.fnExactGraphTextRow.unfollowed == Tryz.prog.unfollowed 4) = true := by kernel_rfl
theorem j12 : (Rows.fnExactGraphTextRow.recurses == Tryz.prog.recurses 4) = true := by kernel_rfl
theorem j13 : (Rows.fnExactGraphTextRow.named == Tryz.prog.varsNamed 4) = true := by kernel_rfl
set_option maxRecDepth 100000 in
theorem closed : joinedFacts Tryz.prog 4 Tryz.f4 (OpenSpec.ofChange Rows.fnExactGraphTextSpec).bare Rows.fnExactGraphTextRow = true :=
  (Facts.and_mk (Facts.and_mk (Facts.and_mk (Facts.and_mk (Facts.and_mk (Facts.and_mk (Facts.and_mk (Facts.and_mk (Facts.and_mk (Facts.and_mk (Facts.and_mk (Facts.and_mk (Facts.and_mk (Facts.and_mk (Facts.and_mk (Facts.and_mk (Facts.and_mk (Facts.and_mk (Facts.and_mk (Facts.and_mk (Facts.and_mk (Facts.and_mk (Facts.and_mk (Facts.and_mk (Facts.and_mk (Facts.and_mk (Facts.and_mk (Facts.and_mk (Facts.and_mk (Facts.and_mk (Facts.and_mk (by kernel_rfl) Facts.laidOut) Facts.mapsRowed) (by kernel_rfl)) (by kernel_rfl)) (by kernel_rfl)) (by kernel_rfl)) (by kernel_rfl)) (by kernel_rfl)) j10) j11) j12) j13) (by kernel_rfl)) (by kernel_rfl)) (by kernel_rfl)) (by kernel_rfl)) (by kernel_rfl)) (by kernel_rfl)) (by kernel_rfl)) (by kernel_rfl)) (by kernel_rfl)) (Facts.plainKeys _ rfl)) (by kernel_rfl)) Facts.heard) Facts.mayEnter) (Facts.lifts _ rfl)) (Facts.make _ rfl)) (by kernel_rfl)) (by kernel_rfl)) (by kernel_rfl)) (by kernel_rfl))
theorem goes : false = Rows.fnExactGraphTextRow.goesBy Tryz.prog := by kernel_rfl
theorem said : Rows.FnExactGraphTextSaid :=
  OpenClaim.holds_of_cond 4 Tryz.f4 rfl rfl rfl rfl rfl rfl rfl ⟨rfl, rfl, rfl, rfl, rfl⟩ rfl rfl rfl rfl rfl (by kernel_rfl) Tryz.func4 closed
    (of_decide_eq_true (by kernel_rfl)) (by unfold Func.isWrapper; first | (rw [if_pos (by decide +kernel)]; kernel_rfl) | (rw [if_neg (by decide +kernel)]; exact ⟨rfl, rfl⟩))
    (fun os started H enc _ F => by rw [OpenClaim.pre_eq_preRow]; exact lifted os started H enc F)
theorem plain (f : FuncId) (fn : Func) (hf : Tryz.pinned.checked.prog.funcNamed "loop.example/g00445/laws.FnExactGraphText" = some f) (hfn : Tryz.pinned.checked.prog.funcs[f]? = some fn) :
    true = Tryz.pinned.checked.prog.looks [] ∧ ∀ (j : Nat) t, fn.params[j]? = some t → Tryz.pinned.checked.prog.wantsStandIn t = false := by
  obtain rfl : f = 4 := Option.some.inj ((show Tryz.prog.funcNamed "loop.example/g00445/laws.FnExactGraphText" = some 4 by kernel_rfl).symm.trans hf) |>.symm
  obtain rfl : fn = Tryz.f4 := (Option.some.inj (Tryz.func4.symm.trans hfn)).symm
  refine ⟨Facts.looks, fun j t ht => ?_⟩
  rw [Tryz.params4] at ht
  have hm := Array.mem_of_getElem? ht
  have hall : (#[25] : Array TypeId).all (fun t => Tryz.prog.wantsStandIn t == false) = true := by kernel_rfl
  show Tryz.prog.wantsStandIn t = false
  have h1 := Array.all_eq_true'.1 hall t hm
  exact beq_iff_eq.1 h1
theorem proved : Rows.FnExactGraphTextCardSaid :=
  Claim7.holds_tied_plain_at .later [] _ _ _ _ said (fun _ h => by cases h) (by kernel_rfl) (fun _ h => by cases h) fnExactGraphText_row_tie rfl ⟨rfl, rfl⟩ Facts.main rfl plain goes
end Go.Proofs.YteldcmniknocpaaGreatDoor.fnExactGraphText
namespace Go.Proofs.YteldcmniknocpaaGreatDoor
theorem fnExactGraphText_holds : Rows.FnExactGraphTextCardSaid := fnExactGraphText.proved
end Go.Proofs.YteldcmniknocpaaGreatDoor

end
