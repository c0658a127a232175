/- A part of the proof that the law FnSort answers true at every input that its row speaks of. Conditions: the row's own. -/
import Derived.Test.YtcfeihimmboghaaGreatDoorMFnSort0
import Derived.Test.YtcfeihimmboghaaGreatDoorKFnSort0
import Derived.Test.YtcfeihimmboghaaGreatDoorKFnSort1
import Derived.Lib.Join
import Derived.Lib.SplitLaws
import Derived.Lib.Bytealg
import Derived.Lib.IndexMore
import Derived.Lib.TrimByte
import Derived.Sort.Statements
import Derived.Shelf.SlSortCmp.Insertion
import Derived.Lib.SlicesCompact
section
namespace Go.Proofs.YtcfeihimmboghaaGreatDoor.U
open Go Go.RowKit Go.Proofs.YtcfeihimmboghaaGreatDoorW.PrintWords Go.Proofs.YtcfeihimmboghaaGreatDoor.G
set_option linter.unusedVariables false
set_option linter.unusedSimpArgs false
def vtail (l : List ByteArray) : B := if l = [] then [] else 45 :: Lib.join (l.map L) [46]
def vcore (a b c : Int) : B := Lib.itoa a ++ (46 :: (Lib.itoa b ++ (46 :: Lib.itoa c)))
def vtext (a b c : Int) (l : List ByteArray) : B := if verOk a b c l = true then vcore a b c ++ vtail l else []
theorem num9_is {n : Int} (h : num9 n = true) : 0 ≤ n ∧ n ≤ 999999999 := of_decide_eq_true h
theorem verOk_is {a b c : Int} {l : List ByteArray} (h : verOk a b c l = true) : (0 ≤ a ∧ a ≤ 999999999) ∧ (0 ≤ b ∧ b ≤ 999999999) ∧ (0 ≤ c ∧ c ≤ 999999999) ∧ l.length ≤ 5 ∧ ∀ x ∈ l, preOk (L x) = true := by
  unfold verOk at h
  simp only [Bool.and_eq_true, List.all_eq_true, decide_eq_true_eq] at h
  exact ⟨num9_is h.1.1.1, num9_is h.1.1.2, num9_is h.1.2, h.2.2, h.2.1⟩
theorem preOk_len {l : B} (h : preOk l = true) : 1 ≤ l.length ∧ l.length ≤ 20 := by
  unfold preOk at h
  simp only [Bool.and_eq_true, decide_eq_true_eq] at h
  exact h.2.1
theorem itoa9 {n : Int} (h : 0 ≤ n ∧ n ≤ 999999999) : (Lib.itoa n).length ≤ 9 := by
  have e : n = ((n.toNat : Nat) : Int) := by omega
  rw [e, itoa_nat]
  exact dec_len_le 8 _ (by rw [show 8 + 1 = 9 from rfl, p9]; omega)
theorem joinTail_len : ∀ (r : List ByteArray), (∀ x ∈ r, (L x).length ≤ 20) → (Lib.joinTail [46] (r.map L)).length ≤ 21 * r.length
  | [], _ => by simp [Lib.joinTail]
  | x :: r, h => by
    have := joinTail_len r fun y hy => h y (by simp [hy])
    have hx := h x (by simp)
    unfold Lib.joinTail at *
    rw [List.map_cons, List.map_cons, List.flatten_cons, List.length_append, List.length_append, List.length_cons]
    simp at *; omega
theorem vtail_len {l : List ByteArray} (h5 : l.length ≤ 5) (h : ∀ x ∈ l, (L x).length ≤ 20) : (vtail l).length ≤ 106 := by
  unfold vtail
  cases l with
  | nil => simp
  | cons x r =>
    rw [if_neg (by simp), List.map_cons, Lib.join_cons, List.length_cons, List.length_append]
    have := joinTail_len r fun y hy => h y (by simp [hy])
    have hx := h x (by simp)
    simp at h5; omega
theorem vcore_len {a b c : Int} (ha : 0 ≤ a ∧ a ≤ 999999999) (hb : 0 ≤ b ∧ b ≤ 999999999) (hc : 0 ≤ c ∧ c ≤ 999999999) : (vcore a b c).length ≤ 29 := by
  have := itoa9 ha; have := itoa9 hb; have := itoa9 hc
  unfold vcore; simp; omega
theorem vtext_len (a b c : Int) (l : List ByteArray) : (vtext a b c l).length ≤ 135 := by
  unfold vtext
  by_cases h : verOk a b c l = true
  · obtain ⟨ha, hb, hc, h5, hl⟩ := verOk_is h
    have := vcore_len ha hb hc
    have := vtail_len h5 fun x hx => (preOk_len (hl x hx)).2
    rw [if_pos h, List.length_append]; omega
  · rw [if_neg h]; simp
theorem core_S (a b c : Int) : (((S (Lib.itoa a) ++ (⟨#[46]⟩ : ByteArray)) ++ S (Lib.itoa b)) ++ (⟨#[46]⟩ : ByteArray)) ++ S (Lib.itoa c) = S (vcore a b c) := by
  apply L_inj
  rw [L_S]
  simp only [L_append, L_S]
  show ((Lib.itoa a ++ [46]) ++ Lib.itoa b ++ [46]) ++ Lib.itoa c = _
  unfold vcore; simp
theorem one_size (c : UInt8) : (⟨#[c]⟩ : ByteArray).size = 1 := rfl
theorem put_sep (acc : B) (c : UInt8) (x : ByteArray) : (S acc ++ (⟨#[c]⟩ : ByteArray)) ++ x = S (acc ++ (c :: L x)) := by
  apply L_inj; rw [L_S, L_append, L_append, L_S]
  show (acc ++ [c]) ++ L x = _
  simp
theorem spec_VersionText_l (a b c : Int) (l : List ByteArray) (h5 : l.length ≤ 5) (h20 : ∀ x ∈ l, (L x).length ≤ 20) : ∀ d i (acc : B), i + d = l.length → 1 ≤ i → acc.length ≤ 100 + 21 * i →
    Ev (fun k => spec_VersionText.l0 k (S acc) (i : Int) a b c l) (S (acc ++ Lib.joinTail [46] ((l.drop i).map L))) := by
  intro d
  induction d with
  | zero =>
    intro i acc hi h1 ha
    rw [List.drop_of_length_le (by omega)]
    refine Ev.step (f := fun k => some (S acc)) (fun k => by rw [spec_VersionText.l0, if_neg (by omega)]) (ev_use (Ev.now _) ?_)
    simp [Lib.joinTail]
  | succ d ih =>
    intro i acc hi h1 ha
    have hlt : i < l.length := by omega
    have hm := h20 _ (getD_mem l i ByteArray.empty hlt)
    have ee : rdOf ByteArray.empty l (i : Int) = l.getD i ByteArray.empty := rfl
    rw [drop_getD l i ByteArray.empty hlt, List.map_cons]
    have e2 : Lib.joinTail [46] (L (l.getD i ByteArray.empty) :: (l.drop (i + 1)).map L) = (46 :: L (l.getD i ByteArray.empty)) ++ Lib.joinTail [46] ((l.drop (i + 1)).map L) := by
      unfold Lib.joinTail; rw [List.map_cons, List.flatten_cons]; rfl
    rw [e2, ← List.append_assoc]
    refine Ev.step (fun k => ?_) (ih (i + 1) _ (by omega) (by omega) (by rw [List.length_append, List.length_cons]; omega))
    rw [spec_VersionText.l0, if_pos (by omega), if_neg (by omega), if_pos (by rw [size_S]; omega), if_pos (by omega), ee, if_pos (by rw [ByteArray.size_append, size_S, one_size, size_L]; omega), put_sep, wa1 i (by omega)]
theorem spec_VersionText_ev (a b c : Int) (l : List ByteArray) (hl : l.length ≤ 1125899906842624) (hs : ∀ x ∈ l, x.size ≤ 1099511627776) : Ev (fun k => spec_VersionText.f k a b c l) (S (vtext a b c l)) := by
  unfold spec_VersionText.f vtext
  refine Ev.bind (spec_VersionOk_ev a b c l hl hs) ?_
  by_cases h : verOk a b c l = true
  · obtain ⟨ha, hb, hc, h5, hall⟩ := verOk_is h
    have h20 : ∀ x ∈ l, (L x).length ≤ 20 := fun x hx => (preOk_len (hall x hx)).2
    have la := itoa9 ha; have lb := itoa9 hb; have lc := itoa9 hc
    rw [if_pos h]
    refine ev_pos h (Ev.bind (spec_DecText_ev a (by omega) (by omega)) (ev_pos (by rw [size_S]; omega) (Ev.bind (spec_DecText_ev b (by omega) (by omega)) ?_)))
    refine ev_pos (by rw [ByteArray.size_append, size_S, size_S, one_size]; omega) (ev_pos (by rw [ByteArray.size_append, ByteArray.size_append, size_S, size_S, one_size]; omega) (Ev.bind (spec_DecText_ev c (by omega) (by omega)) ?_))
    refine ev_pos (by simp only [ByteArray.size_append, size_S, one_size]; omega) ?_
    rw [core_S]
    have lv := vcore_len ha hb hc
    cases l with
    | nil =>
      refine Ev.step (f := fun k => some (S (vcore a b c))) (fun k => by rw [spec_VersionText.l0, if_neg (by simp)]) (ev_use (Ev.now _) ?_)
      simp [vtail]
    | cons x r =>
      have hx := h20 x (by simp)
      have e2 : vcore a b c ++ vtail (x :: r) = (vcore a b c ++ (45 :: L x)) ++ Lib.joinTail [46] (((x :: r).drop 1).map L) := by
        unfold vtail
        rw [if_neg (by simp), List.map_cons, Lib.join_cons, List.append_assoc]; rfl
      rw [e2]
      refine Ev.step (fun k => ?_) (spec_VersionText_l a b c (x :: r) h5 h20 r.length 1 _ (by simp; omega) (by omega) (by rw [List.length_append, List.length_cons]; omega))
      have ee : rdOf ByteArray.empty (x :: r) 0 = x := rfl
      rw [spec_VersionText.l0, if_pos (by simp), if_pos rfl, if_pos (by rw [size_S]; omega), if_pos (by omega), ee, if_pos (by rw [ByteArray.size_append, size_S, one_size, size_L]; omega), put_sep, show wrap64 (0 + 1) = ((1 : Nat) : Int) from wa1 0 (by omega)]
  · rw [if_neg h]
    exact ev_neg h (Ev.now _)
theorem join_some (l : List ByteArray) (h5 : l.length ≤ 5) (h20 : ∀ x ∈ l, (L x).length ≤ 20) : strings_Join.f l (⟨#[46]⟩ : ByteArray) = some (S (Lib.join (l.map L) [46])) := by
  unfold strings_Join.f
  have e : (l.map (·.data.toList)) = l.map L := rfl
  have e2 : (⟨#[46]⟩ : ByteArray).data.toList = [46] := rfl
  rw [e, e2, if_pos]
  · rfl
  · refine ⟨by omega, ?_⟩
    cases l with
    | nil => simp [Lib.join, List.intercalate]
    | cons x r =>
      rw [List.map_cons, Lib.join_cons, List.length_append]
      have := joinTail_len r fun y hy => h20 y (by simp [hy])
      have hx := h20 x (by simp)
      simp at h5; omega
theorem impl_VersionText_ev (a b c : Int) (l : List ByteArray) (hl : l.length ≤ 1125899906842624) (hs : ∀ x ∈ l, x.size ≤ 1099511627776) : Ev (fun k => impl_VersionText.f k a b c l) (S (vtext a b c l)) := by
  unfold impl_VersionText.f vtext
  refine Ev.bind (impl_VersionOk_ev a b c l hl hs) ?_
  by_cases h : verOk a b c l = true
  · obtain ⟨ha, hb, hc, h5, hall⟩ := verOk_is h
    have h20 : ∀ x ∈ l, (L x).length ≤ 20 := fun x hx => (preOk_len (hall x hx)).2
    have la := itoa9 ha; have lb := itoa9 hb; have lc := itoa9 hc
    refine ev_pos h ?_
    rw [if_pos h]
    refine ev_const (impl_DecText_eq a (by omega) (by omega)) ?_
    refine ev_pos (by rw [size_S]; omega) (ev_const (impl_DecText_eq b (by omega) (by omega)) ?_)
    refine ev_pos (by rw [ByteArray.size_append, size_S, size_S, one_size]; omega) (ev_pos (by rw [ByteArray.size_append, ByteArray.size_append, size_S, size_S, one_size]; omega) (ev_const (impl_DecText_eq c (by omega) (by omega)) ?_))
    refine ev_pos (by simp only [ByteArray.size_append, size_S, one_size]; omega) ?_
    rw [core_S]
    have lv := vcore_len ha hb hc
    cases l with
    | nil => exact ev_use (ev_neg (by simp) (Ev.now _)) (by simp [vtail])
    | cons x r =>
      have lt := vtail_len h5 h20
      have et : vtail (x :: r) = 45 :: Lib.join ((x :: r).map L) [46] := by unfold vtail; rw [if_neg (by simp)]
      rw [et, List.length_cons] at lt
      rw [et]
      refine ev_pos (by simp only [List.length_cons]; omega) ?_
      refine ev_const (join_some _ h5 h20) ?_
      refine ev_pos (by rw [size_S]; omega) ?_
      refine ev_pos (by simp only [ByteArray.size_append, size_S, one_size]; omega) ?_
      refine ev_use (Ev.now _) ?_
      apply L_inj
      rw [L_append, L_append, L_S, L_S, L_S]; rfl
  · exact ev_use (ev_neg h (Ev.now _)) (by rw [if_neg h]; rfl)
end Go.Proofs.YtcfeihimmboghaaGreatDoor.U

end
section
namespace Go.Proofs.YtcfeihimmboghaaGreatDoor.U
open Go Go.RowKit Go.Proofs.YtcfeihimmboghaaGreatDoorW.PrintWords Go.Proofs.YtcfeihimmboghaaGreatDoor.G
set_option linter.unusedVariables false
def cutP (c : UInt8) : B → B → List B
  | p, [] => [p]
  | p, x :: l => if x = c then p :: cutP c [] l else cutP c (p ++ [x]) l
theorem cutP_len (c : UInt8) : ∀ l p, 1 ≤ (cutP c p l).length ∧ (cutP c p l).length ≤ l.length + 1 := by
  intro l
  induction l with
  | nil => intro p; simp [cutP]
  | cons x l ih =>
    intro p
    unfold cutP
    by_cases h : x = c
    · rw [if_pos h]; have := ih []; simp only [List.length_cons]; omega
    · rw [if_neg h]; have := ih (p ++ [x]); simp only [List.length_cons]; omega
theorem spec_l01Cut_l (s : ByteArray) (c : UInt8) (hs : s.size ≤ 1048576) : ∀ d j (a : Nat) (x5 : List ByteArray), j + d = (L s).length → a ≤ j → x5.length ≤ j →
    Ev (fun k => spec_l01Cut.l0 k s (c.toNat : Int) x5 (a : Int) (j : Int)) (x5 ++ (cutP c (((L s).take j).drop a) ((L s).drop j)).map S) := by
  rw [size_L] at hs
  intro d
  induction d with
  | zero =>
    intro j a x5 hj ha h5
    have e : j = (L s).length := by omega
    subst e
    rw [List.drop_length, List.take_length]
    refine Ev.step (f := fun _ => some (x5 ++ (cutP c ((L s).drop a) []).map S)) (fun k => ?_) (Ev.now _)
    have e1 : s.extract (((a : Nat) : Int)).toNat s.size = S ((L s).drop a) := by
      apply L_inj; rw [L_extract, L_S, Int.toNat_natCast, size_L, List.take_of_length_le (by rw [List.length_drop]; omega)]
    rw [spec_l01Cut.l0, if_neg (by rw [size_L]; omega), if_pos (by omega), if_pos (by rw [size_L]; omega), if_pos (by omega), e1]
    rfl
  | succ d ih =>
    intro j a x5 hj ha h5
    have h : j < (L s).length := by omega
    rw [drop_at (L s) j h]
    by_cases hc : at_ (L s) j = c
    · have e1 : s.extract (((a : Nat) : Int)).toNat ((j : Int)).toNat = S (((L s).take j).drop a) := by
        apply L_inj; rw [L_extract, L_S, Int.toNat_natCast, Int.toNat_natCast, List.drop_take]
      refine Ev.step (f := fun k => spec_l01Cut.l0 k s (c.toNat : Int) (x5 ++ [S (((L s).take j).drop a)]) ((j + 1 : Nat) : Int) ((j + 1 : Nat) : Int)) (fun k => ?_) ?_
      · rw [spec_l01Cut.l0, if_pos (by rw [size_L]; omega), if_pos (by omega), bt_nat, if_pos (by rw [hc]), if_pos (by omega), if_pos (by omega), if_pos (by rw [size_L]; omega), if_pos (by omega), e1, wa1 j (by omega)]
      · refine ev_use (ih (j + 1) (j + 1) _ (by omega) (Nat.le_refl _) (by rw [List.length_append]; simp; omega)) ?_
        have e2 : ((L s).take (j + 1)).drop (j + 1) = [] := List.drop_eq_nil_of_le (by rw [List.length_take]; omega)
        rw [e2]
        conv => rhs; unfold cutP
        rw [if_pos hc, List.map_cons, List.append_assoc]; rfl
    · have hb : ¬ ((at_ (L s) j).toNat : Int) = (c.toNat : Int) := fun e => hc (byte_inj e)
      refine Ev.step (f := fun k => spec_l01Cut.l0 k s (c.toNat : Int) x5 (a : Int) ((j + 1 : Nat) : Int)) (fun k => ?_) ?_
      · rw [spec_l01Cut.l0, if_pos (by rw [size_L]; omega), if_pos (by omega), bt_nat, if_neg hb, wa1 j (by omega)]
      · refine ev_use (ih (j + 1) a x5 (by omega) (by omega) (by omega)) ?_
        have e2 : ((L s).take (j + 1)).drop a = ((L s).take j).drop a ++ [at_ (L s) j] := by
          rw [take_at (L s) j h, List.drop_append_of_le_length (by rw [List.length_take]; omega)]
        rw [e2]
        conv => rhs; unfold cutP
        rw [if_neg hc]
theorem spec_l01Cut_ev (s : ByteArray) (c : UInt8) (hs : s.size ≤ 1048576) : Ev (fun k => spec_l01Cut.f k s (c.toNat : Int)) ((cutP c [] (L s)).map S) := by
  have := spec_l01Cut_l s c hs (L s).length 0 0 [] (by omega) (by omega) (by simp)
  unfold spec_l01Cut.f
  simpa using this
theorem index_free (c : UInt8) : ∀ (p l : B), c ∉ p → Lib.indexByte (p ++ c :: l) c = (p.length : Int) := by
  intro p
  induction p with
  | nil => intro l _; simp [Lib.indexByte]
  | cons x p ih =>
    intro l h
    simp only [List.mem_cons, not_or] at h
    have hx : ¬ x = c := fun e => h.1 e.symm
    have := ih l h.2
    rw [List.cons_append]
    unfold Lib.indexByte
    rw [if_neg (by simpa using hx), this, if_neg (by simp), List.length_cons]; omega
theorem splitK_cut (c : UInt8) : ∀ (l p : B), c ∉ p → Lib.splitK [c] 0 ((p ++ l).count c) (p ++ l) = cutP c p l := by
  intro l
  induction l with
  | nil =>
    intro p hp
    rw [List.append_nil, List.count_eq_zero_of_not_mem hp]; rfl
  | cons x l ih =>
    intro p hp
    unfold cutP
    by_cases h : x = c
    · subst h
      rw [if_pos rfl]
      have e : (p ++ x :: l).count x = l.count x + 1 := by rw [List.count_append, List.count_eq_zero_of_not_mem hp, List.count_cons_self]; omega
      have ei : Lib.index (p ++ x :: l) [x] = (p.length : Int) := by rw [Lib.index_one, index_free x p l hp]
      rw [e, Lib.splitK, if_neg (by rw [ei]; simp), ei, Int.toNat_natCast, List.take_left']
      · have ed : (p ++ x :: l).drop (p.length + [x].length) = l := by rw [List.drop_append]; simp
        rw [ed]; congr 1
        exact ih [] (by simp)
      · simp
    · rw [if_neg h]
      have := ih (p ++ [x]) (by simp only [List.mem_append, List.mem_singleton, not_or]; exact ⟨hp, fun e => h e.symm⟩)
      rw [List.append_assoc] at this; exact this
theorem split_one (s : ByteArray) (c : UInt8) (hs : s.size ≤ 1048576) : strings_Split.f s (S [c]) = some ((cutP c [] (L s)).map S) := by
  unfold strings_Split.f
  rw [if_pos ⟨by omega, by simp⟩]
  congr 1
  have e1 : (S [c]).data.toList = [c] := L_S [c]
  have e2 : Lib.countB s (S [c]) = (L s).count c := by
    show Lib.count s.data.toList (S [c]).data.toList = _
    rw [e1, Lib.count_one]; rfl
  have e3 := Lib.splitB_data (S [c]) 0 (Lib.countB s (S [c])) s
  rw [e1, e2] at e3
  have e4 := splitK_cut c (L s) [] (by simp)
  rw [List.nil_append] at e4
  rw [e2]
  have e5 : (Lib.splitB (S [c]) 0 ((L s).count c) s).map L = cutP c [] (L s) := e3.trans e4
  rw [← e5, List.map_map]
  have : (S ∘ L) = (id : ByteArray → ByteArray) := by funext x; exact S_L x
  rw [this, List.map_id]
end Go.Proofs.YtcfeihimmboghaaGreatDoor.U

end
section
namespace Go.Proofs.YtcfeihimmboghaaGreatDoor.U
open Go Go.RowKit Go.Proofs.YtcfeihimmboghaaGreatDoorW.PrintWords Go.Proofs.YtcfeihimmboghaaGreatDoor.G
set_option linter.unusedVariables false
set_option linter.unusedSimpArgs false
def idx (l : B) (c : UInt8) : Int := Lib.indexByte l c
theorem idx_nil (c : UInt8) : idx [] c = -1 := rfl
theorem idx_cons (b : UInt8) (l : B) (c : UInt8) : idx (b :: l) c = if b = c then 0 else if idx l c = -1 then -1 else idx l c + 1 := by
  show Lib.indexByte (b :: l) c = _
  rw [Lib.indexByte]
  by_cases h : b = c
  · simp [h]
  · simp [h]; rfl
theorem idx_ge (l : B) (c : UInt8) : -1 ≤ idx l c := Lib.indexByte_ge l c
theorem idx_lt (l : B) (c : UInt8) : idx l c < l.length := by
  induction l with
  | nil => rw [idx_nil]; simp
  | cons b l ih =>
    rw [idx_cons, List.length_cons]
    split
    · omega
    · split <;> omega
def idxFrom (l : B) (c : UInt8) (i : Nat) : Int := if idx (l.drop i) c = -1 then -1 else (i : Int) + idx (l.drop i) c
theorem idxFrom_zero (l : B) (c : UInt8) : idxFrom l c 0 = idx l c := by
  unfold idxFrom; rw [List.drop_zero]; split
  · rename_i h; rw [h]
  · simp
theorem spec_l01At_ev (s : ByteArray) (c : UInt8) (hs : s.size ≤ 1099511627776) : Ev (fun k => spec_l01At.f k s (c.toNat : Int)) (idx (L s) c) := by
  rw [← idxFrom_zero]
  refine loop_up (fun k i (_ : Unit) => spec_l01At.l0 k s (c.toNat : Int) i) (L s).length (fun _ _ => True) (fun i _ => idxFrom (L s) c i) ?_ ?_ 0 () (by omega) trivial
  · intro st _
    refine Ev.step (f := fun k => some (-1)) (fun k => by rw [spec_l01At.l0, if_neg (by rw [size_L]; omega)]) ?_
    refine ev_use (Ev.now _) ?_
    unfold idxFrom; rw [List.drop_length, idx_nil, if_pos rfl]
  · intro i st hi _ ih
    have hz : (i : Int) < (s.size : Int) := by rw [size_L]; omega
    by_cases h : at_ (L s) i = c
    · refine Ev.step (f := fun k => some (i : Int)) (fun k => ?_) (ev_use (Ev.now _) ?_)
      · rw [spec_l01At.l0, if_pos hz, if_pos (by omega), bt_nat, h, if_pos rfl]
      · unfold idxFrom; rw [drop_at _ _ hi, idx_cons, if_pos h]; simp
    · refine Ev.step (f := fun k => spec_l01At.l0 k s (c.toNat : Int) ((i + 1 : Nat) : Int)) (fun k => ?_) (ev_use (ih () trivial) ?_)
      · rw [spec_l01At.l0, if_pos hz, if_pos (by omega), bt_nat, if_neg (fun e => h (byte_inj e)), inc i (by rw [← size_L] at hi; omega)]
      · unfold idxFrom; rw [drop_at _ _ hi, idx_cons, if_neg h]
        have := idx_ge ((L s).drop (i + 1)) c
        split
        · rfl
        · rw [if_neg (by omega)]; omega
theorem cutP_mem (c : UInt8) : ∀ (l p x : B), x ∈ cutP c p l → x.length ≤ p.length + l.length := by
  intro l
  induction l with
  | nil => intro p x h; simp only [cutP, List.mem_singleton] at h; subst h; simp
  | cons y l ih =>
    intro p x h
    unfold cutP at h
    by_cases hy : y = c
    · rw [if_pos hy, List.mem_cons] at h
      rcases h with rfl | h
      · omega
      · have := ih [] x h; simp at *; omega
    · rw [if_neg hy] at h
      have := ih _ x h; simp at *; omega
def vhead (l : B) : B := if 0 ≤ idx l 45 then l.take (idx l 45).toNat else l
def vpre (l : B) : List ByteArray := if 0 ≤ idx l 45 then (cutP 46 [] (l.drop ((idx l 45).toNat + 1))).map S else []
def vpart (l : B) (i : Nat) : Int := rdec ((cutP 46 [] (vhead l)).getD i [])
def zeroV : Int × Int × Int × List ByteArray × Bool := (0, 0, 0, [], false)
def readVer (l : B) : Int × Int × Int × List ByteArray × Bool :=
  if (cutP 46 [] (vhead l)).length = 3 ∧ vtext (vpart l 0) (vpart l 1) (vpart l 2) (vpre l) = l then (vpart l 0, vpart l 1, vpart l 2, vpre l, true) else zeroV
theorem vhead_len (l : B) : (vhead l).length ≤ l.length := by
  unfold vhead; split
  · rw [List.length_take]; omega
  · omega
theorem vpre_len (l : B) : (vpre l).length ≤ l.length + 1 := by
  unfold vpre; split
  · rw [List.length_map]; have := (cutP_len 46 (l.drop ((idx l 45).toNat + 1)) []).2; rw [List.length_drop] at this; omega
  · simp
theorem vpre_mem (l : B) : ∀ x ∈ vpre l, x.size ≤ l.length := by
  intro x hx
  unfold vpre at hx
  split at hx
  · obtain ⟨y, hy, rfl⟩ := List.mem_map.1 hx
    have := cutP_mem 46 _ [] y hy
    rw [size_S]; simp at this; omega
  · simp at hx
theorem rd_cut (q : List B) (i : Nat) : rdOf ByteArray.empty (q.map S) (i : Int) = S (q.getD i []) := by
  show (q.map S).getD i ByteArray.empty = _
  rw [List.getD_eq_getElem?_getD, List.getD_eq_getElem?_getD, List.getElem?_map]
  cases q[i]? <;> rfl
theorem getD_len (q : List B) (i n : Nat) (h : ∀ x ∈ q, x.length ≤ n) : (q.getD i []).length ≤ n := by
  rw [List.getD_eq_getElem?_getD]
  cases e : q[i]? with
  | none => simp
  | some y => exact h y (List.mem_of_getElem? e)
theorem head_part (l : B) (i : Nat) : ((cutP 46 [] (vhead l)).getD i []).length ≤ l.length :=
  getD_len _ _ _ fun x hx => by have := cutP_mem 46 _ [] x hx; have := vhead_len l; simp at *; omega
theorem vhead_nil : vhead [] = [] := rfl
theorem three_ne {l : B} (h : (cutP 46 [] (vhead l)).length = 3) : l ≠ [] := by
  rintro rfl
  rw [vhead_nil] at h
  simp [cutP] at h
theorem spec_ReadVersion_j0 (s : ByteArray) (hs : s.size ≤ 1048576) : Ev (fun k => spec_ReadVersion.j0 k s (S (vhead (L s))) 0 0 0 (vpre (L s))) (readVer (L s)) := by
  have hsz := size_L s
  have hh := vhead_len (L s)
  have hc := spec_l01Cut_ev (S (vhead (L s))) 46 (by rw [size_S]; omega)
  rw [L_S] at hc
  have hp : ∀ i, (S ((cutP 46 [] (vhead (L s))).getD i [])).size ≤ 1099511627776 := fun i => by have := head_part (L s) i; rw [size_S]; omega
  have hd : ∀ i, Ev (fun k => spec_ReadDec.f k (S ((cutP 46 [] (vhead (L s))).getD i []))) (vpart (L s) i) := fun i => by
    have := spec_ReadDec_ev _ (hp i); rw [L_S] at this; exact this
  have r0 : rdOf ByteArray.empty ((cutP 46 [] (vhead (L s))).map S) 0 = S ((cutP 46 [] (vhead (L s))).getD 0 []) := rd_cut _ 0
  have r1 : rdOf ByteArray.empty ((cutP 46 [] (vhead (L s))).map S) 1 = S ((cutP 46 [] (vhead (L s))).getD 1 []) := rd_cut _ 1
  have r2 : rdOf ByteArray.empty ((cutP 46 [] (vhead (L s))).map S) 2 = S ((cutP 46 [] (vhead (L s))).getD 2 []) := rd_cut _ 2
  refine Ev.step (fun k => by rw [spec_ReadVersion.j0]) ?_
  refine Ev.bind hc ?_
  rw [List.length_map]
  unfold readVer
  by_cases h3 : (cutP 46 [] (vhead (L s))).length = 3
  · refine ev_pos (by omega) (ev_pos (by omega) ?_)
    rw [r0]
    refine Ev.bind (hd 0) (ev_pos (by omega) ?_)
    rw [r1]
    refine Ev.bind (hd 1) (ev_pos (by omega) ?_)
    rw [r2]
    refine Ev.bind (hd 2) ?_
    have hv := vpre_len (L s); have hm := vpre_mem (L s)
    refine Ev.bind (spec_VersionText_ev _ _ _ _ (by omega) fun x hx => by have := hm x hx; omega) ?_
    rw [toList_S, toList_L]
    by_cases hv : vtext (vpart (L s) 0) (vpart (L s) 1) (vpart (L s) 2) (vpre (L s)) = L s
    · exact ev_use (ev_pos hv (Ev.now _)) (if_pos ⟨h3, hv⟩).symm
    · exact ev_use (ev_neg hv (Ev.now _)) (if_neg fun h => hv h.2).symm
  · exact ev_use (ev_neg (by omega) (Ev.now _)) (if_neg fun h => h3 h.1).symm
theorem spec_ReadVersion_ev (s : ByteArray) (hs : s.size ≤ 1048576) : Ev (fun k => spec_ReadVersion.f k s) (readVer (L s)) := by
  have hsz := size_L s
  have h := spec_ReadVersion_j0 s hs
  have hl := idx_lt (L s) 45
  have hg := idx_ge (L s) 45
  unfold spec_ReadVersion.f
  refine Ev.bind (spec_l01At_ev s 45 (by omega)) ?_
  unfold vhead vpre at h
  by_cases h0 : 0 ≤ idx (L s) 45
  · rw [if_pos h0, if_pos h0] at h
    have hw : wrap64 (idx (L s) 45 + 1) = (((idx (L s) 45).toNat + 1 : Nat) : Int) := by rw [w64 (by omega) (by omega)]; omega
    rw [hw]
    refine ev_pos h0 (ev_pos h0 (ev_pos (by omega) (ev_pos (by omega) (ev_pos (by omega) ?_))))
    have e1 : s.extract ((((idx (L s) 45).toNat + 1 : Nat) : Int)).toNat s.size = S ((L s).drop ((idx (L s) 45).toNat + 1)) := by
      apply L_inj; rw [L_extract, L_S, Int.toNat_natCast, size_L, List.take_of_length_le (by rw [List.length_drop]; omega)]
    have e2 : s.extract 0 (idx (L s) 45).toNat = S ((L s).take (idx (L s) 45).toNat) := by
      apply L_inj; rw [L_extract, L_S, List.drop_zero, Nat.sub_zero]
    have hc := spec_l01Cut_ev (S ((L s).drop ((idx (L s) 45).toNat + 1))) 46 (by rw [size_S, List.length_drop]; omega)
    rw [L_S] at hc
    rw [e1, e2]
    exact Ev.bind hc h
  · rw [if_neg h0, if_neg h0, S_L] at h
    exact ev_neg h0 h
theorem impl_cut (s : ByteArray) (hs : s.size ≤ 1048576) : strings_Cut.f s (⟨#[45]⟩ : ByteArray) = some (S (vhead (L s)), (if 0 ≤ idx (L s) 45 then S ((L s).drop ((idx (L s) 45).toNat + 1)) else ByteArray.empty), decide (0 ≤ idx (L s) 45)) := by
  unfold strings_Cut.f
  rw [if_pos (by omega)]
  have e : (⟨#[45]⟩ : ByteArray).data.toList = [45] := rfl
  have e2 : s.data.toList = L s := rfl
  rw [e, e2]
  unfold Lib.cut
  rw [Lib.index_one]
  show some (_, _, _) = _
  unfold vhead
  by_cases h : 0 ≤ idx (L s) 45
  · have h' : 0 ≤ Lib.indexByte (L s) 45 := h
    rw [if_pos h', if_pos h, if_pos h, decide_eq_true h]; rfl
  · have h' : ¬ 0 ≤ Lib.indexByte (L s) 45 := h
    rw [if_neg h', if_neg h, if_neg h, decide_eq_false h]; rfl
theorem impl_ReadVersion_ev (s : ByteArray) (hs : s.size ≤ 1048576) : Ev (fun k => impl_ReadVersion.f k s) (readVer (L s)) := by
  have hsz := size_L s
  have hh := vhead_len (L s)
  have hl := idx_lt (L s) 45
  have hp : ∀ i, (S ((cutP 46 [] (vhead (L s))).getD i [])).size ≤ 1099511627776 := fun i => by have := head_part (L s) i; rw [size_S]; omega
  have hd : ∀ i, impl_ReadDec.f (S ((cutP 46 [] (vhead (L s))).getD i [])) = some (vpart (L s) i) := fun i => by
    have := impl_ReadDec_eq _ (hp i); rw [L_S] at this; exact this
  have r0 : rdOf ByteArray.empty ((cutP 46 [] (vhead (L s))).map S) 0 = S ((cutP 46 [] (vhead (L s))).getD 0 []) := rd_cut _ 0
  have r1 : rdOf ByteArray.empty ((cutP 46 [] (vhead (L s))).map S) 1 = S ((cutP 46 [] (vhead (L s))).getD 1 []) := rd_cut _ 1
  have r2 : rdOf ByteArray.empty ((cutP 46 [] (vhead (L s))).map S) 2 = S ((cutP 46 [] (vhead (L s))).getD 2 []) := rd_cut _ 2
  have hsp := split_one (S (vhead (L s))) 46 (by rw [size_S]; omega)
  rw [L_S] at hsp
  have e46 : (⟨#[46]⟩ : ByteArray) = S [46] := rfl
  unfold impl_ReadVersion.f
  refine ev_const (impl_cut s hs) ?_
  rw [e46]
  refine ev_const hsp ?_
  rw [List.length_map]
  unfold readVer
  by_cases h3 : (cutP 46 [] (vhead (L s))).length = 3
  · have hne := three_ne h3
    refine ev_pos (by omega) (ev_pos (by omega) ?_)
    rw [r0]
    refine ev_const (hd 0) (ev_pos (by omega) ?_)
    rw [r1]
    refine ev_const (hd 1) (ev_pos (by omega) ?_)
    rw [r2]
    refine ev_const (hd 2) ?_
    have hv := vpre_len (L s); have hm := vpre_mem (L s)
    have ht := impl_VersionText_ev (vpart (L s) 0) (vpart (L s) 1) (vpart (L s) 2) (vpre (L s)) (by omega) fun x hx => by have := hm x hx; omega
    have fin : Ev (fun k => (impl_VersionText.f k (vpart (L s) 0) (vpart (L s) 1) (vpart (L s) 2) (vpre (L s))).bind fun t => if t.toList = s.toList then (if s.toList = ([] : List UInt8) then some (0, 0, 0, ([] : List ByteArray), false) else some (vpart (L s) 0, vpart (L s) 1, vpart (L s) 2, vpre (L s), true)) else some (0, 0, 0, ([] : List ByteArray), false)) (if (cutP 46 [] (vhead (L s))).length = 3 ∧ vtext (vpart (L s) 0) (vpart (L s) 1) (vpart (L s) 2) (vpre (L s)) = L s then (vpart (L s) 0, vpart (L s) 1, vpart (L s) 2, vpre (L s), true) else zeroV) := by
      refine Ev.bind ht ?_
      rw [toList_S, toList_L]
      by_cases hv : vtext (vpart (L s) 0) (vpart (L s) 1) (vpart (L s) 2) (vpre (L s)) = L s
      · exact ev_use (ev_pos hv (ev_neg hne (Ev.now _))) (if_pos ⟨h3, hv⟩).symm
      · exact ev_use (ev_neg hv (Ev.now _)) (if_neg fun h => hv h.2).symm
    by_cases h0 : 0 ≤ idx (L s) 45
    · have hc := split_one (S ((L s).drop ((idx (L s) 45).toNat + 1))) 46 (by rw [size_S, List.length_drop]; omega)
      rw [L_S] at hc
      refine ev_pos (decide_eq_true h0) ?_
      simp only [if_pos h0]
      refine ev_const hc ?_
      have ev : vpre (L s) = (cutP 46 [] ((L s).drop ((idx (L s) 45).toNat + 1))).map S := if_pos h0
      rw [ev] at fin ⊢
      exact fin
    · refine ev_neg (by simpa using h0) ?_
      have ev : vpre (L s) = [] := if_neg h0
      rw [ev] at fin ⊢
      exact fin
  · exact ev_use (ev_neg (by omega) (Ev.now _)) (if_neg fun h => h3 h.1).symm
end Go.Proofs.YtcfeihimmboghaaGreatDoor.U

end
section
namespace Go.Proofs.YtcfeihimmboghaaGreatDoor.U
open Go Go.RowKit Go.Proofs.YtcfeihimmboghaaGreatDoorW.PrintWords Go.Proofs.YtcfeihimmboghaaGreatDoor.G
set_option linter.unusedVariables false
def isVer (l : B) : Bool := (readVer l).2.2.2.2
def verOr (l : B) : Bool := isVer l || l == []
theorem isVer_text {l : B} (h : isVer l = true) : ∃ a b c p, vtext a b c p = l ∧ readVer l = (a, b, c, p, true) := by
  unfold isVer at h
  unfold readVer at h ⊢
  split at h
  · rename_i hc
    exact ⟨_, _, _, _, hc.2, by rw [if_pos hc]⟩
  · simp [zeroV] at h
theorem isVer_len {l : B} (h : isVer l = true) : l.length ≤ 135 := by
  obtain ⟨a, b, c, p, e, _⟩ := isVer_text h
  rw [← e]; exact vtext_len _ _ _ _
theorem isVer_nil : isVer [] = false := by
  unfold isVer readVer
  rw [if_neg]
  · rfl
  · rintro ⟨h, _⟩; exact absurd rfl (three_ne h)
theorem verOr_len {l : B} (h : verOr l = true) : l.length ≤ 135 := by
  unfold verOr at h
  rw [Bool.or_eq_true] at h
  rcases h with h | h
  · exact isVer_len h
  · rw [beq_iff_eq] at h; rw [h]; simp
end Go.Proofs.YtcfeihimmboghaaGreatDoor.U

end
section
namespace Go.Proofs.YtcfeihimmboghaaGreatDoor.U
open Go Go.RowKit
set_option linter.unusedVariables false
set_option linter.unusedSimpArgs false
def cmpI (a b : Int) : Int := if a < b then -1 else if b < a then 1 else 0
def cmpP (a b : B) : Int := if 0 ≤ rdec a then (if 0 ≤ rdec b then cmpI (rdec a) (rdec b) else -1) else (if 0 ≤ rdec b then 1 else Lib.compareBytes a b)
def cmpL : List B → List B → Int
  | [], [] => 0
  | [], _ :: _ => -1
  | _ :: _, [] => 1
  | x :: l, y :: m => if cmpP x y = 0 then cmpL l m else cmpP x y
def cmpV (a b c : Int) (l : List B) (a' b' c' : Int) (l' : List B) : Int :=
  if cmpI a a' = 0 then (if cmpI b b' = 0 then (if cmpI c c' = 0 then (if l = [] ∨ l' = [] then cmpI l'.length l.length else cmpL l l') else cmpI c c') else cmpI b b') else cmpI a a'
def lex : List Int → List Int → Int
  | [], [] => 0
  | [], _ :: _ => -1
  | _ :: _, [] => 1
  | x :: l, y :: m => if x < y then -1 else if y < x then 1 else lex l m
theorem lex_self : ∀ l, lex l l = 0
  | [] => rfl
  | x :: l => by rw [lex, if_neg (by omega), if_neg (by omega), lex_self l]
theorem lex_eq : ∀ l m, lex l m = 0 → l = m
  | [], [], _ => rfl
  | [], _ :: _, h => by rw [lex] at h; omega
  | _ :: _, [], h => by rw [lex] at h; omega
  | x :: l, y :: m, h => by
    rw [lex] at h
    by_cases h1 : x < y
    · rw [if_pos h1] at h; omega
    · rw [if_neg h1] at h
      by_cases h2 : y < x
      · rw [if_pos h2] at h; omega
      · rw [if_neg h2] at h
        rw [lex_eq l m h, show x = y by omega]
theorem lex_anti : ∀ l m, lex l m = - lex m l
  | [], [] => rfl
  | [], _ :: _ => rfl
  | _ :: _, [] => rfl
  | x :: l, y :: m => by
    rw [lex, lex]
    by_cases h1 : x < y
    · rw [if_pos h1, if_neg (by omega), if_pos h1]
    · rw [if_neg h1]
      by_cases h2 : y < x
      · rw [if_pos h2, if_pos h2]; rfl
      · rw [if_neg h2, if_neg h2, if_neg h1, lex_anti l m]
theorem lex_le : ∀ l m n, lex l m ≤ 0 → lex m n ≤ 0 → lex l n ≤ 0
  | [], _, [], _, _ => Int.le_refl _
  | [], _, _ :: _, _, _ => by rw [lex]; omega
  | _ :: _, [], _, h, _ => by rw [lex] at h; omega
  | _ :: _, _ :: _, [], _, h => by rw [lex] at h; omega
  | x :: l, y :: m, z :: n, h, k => by
    rw [lex] at h k ⊢
    by_cases h1 : x < y
    · by_cases k1 : y < z
      · rw [if_pos (by omega)]; omega
      · rw [if_neg k1] at k
        by_cases k2 : z < y
        · rw [if_pos k2] at k; omega
        · rw [if_pos (by omega)]; omega
    · rw [if_neg h1] at h
      by_cases h2 : y < x
      · rw [if_pos h2] at h; omega
      · rw [if_neg h2] at h
        by_cases k1 : y < z
        · rw [if_pos (by omega)]; omega
        · rw [if_neg k1] at k
          by_cases k2 : z < y
          · rw [if_pos k2] at k; omega
          · rw [if_neg k2] at k
            rw [if_neg (by omega), if_neg (by omega)]
            exact lex_le l m n h k
theorem lex_cons (x : Int) (l m : List Int) : lex (x :: l) (x :: m) = lex l m := by rw [lex, if_neg (by omega), if_neg (by omega)]
def kT (x : B) : List Int := x.map fun c => (c.toNat : Int) + 1
def kP (x : B) : List Int := if 0 ≤ rdec x then [1, rdec x] else 2 :: (kT x ++ [0])
def kL (l : List B) : List Int := l.flatMap kP ++ [0]
def kV (a b c : Int) (l : List B) : List Int := a :: b :: c :: (if l = [] then [1] else 0 :: kL l)
theorem lex_kT : ∀ (x y : B) (r s : List Int), lex (kT x ++ 0 :: r) (kT y ++ 0 :: s) = if Lib.compareBytes x y = 0 then lex r s else Lib.compareBytes x y
  | [], [], r, s => by rw [Lib.compareBytes, if_pos rfl]; exact lex_cons 0 r s
  | [], y :: ys, r, s => by
    rw [Lib.compareBytes, if_neg (by omega)]
    show lex (0 :: r) (((y.toNat : Int) + 1) :: _) = -1
    rw [lex, if_pos (by omega)]
  | x :: xs, [], r, s => by
    rw [Lib.compareBytes, if_neg (by omega)]
    show lex (((x.toNat : Int) + 1) :: _) (0 :: s) = 1
    rw [lex, if_neg (by omega), if_pos (by omega)]
  | x :: xs, y :: ys, r, s => by
    show lex (((x.toNat : Int) + 1) :: (kT xs ++ 0 :: r)) (((y.toNat : Int) + 1) :: (kT ys ++ 0 :: s)) = _
    rw [lex, Lib.compareBytes]
    by_cases h1 : x < y
    · have := UInt8.lt_iff_toNat_lt.1 h1
      rw [if_pos (by omega), if_pos h1, if_neg (by omega)]
    · have h1' : ¬ x.toNat < y.toNat := fun h => h1 (UInt8.lt_iff_toNat_lt.2 h)
      rw [if_neg (by omega), if_neg h1]
      by_cases h2 : y < x
      · have := UInt8.lt_iff_toNat_lt.1 h2
        rw [if_pos (by omega), if_pos h2, if_neg (by omega)]
      · have h2' : ¬ y.toNat < x.toNat := fun h => h2 (UInt8.lt_iff_toNat_lt.2 h)
        rw [if_neg (by omega), if_neg h2]
        exact lex_kT xs ys r s
theorem cmpI_zero {a b : Int} (h : cmpI a b = 0) : a = b := by
  unfold cmpI at h
  by_cases h1 : a < b
  · rw [if_pos h1] at h; omega
  · rw [if_neg h1] at h
    by_cases h2 : b < a
    · rw [if_pos h2] at h; omega
    · omega
theorem cmpI_self (a : Int) : cmpI a a = 0 := by unfold cmpI; rw [if_neg (by omega), if_neg (by omega)]
theorem lex_cmpI (a b : Int) (r s : List Int) : lex (a :: r) (b :: s) = if cmpI a b = 0 then lex r s else cmpI a b := by
  rw [lex]
  unfold cmpI
  by_cases h1 : a < b
  · rw [if_pos h1, if_pos h1, if_neg (by omega)]
  · rw [if_neg h1, if_neg h1]
    by_cases h2 : b < a
    · rw [if_pos h2, if_pos h2, if_neg (by omega)]
    · rw [if_neg h2, if_neg h2, if_pos rfl]
theorem lex_kP (x y : B) (r s : List Int) : lex (kP x ++ r) (kP y ++ s) = if cmpP x y = 0 then lex r s else cmpP x y := by
  unfold kP cmpP
  by_cases h1 : 0 ≤ rdec x
  · rw [if_pos h1, if_pos h1]
    by_cases h2 : 0 ≤ rdec y
    · rw [if_pos h2, if_pos h2]
      show lex (1 :: rdec x :: r) (1 :: rdec y :: s) = _
      rw [lex_cons, lex_cmpI]
    · rw [if_neg h2, if_neg h2]
      show lex (1 :: rdec x :: r) (2 :: _) = _
      rw [lex, if_pos (by omega), if_neg (by omega)]
  · rw [if_neg h1, if_neg h1]
    by_cases h2 : 0 ≤ rdec y
    · rw [if_pos h2, if_pos h2]
      show lex (2 :: _) (1 :: rdec y :: s) = _
      rw [lex, if_neg (by omega), if_pos (by omega), if_neg (by omega)]
    · rw [if_neg h2, if_neg h2]
      show lex (2 :: ((kT x ++ [0]) ++ r)) (2 :: ((kT y ++ [0]) ++ s)) = _
      rw [lex_cons, List.append_assoc, List.append_assoc]
      exact lex_kT x y r s
theorem kP_head (x : B) : ∃ h t, kP x = h :: t ∧ 0 < h := by
  unfold kP
  by_cases h1 : 0 ≤ rdec x
  · rw [if_pos h1]; exact ⟨1, _, rfl, by omega⟩
  · rw [if_neg h1]; exact ⟨2, _, rfl, by omega⟩
theorem lex_kL : ∀ l m : List B, lex (kL l) (kL m) = cmpL l m
  | [], [] => by rw [cmpL]; exact lex_self _
  | [], y :: m => by
    obtain ⟨h, t, e, hp⟩ := kP_head y
    unfold kL
    rw [cmpL, List.flatMap_cons, e]
    show lex (0 :: []) (h :: _) = -1
    rw [lex, if_pos hp]
  | x :: l, [] => by
    obtain ⟨h, t, e, hp⟩ := kP_head x
    unfold kL
    rw [cmpL, List.flatMap_cons, e]
    show lex (h :: _) (0 :: []) = 1
    rw [lex, if_neg (by omega), if_pos hp]
  | x :: l, y :: m => by
    have ih := lex_kL l m
    unfold kL at ih ⊢
    rw [cmpL, List.flatMap_cons, List.flatMap_cons, List.append_assoc, List.append_assoc, lex_kP, ih]
theorem lex_kV (a b c : Int) (l : List B) (a' b' c' : Int) (l' : List B) : lex (kV a b c l) (kV a' b' c' l') = cmpV a b c l a' b' c' l' := by
  unfold kV cmpV
  rw [lex_cmpI, lex_cmpI, lex_cmpI]
  by_cases h1 : l = []
  · subst h1
    rw [if_pos rfl, if_pos (Or.inl rfl)]
    by_cases h2 : l' = []
    · subst h2; rw [if_pos rfl]; rfl
    · have h3 : 0 < l'.length := by cases l' with
        | nil => exact absurd rfl h2
        | cons x m => simp
      have e1 : lex [1] (0 :: kL l') = 1 := by rw [lex, if_neg (by omega), if_pos (by omega)]
      have e2 : cmpI (l'.length : Int) (([] : List B).length : Int) = 1 := by unfold cmpI; rw [List.length_nil, if_neg (by omega), if_pos (by omega)]
      rw [if_neg h2, e1, e2]
  · have h4 : 0 < l.length := by cases l with
        | nil => exact absurd rfl h1
        | cons x m => simp
    rw [if_neg h1]
    by_cases h2 : l' = []
    · subst h2
      have e1 : lex (0 :: kL l) [1] = -1 := by rw [lex, if_pos (by omega)]
      have e2 : cmpI (([] : List B).length : Int) (l.length : Int) = -1 := by unfold cmpI; rw [List.length_nil, if_pos (by omega)]
      rw [if_pos rfl, if_pos (Or.inr rfl), e1, e2]
    · rw [if_neg h2, lex_cons, lex_kL, if_neg (show ¬ (l = [] ∨ l' = []) from fun h => h.elim h1 h2)]
theorem bytes_zero : ∀ x y : B, Lib.compareBytes x y = 0 → x = y
  | [], [], _ => rfl
  | [], _ :: _, h => by rw [Lib.compareBytes] at h; omega
  | _ :: _, [], h => by rw [Lib.compareBytes] at h; omega
  | a :: x, b :: y, h => by
    rw [Lib.compareBytes] at h
    by_cases h1 : a < b
    · rw [if_pos h1] at h; omega
    · rw [if_neg h1] at h
      by_cases h2 : b < a
      · rw [if_pos h2] at h; omega
      · rw [if_neg h2] at h
        have h1' : ¬ a.toNat < b.toNat := fun h => h1 (UInt8.lt_iff_toNat_lt.2 h)
        have h2' : ¬ b.toNat < a.toNat := fun h => h2 (UInt8.lt_iff_toNat_lt.2 h)
        rw [bytes_zero x y h, UInt8.toNat_inj.1 (show a.toNat = b.toNat by omega)]
theorem rdec_inj {x y : B} (h : 0 ≤ rdec x) (e : rdec x = rdec y) : x = y := by
  obtain ⟨u, _, hx, hu⟩ := rdec_some (l := x) (by omega)
  obtain ⟨v, _, hy, hv⟩ := rdec_some (l := y) (by omega)
  have : u = v := by omega
  rw [hx, hy, this]
theorem cmpP_zero {x y : B} (h : cmpP x y = 0) : x = y := by
  unfold cmpP at h
  by_cases h1 : 0 ≤ rdec x
  · rw [if_pos h1] at h
    by_cases h2 : 0 ≤ rdec y
    · rw [if_pos h2] at h; exact rdec_inj h1 (cmpI_zero h)
    · rw [if_neg h2] at h; omega
  · rw [if_neg h1] at h
    by_cases h2 : 0 ≤ rdec y
    · rw [if_pos h2] at h; omega
    · rw [if_neg h2] at h; exact bytes_zero x y h
theorem cmpL_zero : ∀ l m : List B, cmpL l m = 0 → l = m
  | [], [], _ => rfl
  | [], _ :: _, h => by rw [cmpL] at h; omega
  | _ :: _, [], h => by rw [cmpL] at h; omega
  | x :: l, y :: m, h => by
    rw [cmpL] at h
    by_cases h1 : cmpP x y = 0
    · rw [if_pos h1] at h; rw [cmpP_zero h1, cmpL_zero l m h]
    · rw [if_neg h1] at h; exact absurd h h1
theorem cmpV_zero {a b c : Int} {l : List B} {a' b' c' : Int} {l' : List B} (h : cmpV a b c l a' b' c' l' = 0) : a = a' ∧ b = b' ∧ c = c' ∧ l = l' := by
  unfold cmpV at h
  by_cases h1 : cmpI a a' = 0
  · rw [if_pos h1] at h
    by_cases h2 : cmpI b b' = 0
    · rw [if_pos h2] at h
      by_cases h3 : cmpI c c' = 0
      · rw [if_pos h3] at h
        refine ⟨cmpI_zero h1, cmpI_zero h2, cmpI_zero h3, ?_⟩
        by_cases h4 : l = [] ∨ l' = []
        · rw [if_pos h4] at h
          have := cmpI_zero h
          rcases h4 with rfl | rfl
          · cases l' with
            | nil => rfl
            | cons x m => simp at this; omega
          · cases l with
            | nil => rfl
            | cons x m => simp at this; omega
        · rw [if_neg h4] at h; exact cmpL_zero l l' h
      · rw [if_neg h3] at h; exact absurd h h3
    · rw [if_neg h2] at h; exact absurd h h2
  · rw [if_neg h1] at h; exact absurd h h1
theorem val10_at : ∀ (x y : B) (a b : Nat), x.length = y.length → (∀ c ∈ x, dgt c = true) → (∀ c ∈ y, dgt c = true) → a < b → val10 a x < val10 b y
  | [], [], a, b, _, _, _, h => h
  | [], _ :: _, _, _, h, _, _, _ => by simp at h
  | _ :: _, [], _, _, h, _, _, _ => by simp at h
  | c :: x, d :: y, a, b, h, hx, hy, hab => by
    have hc := (dgt_is c).1 (hx c (by simp))
    exact val10_at x y _ _ (by simpa using h) (fun e he => hx e (by simp [he])) (fun e he => hy e (by simp [he])) (by omega)
theorem compare_val : ∀ (x y : B) (a : Nat), x.length = y.length → (∀ c ∈ x, dgt c = true) → (∀ c ∈ y, dgt c = true) → Lib.compareBytes x y = cmpI (val10 a x) (val10 a y)
  | [], [], a, _, _, _ => (cmpI_self _).symm
  | [], _ :: _, _, h, _, _ => by simp at h
  | _ :: _, [], _, h, _, _ => by simp at h
  | c :: x, d :: y, a, h, hx, hy => by
    have hc := (dgt_is c).1 (hx c (by simp))
    have hd := (dgt_is d).1 (hy d (by simp))
    have hx' : ∀ e ∈ x, dgt e = true := fun e he => hx e (by simp [he])
    have hy' : ∀ e ∈ y, dgt e = true := fun e he => hy e (by simp [he])
    have hl : x.length = y.length := by simpa using h
    rw [Lib.compareBytes]
    show _ = cmpI (val10 (a * 10 + (c.toNat - 48)) x) (val10 (a * 10 + (d.toNat - 48)) y)
    by_cases h1 : c < d
    · have h1' := UInt8.lt_iff_toNat_lt.1 h1
      have := val10_at x y (a * 10 + (c.toNat - 48)) (a * 10 + (d.toNat - 48)) hl hx' hy' (by omega)
      rw [if_pos h1]; unfold cmpI; rw [if_pos (by omega)]
    · have h1' : ¬ c.toNat < d.toNat := fun h => h1 (UInt8.lt_iff_toNat_lt.2 h)
      rw [if_neg h1]
      by_cases h2 : d < c
      · have h2' := UInt8.lt_iff_toNat_lt.1 h2
        have := val10_at y x (a * 10 + (d.toNat - 48)) (a * 10 + (c.toNat - 48)) hl.symm hy' hx' (by omega)
        rw [if_pos h2]; unfold cmpI; rw [if_neg (by omega), if_pos (by omega)]
      · have h2' : ¬ d.toNat < c.toNat := fun h => h2 (UInt8.lt_iff_toNat_lt.2 h)
        rw [if_neg h2, show d = c from UInt8.toNat_inj.1 (by omega)]
        exact compare_val x y _ hl hx' hy'
def stripz (x : B) : B := Lib.trimLeftB x 48
theorem strip_is (u : Nat) : (∀ c ∈ stripz (Lib.decDigits u), dgt c = true) ∧ val10 0 (stripz (Lib.decDigits u)) = u ∧ (∀ n, (stripz (Lib.decDigits u)).length = n + 1 → 10 ^ n ≤ u) := by
  have key : ∀ n v, v < n → 0 < v → ∃ c r, Lib.decDigits v = c :: r ∧ c ≠ 48 ∧ 10 ^ r.length ≤ v := by
    intro n
    induction n with
    | zero => intro v h; omega
    | succ n ih =>
      intro v hv h0
      by_cases h : v < 10
      · rw [Lib.decDigits_one h]
        refine ⟨_, [], rfl, ?_, by simp; omega⟩
        intro e
        have := congrArg UInt8.toNat e
        rw [dgt_of v h] at this
        simp at this; omega
      · obtain ⟨c, r, e, hc, hl⟩ := ih (v / 10) (by omega) (by omega)
        rw [decDigits_step v h, e]
        refine ⟨c, r ++ [UInt8.ofNat (48 + v % 10)], rfl, hc, ?_⟩
        rw [List.length_append, List.length_singleton, Nat.pow_succ]
        have := Nat.mul_le_mul_right 10 hl
        omega
  by_cases h0 : u = 0
  · subst h0
    have e : stripz (Lib.decDigits 0) = [] := by rw [Lib.decDigits_one (by omega)]; rfl
    rw [e]
    exact ⟨by simp, rfl, fun n h => by simp at h⟩
  · obtain ⟨c, r, e, hc, hl⟩ := key (u + 1) u (by omega) (by omega)
    have hs : stripz (Lib.decDigits u) = Lib.decDigits u := by
      unfold stripz Lib.trimLeftB
      rw [e, List.dropWhile_cons_of_neg (by simpa using hc)]
    rw [hs]
    refine ⟨dec_dgt u, dec_val u, fun n h => ?_⟩
    rw [e, List.length_cons] at h
    have : r.length = n := by omega
    rw [← this]; exact hl
theorem cmp_strip {x y : B} (hx : 0 ≤ rdec x) (hy : 0 ≤ rdec y) : (if cmpI (stripz x).length (stripz y).length = 0 then Lib.compareBytes (stripz x) (stripz y) else cmpI (stripz x).length (stripz y).length) = cmpI (rdec x) (rdec y) := by
  obtain ⟨u, _, ex, hu⟩ := rdec_some (l := x) (by omega)
  obtain ⟨v, _, ey, hv⟩ := rdec_some (l := y) (by omega)
  rw [hu, hv, ex, ey]
  obtain ⟨a1, a2, a3⟩ := strip_is u
  obtain ⟨b1, b2, b3⟩ := strip_is v
  generalize stripz (Lib.decDigits u) = p at *
  generalize stripz (Lib.decDigits v) = q at *
  have big : ∀ (p q : B) (u v : Nat), (∀ c ∈ p, dgt c = true) → val10 0 p = u → (∀ n, q.length = n + 1 → 10 ^ n ≤ v) → p.length < q.length → u < v := by
    intro p q u v h1 h2 h3 h4
    have := val10_lt p 0 h1
    rw [h2] at this
    have h5 := h3 (q.length - 1) (by omega)
    have h6 : 10 ^ p.length ≤ 10 ^ (q.length - 1) := Nat.pow_le_pow_right (by decide) (by omega)
    omega
  by_cases h : p.length = q.length
  · have e : cmpI (p.length : Int) (q.length : Int) = 0 := by rw [h]; exact cmpI_self _
    rw [if_pos e, compare_val p q 0 h a1 b1, a2, b2]
  · have lt : ∀ a b : Int, a < b → cmpI a b = -1 := fun a b h => by unfold cmpI; rw [if_pos h]
    have gt : ∀ a b : Int, b < a → cmpI a b = 1 := fun a b h => by unfold cmpI; rw [if_neg (by omega), if_pos h]
    by_cases h1 : p.length < q.length
    · have := big p q u v a1 a2 b3 h1
      rw [lt _ _ (show (p.length : Int) < q.length by omega), if_neg (by omega), lt _ _ (show (u : Int) < v by omega)]
    · have := big q p v u b1 b2 a3 (by omega)
      rw [gt _ _ (show (q.length : Int) < p.length by omega), if_neg (by omega), gt _ _ (show (v : Int) < u by omega)]
theorem text_less (a b : B) : (if Op.bytesLess a b = true then (-1 : Int) else if Op.bytesLess b a = true then 1 else 0) = Lib.compareBytes a b := by
  have h1 : ∀ a b : B, (Op.bytesLess a b = true ↔ Lib.compareBytes a b = -1) ∧ (Op.bytesLess b a = true ↔ Lib.compareBytes a b = 1) ∧ (Lib.compareBytes a b = -1 ∨ Lib.compareBytes a b = 0 ∨ Lib.compareBytes a b = 1) := by
    intro a
    induction a with
    | nil => intro b; cases b <;> simp [Op.bytesLess, Lib.compareBytes]
    | cons x a ih =>
      intro b
      cases b with
      | nil => simp [Op.bytesLess, Lib.compareBytes]
      | cons y b =>
        obtain ⟨i1, i2, i3⟩ := ih b
        rw [Op.bytesLess, Op.bytesLess, Lib.compareBytes]
        by_cases h1 : x < y
        · have h1' := UInt8.lt_iff_toNat_lt.1 h1
          have n2 : ¬ y < x := fun h => by have := UInt8.lt_iff_toNat_lt.1 h; omega
          have n3 : ¬ y = x := fun h => by rw [h] at h1'; omega
          simp [h1, n2, n3]
        · by_cases h2 : y < x
          · have h2' := UInt8.lt_iff_toNat_lt.1 h2
            have n3 : ¬ x = y := fun h => by rw [h] at h2'; omega
            simp [h1, h2, n3]
          · have h1' : ¬ x.toNat < y.toNat := fun h => h1 (UInt8.lt_iff_toNat_lt.2 h)
            have h2' : ¬ y.toNat < x.toNat := fun h => h2 (UInt8.lt_iff_toNat_lt.2 h)
            have e : x = y := UInt8.toNat_inj.1 (by omega)
            subst e
            simp [h1]
            exact ⟨i1, i2, i3⟩
  obtain ⟨i1, i2, i3⟩ := h1 a b
  by_cases c1 : Op.bytesLess a b = true
  · rw [if_pos c1, i1.1 c1]
  · rw [if_neg c1]
    by_cases c2 : Op.bytesLess b a = true
    · rw [if_pos c2, i2.1 c2]
    · rw [if_neg c2]
      rcases i3 with h | h | h
      · exact absurd (i1.2 h) c1
      · exact h.symm
      · exact absurd (i2.2 h) c2
end Go.Proofs.YtcfeihimmboghaaGreatDoor.U

end
section
namespace Go.Proofs.YtcfeihimmboghaaGreatDoor.U
open Go Go.RowKit Go.Sort Go.Lib
set_option linter.unusedVariables false
set_option linter.unusedSimpArgs false
variable {β : Type}
def Keyed (cf : β → β → Int) (k : β → List Int) : Prop := ∀ x y, cf x y = lex (k x) (k y)
section
variable {cf : β → β → Int} {k : β → List Int}
theorem Keyed.anti (h : Keyed cf k) (x y : β) : cf x y = - cf y x := by rw [h, h]; exact lex_anti _ _
theorem Keyed.self (h : Keyed cf k) (x : β) : cf x x = 0 := by rw [h]; exact lex_self _
theorem Keyed.le (h : Keyed cf k) {x y z : β} (a : cf x y ≤ 0) (b : cf y z ≤ 0) : cf x z ≤ 0 := by rw [h] at *; exact lex_le _ _ _ a b
theorem Keyed.le_lt (h : Keyed cf k) {x y z : β} (a : cf x y ≤ 0) (b : cf y z < 0) : cf x z < 0 := by
  have c := h.le a (by omega : cf y z ≤ 0)
  by_cases e : cf x z = 0
  · have d := h.le (x := z) (y := x) (z := y) (by rw [h.anti]; omega) a
    rw [h.anti] at d; omega
  · omega
theorem Keyed.lt_le (h : Keyed cf k) {x y z : β} (a : cf x y < 0) (b : cf y z ≤ 0) : cf x z < 0 := by
  have c := h.le (by omega : cf x y ≤ 0) b
  by_cases e : cf x z = 0
  · have d := h.le (x := y) (y := z) (z := x) b (by rw [h.anti]; omega)
    rw [h.anti] at d; omega
  · omega
theorem Keyed.swo (h : Keyed cf k) : SWO (ltOf cf) where
  irrefl x := by unfold ltOf; rw [h.self]; rfl
  trans x y z a b := by
    unfold ltOf at *
    rw [decide_eq_true_iff] at *
    exact h.lt_le a (by omega)
  ntrans x y z a b := by
    unfold ltOf at *
    rw [decide_eq_false_iff_not] at *
    have a' := h.anti x y
    have b' := h.anti y z
    have c' := h.anti x z
    have := h.le (x := z) (y := y) (z := x) (by omega) (by omega)
    omega
def Strict (cf : β → β → Int) (l : List β) : Prop := l.Pairwise fun x y => cf x y < 0
theorem strict_uniq (h : Keyed cf k) : ∀ l m : List β, Strict cf l → Strict cf m → (∀ x, x ∈ l ↔ x ∈ m) → l = m
  | [], [], _, _, _ => rfl
  | [], y :: m, _, _, e => absurd ((e y).2 (by simp)) (by simp)
  | x :: l, [], _, _, e => absurd ((e x).1 (by simp)) (by simp)
  | x :: l, y :: m, hl, hm, e => by
    unfold Strict at hl hm
    rw [List.pairwise_cons] at hl hm
    have xy : x = y := by
      have h1 := (e x).1 (by simp)
      have h2 := (e y).2 (by simp)
      rw [List.mem_cons] at h1 h2
      rcases h1 with h1 | h1
      · exact h1
      · rcases h2 with h2 | h2
        · exact h2.symm
        · have a := hm.1 x h1
          have b := hl.1 y h2
          have := h.anti x y
          omega
    subst xy
    rw [strict_uniq h l m hl.2 hm.2 fun z => ?_]
    have := e z
    rw [List.mem_cons, List.mem_cons] at this
    constructor
    · intro hz
      rcases this.1 (Or.inr hz) with rfl | h1
      · have := hl.1 z hz; rw [h.self] at this; omega
      · exact h1
    · intro hz
      rcases this.2 (Or.inr hz) with rfl | h1
      · have := hm.1 z hz; rw [h.self] at this; omega
      · exact h1
variable [DecidableEq β]
def ins (cf : β → β → Int) (s : β) : List β → List β
  | [] => [s]
  | w :: l => if cf w s < 0 then w :: ins cf s l else if w = s then w :: l else s :: w :: l
theorem mem_ins (s x : β) : ∀ l : List β, x ∈ ins cf s l ↔ x = s ∨ x ∈ l
  | [] => by simp [ins]
  | w :: l => by
    rw [ins]
    by_cases h1 : cf w s < 0
    · rw [if_pos h1, List.mem_cons, mem_ins s x l, List.mem_cons]
      constructor
      · rintro (h | h | h)
        · exact Or.inr (Or.inl h)
        · exact Or.inl h
        · exact Or.inr (Or.inr h)
      · rintro (h | h | h)
        · exact Or.inr (Or.inl h)
        · exact Or.inl h
        · exact Or.inr (Or.inr h)
    · rw [if_neg h1]
      by_cases h2 : w = s
      · subst h2; rw [if_pos rfl]; simp
      · rw [if_neg h2, List.mem_cons]
theorem strict_ins (h : Keyed cf k) (s : β) : ∀ l : List β, (∀ w ∈ l, cf w s = 0 → w = s) → Strict cf l → Strict cf (ins cf s l)
  | [], _, _ => by simp [ins, Strict]
  | w :: l, hi, hl => by
    unfold Strict at hl
    rw [List.pairwise_cons] at hl
    rw [ins]
    by_cases h1 : cf w s < 0
    · rw [if_pos h1]
      refine List.pairwise_cons.2 ⟨fun x hx => ?_, strict_ins h s l (fun v hv => hi v (by simp [hv])) hl.2⟩
      rcases (mem_ins s x l).1 hx with rfl | hx
      · exact h1
      · exact hl.1 x hx
    · rw [if_neg h1]
      by_cases h2 : w = s
      · rw [if_pos h2]; exact List.pairwise_cons.2 hl
      · rw [if_neg h2]
        have h3 : cf s w < 0 := by
          have a := h.anti s w
          have : cf w s ≠ 0 := fun e => h2 (hi w (by simp) e)
          omega
        refine List.pairwise_cons.2 ⟨fun x hx => ?_, List.pairwise_cons.2 hl⟩
        rw [List.mem_cons] at hx
        rcases hx with rfl | hx
        · exact h3
        · exact h.lt_le h3 (by have := hl.1 x hx; omega)
def sorted (cf : β → β → Int) (l : List β) : List β := l.foldl (fun out s => ins cf s out) []
theorem sorted_go (h : Keyed cf k) : ∀ (l out : List β), (∀ x, x ∈ l ∨ x ∈ out → ∀ y, y ∈ l ∨ y ∈ out → cf x y = 0 → x = y) → Strict cf out → Strict cf (l.foldl (fun out s => ins cf s out) out) ∧ ∀ x, x ∈ l.foldl (fun out s => ins cf s out) out ↔ x ∈ l ∨ x ∈ out
  | [], out, _, ho => ⟨ho, fun x => by simp⟩
  | s :: l, out, hi, ho => by
    have hs := strict_ins h s out (fun w hw => hi w (Or.inr hw) s (Or.inl (by simp))) ho
    have back : ∀ x, x ∈ l ∨ x ∈ ins cf s out → x ∈ s :: l ∨ x ∈ out := fun x hx => by
      rcases hx with hx | hx
      · exact Or.inl (by simp [hx])
      · rcases (mem_ins s x out).1 hx with rfl | hx
        · exact Or.inl (by simp)
        · exact Or.inr hx
    obtain ⟨h1, h2⟩ := sorted_go h l (ins cf s out) (fun x hx y hy => hi x (back x hx) y (back y hy)) hs
    refine ⟨h1, fun x => ?_⟩
    rw [List.foldl_cons, h2 x, mem_ins, List.mem_cons]
    constructor
    · rintro (h | h | h)
      · exact Or.inl (Or.inr h)
      · exact Or.inl (Or.inl h)
      · exact Or.inr h
    · rintro ((h | h) | h)
      · exact Or.inr (Or.inl h)
      · exact Or.inl h
      · exact Or.inr (Or.inr h)
theorem sorted_is (h : Keyed cf k) (l : List β) (hi : ∀ x ∈ l, ∀ y ∈ l, cf x y = 0 → x = y) : Strict cf (sorted cf l) ∧ ∀ x, x ∈ sorted cf l ↔ x ∈ l := by
  obtain ⟨h1, h2⟩ := sorted_go h l [] (fun x hx y hy => hi x (by simpa using hx) y (by simpa using hy)) List.Pairwise.nil
  exact ⟨h1, fun x => by have := h2 x; simpa [sorted] using this⟩
variable [Inhabited β]
theorem compact_is (h : Keyed cf k) (zs : List β) (hs : ∀ i j, i < j → j < zs.length → ¬ cf zs.toArray[j]! zs.toArray[i]! < 0) (hi : ∀ x ∈ zs, ∀ y ∈ zs, cf x y = 0 → x = y) :
    Strict cf (Lib.compact zs) ∧ ∀ x, x ∈ Lib.compact zs ↔ x ∈ zs := by
  have mem : ∀ j, j < zs.length → zs.toArray[j]! ∈ zs := fun j hj => by
    rw [getElem!_pos _ j (by simpa using hj)]; simp
  have key : ∀ m, m ≤ zs.length → Strict cf (compactUpTo zs.toArray m) ∧ (∀ x, x ∈ compactUpTo zs.toArray m ↔ ∃ j, j < m ∧ zs.toArray[j]! = x) ∧ (∀ x ∈ compactUpTo zs.toArray m, cf x zs.toArray[m - 1]! ≤ 0) := by
    intro m
    induction m with
    | zero => intro _; exact ⟨List.Pairwise.nil, fun x => by simp [compactUpTo], fun x hx => by simp [compactUpTo] at hx⟩
    | succ m ih =>
      intro hm
      obtain ⟨i1, i2, i3⟩ := ih (by omega)
      rw [compactUpTo_succ, Nat.add_sub_cancel]
      have step : ∀ x, (∃ j, j < m + 1 ∧ zs.toArray[j]! = x) ↔ (∃ j, j < m ∧ zs.toArray[j]! = x) ∨ x = zs.toArray[m]! := fun x => by
        constructor
        · rintro ⟨j, hj, e⟩
          by_cases c : j = m
          · subst c; exact Or.inr e.symm
          · exact Or.inl ⟨j, by omega, e⟩
        · rintro (⟨j, hj, e⟩ | e)
          · exact ⟨j, by omega, e⟩
          · exact ⟨m, by omega, e.symm⟩
      by_cases hk : keeps zs.toArray m = true
      · have low : ∀ x ∈ compactUpTo zs.toArray m, cf x zs.toArray[m]! < 0 := by
          intro x hx
          unfold keeps at hk
          rw [decide_eq_true_iff] at hk
          rcases hk with rfl | hk
          · simp [compactUpTo] at hx
          · have hm0 : 0 < m := by
              rcases Nat.eq_zero_or_pos m with rfl | h0
              · simp [compactUpTo] at hx
              · exact h0
            have a := hs (m - 1) m (by omega) (by omega)
            have b := h.anti zs.toArray[m - 1]! zs.toArray[m]!
            have c : cf zs.toArray[m - 1]! zs.toArray[m]! ≠ 0 := fun e => hk (hi _ (mem (m - 1) (by omega)) _ (mem m (by omega)) e).symm
            exact h.le_lt (i3 x hx) (by omega)
        rw [if_pos hk]
        refine ⟨List.pairwise_append.2 ⟨i1, by simp, fun x hx y hy => ?_⟩, fun x => ?_, fun x hx => ?_⟩
        · rw [List.mem_singleton] at hy; subst hy; exact low x hx
        · rw [List.mem_append, List.mem_singleton, i2, step]
        · rw [List.mem_append, List.mem_singleton] at hx
          rcases hx with hx | rfl
          · have := low x hx; omega
          · rw [h.self]; omega
      · have hk' : keeps zs.toArray m = false := by simpa using hk
        unfold keeps at hk'
        rw [decide_eq_false_iff_not] at hk'
        have h0 : m ≠ 0 := fun e => hk' (Or.inl e)
        have e : zs.toArray[m]! = zs.toArray[m - 1]! := by
          by_cases c : zs.toArray[m]! = zs.toArray[m - 1]!
          · exact c
          · exact absurd (Or.inr c) hk'
        rw [if_neg hk, List.append_nil]
        refine ⟨i1, fun x => ?_, fun x hx => ?_⟩
        · rw [i2, step]
          constructor
          · exact Or.inl
          · rintro (h | h)
            · exact h
            · exact ⟨m - 1, by omega, by rw [h, e]⟩
        · rw [e]; exact i3 x hx
  obtain ⟨k1, k2, _⟩ := key zs.length (Nat.le_refl _)
  refine ⟨k1, fun x => ?_⟩
  unfold compact
  rw [k2]
  constructor
  · rintro ⟨j, hj, rfl⟩; exact mem j hj
  · intro hx
    obtain ⟨j, hj, e⟩ := List.getElem_of_mem hx
    exact ⟨j, hj, by rw [getElem!_pos _ j (by simpa using hj)]; simpa using e⟩
end
end Go.Proofs.YtcfeihimmboghaaGreatDoor.U

end
