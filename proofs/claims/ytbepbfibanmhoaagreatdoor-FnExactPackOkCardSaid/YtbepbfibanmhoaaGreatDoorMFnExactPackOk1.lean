/- A part of the proof that the law FnExactPackOk answers true at every input that its row speaks of. Conditions: the row's own. -/
import Derived.Test.YtbepbfibanmhoaaGreatDoorMFnExactPackOk0
import Derived.Test.YtbepbfibanmhoaaGreatDoorKFnExactPackOk3
import Derived.Test.YtbepbfibanmhoaaGreatDoorKFnExactPackOk2
import Derived.Test.YtbepbfibanmhoaaGreatDoorGspecPackOk
import Derived.Test.YtbepbfibanmhoaaGreatDoorKFnExactPackOk0
import Derived.Test.YtbepbfibanmhoaaGreatDoorRows
import Derived.Test.YtbepbfibanmhoaaGreatDoorOp
import Derived.Test.YtbepbfibanmhoaaGreatDoorCards
import Derived.Test.YtbepbfibanmhoaaGreatDoorTie
import Derived.Test.YtbepbfibanmhoaaGreatDoorLaid
import Derived.Test.YtbepbfibanmhoaaGreatDoorFacts
import Derived.WalkKit
import Derived.ProofKit
import Derived.OpenShut
import Derived.ShutString
import Derived.ChangeOld
import Derived.Below
import Derived.SizedLaws
import Derived.Carry
import Derived.Deep.DeepHandedRow
import Derived.Deep.DeepWitnessRowRef
section
namespace Go.Proofs.YtbepbfibanmhoaaGreatDoor.U
open Go Go.RowKit Go.Proofs.YtbepbfibanmhoaaGreatDoorW.PrintWords Go.Proofs.YtbepbfibanmhoaaGreatDoor.G
set_option linter.unusedVariables false
set_option linter.unusedSimpArgs false
def zeroS : ByteArray := ⟨#[48]⟩
theorem idx_app (l m : B) (c : UInt8) (h : 0 ≤ idx l c) : idx (l ++ m) c = idx l c := by
  induction l with
  | nil => rw [idx_nil] at h; omega
  | cons x l ih =>
    rw [idx_cons] at h ⊢
    rw [List.cons_append, idx_cons]
    by_cases hx : x = c
    · rw [if_pos hx, if_pos hx]
    · rw [if_neg hx] at h ⊢
      rw [if_neg hx]
      by_cases h1 : idx l c = -1
      · rw [if_pos h1] at h; omega
      · rw [if_neg h1] at h
        have hg := idx_ge l c
        have := ih (by omega)
        rw [this]
theorem cutP_app (c : UInt8) : ∀ (x p y : B), cutP c p (x ++ c :: y) = cutP c p x ++ cutP c [] y := by
  intro x
  induction x with
  | nil => intro p y; simp [cutP]
  | cons z x ih =>
    intro p y
    rw [List.cons_append]
    by_cases hz : z = c
    · simp only [cutP, if_pos hz]; rw [ih]; rfl
    · simp only [cutP, if_neg hz]; rw [ih]
theorem cut_zero : cutP 46 [] [48] = [[48]] := by decide
theorem vhead_app {l : B} (m : B) (h : 0 ≤ idx l 45) : vhead (l ++ m) = vhead l := by
  have hl := idx_lt l 45
  unfold vhead
  rw [idx_app l m 45 h, if_pos h, if_pos h, List.take_append_of_le_length (by omega)]
theorem vpre_app {l : B} (h : 0 ≤ idx l 45) : vpre (l ++ [46, 48]) = vpre l ++ [zeroS] := by
  have hl := idx_lt l 45
  unfold vpre
  rw [idx_app l _ 45 h, if_pos h, if_pos h, List.drop_append_of_le_length (by omega), cutP_app, cut_zero, List.map_append]; rfl
theorem vpre_idx {l : B} (h : vpre l ≠ []) : 0 ≤ idx l 45 := by
  unfold vpre at h
  by_cases h0 : 0 ≤ idx l 45
  · exact h0
  · rw [if_neg h0] at h; exact absurd rfl h
theorem joinTail_app (r : List B) (x : B) : Lib.joinTail [46] (r ++ [x]) = Lib.joinTail [46] r ++ 46 :: x := by
  unfold Lib.joinTail; simp
theorem vtail_app {p : List ByteArray} (h : p ≠ []) : vtail (p ++ [zeroS]) = vtail p ++ [46, 48] := by
  cases p with
  | nil => exact absurd rfl h
  | cons x r =>
    unfold vtail
    rw [if_neg (by simp), if_neg (by simp), List.map_append, List.map_cons, List.cons_append, Lib.join_cons, Lib.join_cons]
    show 45 :: (L x ++ Lib.joinTail [46] (r.map L ++ [[48]])) = _
    rw [joinTail_app]; simp
theorem vtext_ok {a b c : Int} {p : List ByteArray} (h : verOk a b c p = true) : vtext a b c p = vcore a b c ++ vtail p := if_pos h
theorem vtext_no {a b c : Int} {p : List ByteArray} (h : ¬ verOk a b c p = true) : vtext a b c p = [] := if_neg h
theorem vcore_ne (a b c : Int) : vcore a b c ≠ [] := by unfold vcore; simp
theorem vtext_nil (a b c : Int) (p : List ByteArray) : vtext a b c p = [] ↔ ¬ verOk a b c p = true := by
  constructor
  · intro h e
    rw [vtext_ok e, List.append_eq_nil_iff] at h
    exact vcore_ne _ _ _ h.1
  · exact vtext_no
theorem isVer_app {l : B} {a b c : Int} {p : List ByteArray} (hr : readVer l = (a, b, c, p, true)) (hp : p ≠ []) : isVer (l ++ [46, 48]) = verOk a b c (p ++ [zeroS]) ∧ (verOk a b c (p ++ [zeroS]) = true → vtext a b c (p ++ [zeroS]) = l ++ [46, 48]) := by
  unfold readVer at hr
  split at hr
  case isFalse => exact absurd hr (by simp [zeroV])
  rename_i hc
  simp only [Prod.mk.injEq, and_true] at hr
  obtain ⟨ha, hb, hcc, hpp⟩ := hr
  rw [ha, hb, hcc, hpp] at hc
  have hi : 0 ≤ idx l 45 := vpre_idx (by rw [hpp]; exact hp)
  have hv : verOk a b c p = true := by
    by_cases e : verOk a b c p = true
    · exact e
    · have := hc.2; rw [vtext_no e] at this
      exact absurd this.symm (three_ne hc.1)
  have ht : verOk a b c (p ++ [zeroS]) = true → vtext a b c (p ++ [zeroS]) = l ++ [46, 48] := fun e => by
    rw [vtext_ok e, vtail_app hp, ← List.append_assoc, ← vtext_ok hv, hc.2]
  refine ⟨?_, ht⟩
  have h1 : ∀ i, vpart (l ++ [46, 48]) i = vpart l i := fun i => by unfold vpart; rw [vhead_app _ hi]
  unfold isVer readVer
  rw [vhead_app _ hi, vpre_app hi, h1, h1, h1, ha, hb, hcc, hpp]
  by_cases e : verOk a b c (p ++ [zeroS]) = true
  · rw [if_pos ⟨hc.1, ht e⟩, e]
  · rw [if_neg]
    · simp only [Bool.not_eq_true] at e; rw [e]; rfl
    · rintro ⟨_, h2⟩; rw [vtext_no e] at h2; simp at h2
def exactL (s : ByteArray) : List S55 :=
  if (readVer (L s)).2.2.2.2 = true then
    (if vtext (readVer (L s)).1 (readVer (L s)).2.1 (if (readVer (L s)).2.2.2.1 = [] then (readVer (L s)).2.2.1 + 1 else (readVer (L s)).2.2.1) ((readVer (L s)).2.2.2.1 ++ [zeroS]) = [] then []
     else [⟨s, S (vtext (readVer (L s)).1 (readVer (L s)).2.1 (if (readVer (L s)).2.2.2.1 = [] then (readVer (L s)).2.2.1 + 1 else (readVer (L s)).2.2.1) ((readVer (L s)).2.2.2.1 ++ [zeroS]))⟩])
  else []
theorem exactL_of {s : ByteArray} {a b c : Int} {p : List ByteArray} (h : readVer (L s) = (a, b, c, p, true)) :
    exactL s = if vtext a b (if p = [] then c + 1 else c) (p ++ [zeroS]) = [] then [] else [⟨s, S (vtext a b (if p = [] then c + 1 else c) (p ++ [zeroS]))⟩] := by
  unfold exactL; rw [h]; rfl
theorem exactL_no {s : ByteArray} (h : ¬ (readVer (L s)).2.2.2.2 = true) : exactL s = [] := by unfold exactL; rw [if_neg h]
theorem read_ok {l : B} {a b c : Int} {p : List ByteArray} (hr : readVer l = (a, b, c, p, true)) : verOk a b c p = true ∧ vtext a b c p = l := by
  unfold readVer at hr
  split at hr
  case isFalse => exact absurd hr (by simp [zeroV])
  rename_i hc
  simp only [Prod.mk.injEq, and_true] at hr
  obtain ⟨ha, hb, hcc, hpp⟩ := hr
  rw [ha, hb, hcc, hpp] at hc
  refine ⟨?_, hc.2⟩
  by_cases e : verOk a b c p = true
  · exact e
  · have := hc.2; rw [vtext_no e] at this
    exact absurd this.symm (three_ne hc.1)
theorem read_len {l : B} {a b c : Int} {p : List ByteArray} {ok : Bool} (hr : readVer l = (a, b, c, p, ok)) : p.length ≤ l.length + 1 ∧ ∀ x ∈ p, x.size ≤ l.length := by
  unfold readVer at hr
  split at hr
  · simp only [Prod.mk.injEq] at hr
    rw [← hr.2.2.2.1]; exact ⟨vpre_len l, vpre_mem l⟩
  · simp only [zeroV, Prod.mk.injEq] at hr
    rw [← hr.2.2.2.1]; simp
theorem zero_pre : preOk (L zeroS) = true := by decide +kernel
theorem verOk_zero {a b c : Int} : verOk a b c [zeroS] = verOk a b c [] := by
  unfold verOk
  simp [zero_pre]
theorem less_eq (a : Int) : spec_l02Less.f a a = some 0 := by unfold spec_l02Less.f; rw [if_neg (by omega), if_neg (by omega)]
theorem less_gt (a : Int) : spec_l02Less.f (a + 1) a = some 1 := by unfold spec_l02Less.f; rw [if_neg (by omega), if_pos (by omega)]
theorem cmp_same (a b c : Int) : Ev (fun k => spec_CompareVersion.f k a b c [] a b c []) 0 := by
  unfold spec_CompareVersion.f
  rw [less_eq, less_eq, less_eq]
  refine ev_some (ev_some (ev_some ?_))
  have st : ∀ i : Nat, i < 3 → ∀ {r : Int}, Ev (fun k => spec_CompareVersion.l0 k [0, 0, 0] ((i + 1 : Nat) : Int) a b c [] a b c []) r → Ev (fun k => spec_CompareVersion.l0 k [0, 0, 0] (i : Int) a b c [] a b c []) r := fun i hi r h => by
    refine Ev.step (fun k => ?_) h
    have e : rd [0, 0, 0] (i : Int) = 0 := by
      match i, hi with
      | 0, _ => rfl
      | 1, _ => rfl
      | 2, _ => rfl
    rw [spec_CompareVersion.l0, if_pos (by omega), if_pos (by omega), if_pos (by simp; omega), if_pos e, wa1 i (by omega)]
  refine st 0 (by omega) (st 1 (by omega) (st 2 (by omega) ?_))
  refine Ev.step (f := fun k => spec_CompareVersion.j1 k true a b c [] a b c []) (fun k => by rw [spec_CompareVersion.l0, if_neg (by omega), if_pos (by simp)]) ?_
  exact Ev.step (f := fun k => some 0) (fun k => by rw [spec_CompareVersion.j1, if_pos rfl, less_eq]; rfl) (Ev.now _)
theorem cmp_up (a b c : Int) : Ev (fun k => spec_CompareVersion.f k a b (c + 1) [] a b c []) 1 := by
  unfold spec_CompareVersion.f
  rw [less_eq, less_eq, less_gt]
  refine ev_some (ev_some (ev_some ?_))
  have st : ∀ i : Nat, i < 2 → ∀ {r : Int}, Ev (fun k => spec_CompareVersion.l0 k [0, 0, 1] ((i + 1 : Nat) : Int) a b (c + 1) [] a b c []) r → Ev (fun k => spec_CompareVersion.l0 k [0, 0, 1] (i : Int) a b (c + 1) [] a b c []) r := fun i hi r h => by
    refine Ev.step (fun k => ?_) h
    have e : rd [0, 0, 1] (i : Int) = 0 := by
      match i, hi with
      | 0, _ => rfl
      | 1, _ => rfl
    rw [spec_CompareVersion.l0, if_pos (by omega), if_pos (by omega), if_pos (by simp; omega), if_pos e, wa1 i (by omega)]
  refine st 0 (by omega) (st 1 (by omega) ?_)
  refine Ev.step (f := fun k => some 1) (fun k => ?_) (Ev.now _)
  rw [spec_CompareVersion.l0, if_pos (by omega), if_pos (by omega), if_pos (by simp), if_neg (by decide)]; rfl
theorem spec_below_ev (a b c : Int) (p : List ByteArray) (h : verOk a b c [] = true) : Ev (fun k => spec_l03Below.f k a b c p 2) (if verOk a b (c + 1) [] = true then (S (vtext a b (c + 1) [zeroS]), true) else (S [], false)) := by
  unfold spec_l03Below.f
  refine ev_some (Ev.bind (spec_Next_ev a b c [] 2 (by simp) (by simp)) ?_)
  have hn : vnext a b c [] 2 = if verOk a b (c + 1) [] = true then (a, b, c + 1, []) else (a, b, c, []) := by
    unfold vnext vup
    simp only [List.length_nil, if_pos, if_neg (show ¬ (2 : Int) = 0 by decide), if_neg (show ¬ (2 : Int) = 1 by decide)]
    by_cases e : verOk a b (c + 1) [] = true
    · rw [if_pos ⟨h, by decide, by decide, e⟩, if_pos e]
    · rw [if_neg fun z => e z.2.2.2, if_neg e]
  rw [hn]
  by_cases e : verOk a b (c + 1) [] = true
  · rw [if_pos e, if_pos e]
    refine Ev.bind (cmp_up a b c) (ev_neg (by decide) ?_)
    exact Ev.bind (spec_VersionText_ev a b (c + 1) [zeroS] (by simp) (fun x hx => by rw [List.mem_singleton] at hx; subst hx; decide)) (Ev.now _)
  · rw [if_neg e, if_neg e]
    exact Ev.bind (cmp_same a b c) (ev_pos rfl (Ev.now _))
theorem spec_Exact_ev (s : ByteArray) (hs : s.size ≤ 1048576) : Ev (fun k => spec_Exact.f k s) (exactL s) := by
  have hr := spec_ReadVersion_ev s (by omega)
  have hsz := size_L s
  unfold spec_Exact.f
  by_cases hok : (readVer (L s)).2.2.2.2 = true
  · generalize hv : readVer (L s) = v at hr hok
    obtain ⟨a, b, c, p, ok⟩ := v
    have hok' : ok = true := hok
    subst hok'
    obtain ⟨h1, h2⟩ := read_ok hv
    have h135 : (L s).length ≤ 135 := by rw [← h2]; exact vtext_len _ _ _ _
    rw [exactL_of hv]
    have hal : Ev (fun k => spec_l03Alone.f k s) (if vtext a b (if p = [] then c + 1 else c) (p ++ [zeroS]) = [] then ((⟨#[]⟩ : ByteArray), (⟨#[]⟩ : ByteArray), false) else (s, S (vtext a b (if p = [] then c + 1 else c) (p ++ [zeroS])), true)) := by
      unfold spec_l03Alone.f
      refine Ev.bind hr (ev_pos rfl ?_)
      by_cases hp : p = []
      · subst hp
        refine ev_neg (by simp) (Ev.bind (spec_below_ev a b c [] h1) ?_)
        rw [if_pos rfl, List.nil_append]
        have hz := vtext_nil a b (c + 1) [zeroS]
        rw [verOk_zero] at hz
        by_cases e : verOk a b (c + 1) [] = true
        · rw [if_pos e, if_neg (fun z => hz.1 z e)]; exact ev_pos rfl (Ev.now _)
        · rw [if_neg e, if_pos (hz.2 e)]; exact ev_neg (by simp) (Ev.now _)
      · obtain ⟨i1, i2⟩ := isVer_app hv hp
        have hz : (⟨#[46, 48]⟩ : ByteArray) = S [46, 48] := rfl
        have hs2 : s ++ (⟨#[46, 48]⟩ : ByteArray) = S (L s ++ [46, 48]) := by rw [hz]; apply L_inj; rw [L_append, L_S, L_S]
        have hr2 := spec_ReadVersion_ev (S (L s ++ [46, 48])) (by rw [size_S, List.length_append]; simp; omega)
        rw [L_S] at hr2
        refine ev_pos (by cases p with
          | nil => exact absurd rfl hp
          | cons x r => simp only [List.length_cons]; omega) (ev_pos (by omega) ?_)
        rw [hs2]
        refine Ev.bind hr2 ?_
        rw [if_neg hp]
        have hz := vtext_nil a b c (p ++ [zeroS])
        have hiv : (readVer (L s ++ [46, 48])).2.2.2.2 = verOk a b c (p ++ [zeroS]) := i1
        rw [hiv]
        by_cases e : verOk a b c (p ++ [zeroS]) = true
        · rw [if_neg (fun z => hz.1 z e), i2 e]; exact ev_pos e (Ev.now _)
        · rw [if_pos (hz.2 e)]; exact ev_neg e (Ev.now _)
    refine Ev.bind hal ?_
    by_cases e : vtext a b (if p = [] then c + 1 else c) (p ++ [zeroS]) = []
    · rw [if_pos e, if_pos e]; exact ev_neg (by simp) (Ev.now _)
    · rw [if_neg e, if_neg e]; exact ev_pos rfl (Ev.now _)
  · rw [exactL_no hok]
    refine Ev.bind (a := ((⟨#[]⟩ : ByteArray), (⟨#[]⟩ : ByteArray), false)) ?_ (ev_neg (by simp) (Ev.now _))
    unfold spec_l03Alone.f
    exact Ev.bind hr (ev_neg hok (Ev.now _))
theorem zeroPre_ev (a b c : Int) : Ev (fun k => impl_zeroPre.f k a b c) (S (vtext a b c [zeroS])) := by
  unfold impl_zeroPre.f
  exact Ev.bind (impl_VersionText_ev a b c [zeroS] (by simp) (fun x hx => by rw [List.mem_singleton] at hx; subst hx; decide)) (Ev.now _)
theorem impl_alone_ev (a b c : Int) (p : List ByteArray) (hp : p.length ≤ 1048577) (hs : ∀ x ∈ p, x.size ≤ 1099511627776) : Ev (fun k => impl_alone.f k a b c p) (S (vtext a b c p), if p = [] then S (vtext a b (wrap64 (c + 1)) [zeroS]) else S (vtext a b c (p ++ [zeroS]))) := by
  unfold impl_alone.f
  refine Ev.bind (zeroPre_ev _ _ _) ?_
  by_cases h : p = []
  · subst h
    exact ev_neg (by simp) (Ev.bind (impl_VersionText_ev a b c [] (by simp) (by simp)) (Ev.now _))
  · rw [if_neg h]
    refine ev_pos (by cases p with
      | nil => exact absurd rfl h
      | cons x r => simp only [List.length_cons]; omega) (ev_const (clone_some p (by omega)) (ev_pos (by omega) ?_))
    refine Ev.bind (impl_VersionText_ev a b c (p ++ [zeroS]) (by rw [List.length_append]; simp; omega) (fun x hx => by
      rw [List.mem_append, List.mem_singleton] at hx
      rcases hx with hx | rfl
      · exact hs x hx
      · decide)) ?_
    exact Ev.bind (impl_VersionText_ev a b c p (by omega) hs) (Ev.now _)
theorem impl_Exact_ev (s : ByteArray) (hs : s.size ≤ 1048576) : Ev (fun k => impl_Exact.f k s) (exactL s) := by
  have hr := impl_ReadVersion_ev s (by omega)
  have hsz := size_L s
  unfold impl_Exact.f
  generalize hv : readVer (L s) = v at hr
  obtain ⟨a, b, c, p, ok⟩ := v
  obtain ⟨hl, hm⟩ := read_len hv
  refine Ev.bind hr (Ev.bind (impl_alone_ev a b c p (by omega) (fun x hx => by have := hm x hx; omega)) ?_)
  cases ok with
  | false =>
    rw [exactL_no (by rw [hv]; simp)]
    exact ev_neg (by simp) (Ev.now _)
  | true =>
    obtain ⟨h1, h2⟩ := read_ok hv
    have hc := (verOk_num h1).2.2
    rw [exactL_of hv]
    refine ev_pos rfl ?_
    have e : (if p = [] then S (vtext a b (wrap64 (c + 1)) [zeroS]) else S (vtext a b c (p ++ [zeroS]))) = S (vtext a b (if p = [] then c + 1 else c) (p ++ [zeroS])) := by
      by_cases h : p = []
      · subst h; rw [if_pos rfl, if_pos rfl, w1 hc]; rfl
      · rw [if_neg h, if_neg h]
    simp only [e, toList_S, h2, S_L]
    by_cases z : vtext a b (if p = [] then c + 1 else c) (p ++ [zeroS]) = []
    · exact ev_use (ev_pos z (Ev.now _)) (if_pos z).symm
    · exact ev_use (ev_neg z (Ev.now _)) (if_neg z).symm
theorem exactL_len (s : ByteArray) : (exactL s).length ≤ 1 := by
  unfold exactL
  repeat' split
  all_goals simp
def sumLen (a : B) : Int := if a = [115, 104, 97, 49] then 20 else if a = [115, 104, 97, 50, 53, 54] ∨ a = [104, 49] then 32 else if a = [115, 104, 97, 53, 49, 50] then 64 else -1
theorem impl_sumLength_ev (a : ByteArray) : Ev (fun k => impl_sumLength.f k a) (sumLen (L a)) := by
  unfold impl_sumLength.f sumLen
  rw [toList_L]
  generalize hx : L a = x
  have step : ∀ b : Bool, Ev (fun k => impl_sumLength.j0 k a b) (if b = true then 32 else if x = [115, 104, 97, 53, 49, 50] then 64 else -1) := fun b => by
    refine Ev.step (f := fun _ => if b = true then some 32 else if x = [115, 104, 97, 53, 49, 50] then some 64 else some (-1)) (fun k => by rw [impl_sumLength.j0, toList_L, hx]) ?_
    repeat' split
    all_goals exact Ev.now _
  by_cases h1 : x = [115, 104, 97, 49]
  · rw [if_pos h1]; exact ev_pos h1 (Ev.now _)
  · rw [if_neg h1]
    refine ev_neg h1 ?_
    by_cases h2 : x = [115, 104, 97, 50, 53, 54]
    · refine ev_pos h2 (ev_use (step _) ?_)
      rw [beq_iff_eq.2 h2, if_pos rfl, if_pos (Or.inl h2)]
    · refine ev_neg h2 (ev_use (step _) ?_)
      by_cases h3 : x = [104, 49]
      · rw [beq_iff_eq.2 h3, if_pos rfl, if_pos (Or.inr h3)]
      · rw [beq_eq_false_iff_ne.2 h3, if_neg (by decide), if_neg (show ¬ (x = [115, 104, 97, 50, 53, 54] ∨ x = [104, 49]) from fun e => e.elim h2 h3)]
theorem spec_l04Long_ev (a : ByteArray) : Ev (fun k => spec_l04Long.f k a) (sumLen (L a)) := by
  unfold spec_l04Long.f sumLen
  rw [toList_L]
  generalize hx : L a = x
  have step : ∀ b : Bool, Ev (fun k => spec_l04Long.j0 k a b) (if b = true then 32 else if x = [115, 104, 97, 53, 49, 50] then 64 else -1) := fun b => by
    refine Ev.step (f := fun _ => if b = true then some 32 else if x = [115, 104, 97, 53, 49, 50] then some 64 else some (-1)) (fun k => by rw [spec_l04Long.j0, toList_L, hx]) ?_
    repeat' split
    all_goals exact Ev.now _
  by_cases h1 : x = [115, 104, 97, 49]
  · rw [if_pos h1]; exact ev_pos h1 (Ev.now _)
  · rw [if_neg h1]
    refine ev_neg h1 ?_
    by_cases h2 : x = [115, 104, 97, 50, 53, 54]
    · refine ev_pos h2 (ev_use (step _) ?_)
      rw [beq_iff_eq.2 h2, if_pos rfl, if_pos (Or.inl h2)]
    · refine ev_neg h2 (ev_use (step _) ?_)
      by_cases h3 : x = [104, 49]
      · rw [beq_iff_eq.2 h3, if_pos rfl, if_pos (Or.inr h3)]
      · rw [beq_eq_false_iff_ne.2 h3, if_neg (by decide), if_neg (show ¬ (x = [115, 104, 97, 50, 53, 54] ∨ x = [104, 49]) from fun e => e.elim h2 h3)]
def sum1 (x : S62) : Bool := decide ((x.f1.size : Int) = sumLen (L x.f0))
def sumAt (l : List S62) (i : Nat) : Bool := sum1 (l.getD i z62) && (decide (i = 0) || Op.bytesLess (L (l.getD (i - 1) z62).f0) (L (l.getD i z62).f0))
def sumsFrom (l : List S62) : Nat → Nat → Bool
  | 0, _ => true
  | d + 1, i => sumAt l i && sumsFrom l d (i + 1)
def sumsOk (l : List S62) : Bool := sumsFrom l l.length 0
theorem ask_less {l : List S62} {i : Nat} {c : Bool} {f : Nat → Option Bool} {r : Bool} (hr : Ev f r) (hi : i < l.length) {F : Nat → Option Bool}
    (hF : ∀ k, F k = if (i : Int) > 0 then (if (0 : Int) ≤ wrap64 ((i : Int) - 1) then (if wrap64 ((i : Int) - 1) < (l.length : Int) then (if (Op.bytesLess (rd_T62 l (wrap64 ((i : Int) - 1))).f0.toList (rd_T62 l (i : Int)).f0.toList) = true then f k else some false) else none) else none) else f k) (hn : l.length ≤ 1048576) :
    Ev F ((decide (i = 0) || Op.bytesLess (L (l.getD (i - 1) z62).f0) (L (l.getD i z62).f0)) && r) := by
  have e : F = fun k => if (i : Int) > 0 then (if (0 : Int) ≤ wrap64 ((i : Int) - 1) then (if wrap64 ((i : Int) - 1) < (l.length : Int) then (if (Op.bytesLess (rd_T62 l (wrap64 ((i : Int) - 1))).f0.toList (rd_T62 l (i : Int)).f0.toList) = true then f k else some false) else none) else none) else f k := funext hF
  rw [e]
  by_cases h0 : i = 0
  · rw [decide_eq_true h0, Bool.true_or, Bool.true_and]; exact ev_neg (by omega) hr
  · have w : wrap64 ((i : Int) - 1) = ((i - 1 : Nat) : Int) := by rw [w64 (by omega) (by omega)]; omega
    have e1 : rd_T62 l (((i - 1 : Nat) : Int)) = l.getD (i - 1) z62 := rfl
    have e2 : rd_T62 l (i : Int) = l.getD i z62 := rfl
    rw [decide_eq_false h0, Bool.false_or, w, e1, e2, toList_L, toList_L]
    refine ev_pos (by omega) (ev_pos (by omega) (ev_pos (by omega) ?_))
    by_cases h : Op.bytesLess (L (l.getD (i - 1) z62).f0) (L (l.getD i z62).f0) = true
    · rw [h, Bool.true_and]; exact ev_pos rfl hr
    · simp only [Bool.not_eq_true] at h; rw [h]; exact ev_neg (by simp) (Ev.now _)
theorem impl_areSums_ev (l : List S62) (hn : l.length ≤ 1048576) : Ev (fun k => impl_areSums.f k l) (sumsOk l) := by
  unfold impl_areSums.f sumsOk
  have key : ∀ d i, i + d = l.length → Ev (fun k => impl_areSums.l0 k l l (l.length : Int) (i : Int)) (sumsFrom l d i) := by
    intro d
    induction d with
    | zero => intro i hi; exact Ev.step (f := fun _ => some true) (fun k => by rw [impl_areSums.l0, if_neg (by omega)]) (Ev.now _)
    | succ d ih =>
      intro i hi
      rw [sumsFrom, sumAt, Bool.and_assoc]
      have hr := ask_less (l := l) (i := i) (c := true) (ih (i + 1) (by omega)) (by omega) (fun _ => rfl) hn
      have e2 : rd_T62 l (i : Int) = l.getD i z62 := rfl
      refine Ev.step (fun k => by rw [impl_areSums.l0, if_pos (by omega), if_pos (by omega), if_pos (by omega), wa1 i (by omega)]) ?_
      refine Ev.bind (impl_sumLength_ev _) ?_
      rw [← e2]
      by_cases h : ((rd_T62 l (i : Int)).f1.size : Int) = sumLen (L (rd_T62 l (i : Int)).f0)
      · rw [sum1, decide_eq_true h, Bool.true_and]; exact ev_pos h hr
      · rw [sum1, decide_eq_false h, Bool.false_and]; exact ev_neg h (Ev.now _)
  exact key l.length 0 (by omega)
theorem impl_PackOk_ev (a0 a1 a2 : ByteArray) (l3 : List S62) (a4 : Bool) (l5 : List ByteArray) (h0 : a0.size ≤ 1048576) (h1 : a1.size ≤ 1048576) (h2 : a2.size ≤ 1048576) (h3 : l3.length ≤ 1048576) : Ev (fun k => impl_PackOk.f k a0 a1 a2 l3 a4 l5) (nameOk (L a0) && (decide ((exactL a1).length = 1) && (plainOk (L a2) && sumsOk l3))) := by
  have hl := exactL_len a1
  unfold impl_PackOk.f
  refine Ev.bind (impl_NameOk_ev a0 h0) ?_
  by_cases c0 : nameOk (L a0) = true
  · rw [c0, Bool.true_and]
    refine ev_pos rfl (Ev.bind (impl_Exact_ev a1 h1) ?_)
    by_cases c1 : (exactL a1).length = 1
    · rw [decide_eq_true c1, Bool.true_and]
      refine ev_pos (by omega) (Ev.bind (impl_PlainOk_ev a2 (by omega)) ?_)
      by_cases c2 : plainOk (L a2) = true
      · rw [c2, Bool.true_and]; exact ev_pos rfl (Ev.bind (impl_areSums_ev l3 h3) (Ev.now _))
      · simp only [Bool.not_eq_true] at c2; rw [c2]; exact ev_neg (by simp) (Ev.now _)
    · rw [decide_eq_false c1]; exact ev_neg (by omega) (Ev.now _)
  · simp only [Bool.not_eq_true] at c0; rw [c0]; exact ev_neg (by simp) (Ev.now _)
theorem spec_PackOk_ev (a0 a1 a2 : ByteArray) (l3 : List S62) (a4 : Bool) (l5 : List ByteArray) (h0 : a0.size ≤ 1048576) (h1 : a1.size ≤ 1048576) (h2 : a2.size ≤ 1048576) (h3 : l3.length ≤ 1048576) : Ev (fun k => spec_PackOk.f k a0 a1 a2 l3 a4 l5) (nameOk (L a0) && (decide ((exactL a1).length = 1) && (plainOk (L a2) && sumsOk l3))) := by
  have hl := exactL_len a1
  have tail : Ev (fun k => (spec_NameOk.f k a0).bind fun t552 => (if t552 = true then ((spec_Exact.f k a1).bind fun t553 => (if (t553.length : Int) = 1 then ((spec_PlainOk.f k a2).bind fun t556 => (some t556)) else (some false))) else (some false))) (nameOk (L a0) && (decide ((exactL a1).length = 1) && plainOk (L a2))) := by
    refine Ev.bind (spec_NameOk_ev a0 h0) ?_
    by_cases c0 : nameOk (L a0) = true
    · rw [c0, Bool.true_and]
      refine ev_pos rfl (Ev.bind (spec_Exact_ev a1 h1) ?_)
      by_cases c1 : (exactL a1).length = 1
      · rw [decide_eq_true c1, Bool.true_and]
        exact ev_pos (by omega) (Ev.bind (spec_PlainOk_ev a2 (by omega)) (Ev.now _))
      · rw [decide_eq_false c1]; exact ev_neg (by omega) (Ev.now _)
    · simp only [Bool.not_eq_true] at c0; rw [c0]; exact ev_neg (by simp) (Ev.now _)
  have key : ∀ d i, i + d = l3.length → Ev (fun k => spec_PackOk.l0 k (i : Int) a0 a1 a2 l3 a4 l5) (sumsFrom l3 d i && (nameOk (L a0) && (decide ((exactL a1).length = 1) && plainOk (L a2)))) := by
    intro d
    induction d with
    | zero =>
      intro i hi
      rw [sumsFrom, Bool.true_and]
      exact Ev.step (fun k => by rw [spec_PackOk.l0, if_neg (by omega)]) tail
    | succ d ih =>
      intro i hi
      rw [sumsFrom, sumAt, Bool.and_assoc, Bool.and_assoc]
      have hr := ask_less (l := l3) (i := i) (c := true) (ih (i + 1) (by omega)) (by omega) (fun _ => rfl) h3
      have e2 : rd_T62 l3 (i : Int) = l3.getD i z62 := rfl
      refine Ev.step (fun k => by rw [spec_PackOk.l0, if_pos (by omega), if_pos (show (0 : Int) ≤ (i : Int) by omega), wa1 i (by omega)]) ?_
      refine Ev.bind (spec_l04Long_ev _) ?_
      rw [← e2]
      by_cases h : ((rd_T62 l3 (i : Int)).f1.size : Int) = sumLen (L (rd_T62 l3 (i : Int)).f0)
      · rw [sum1, decide_eq_true h, Bool.true_and]; exact ev_pos h.symm hr
      · rw [sum1, decide_eq_false h, Bool.false_and]; exact ev_neg (fun e => h e.symm) (Ev.now _)
  unfold spec_PackOk.f
  refine ev_use (key l3.length 0 (by omega)) ?_
  show (sumsOk l3 && _) = _
  cases sumsOk l3 <;> cases nameOk (L a0) <;> cases decide ((exactL a1).length = 1) <;> cases plainOk (L a2) <;> rfl
end Go.Proofs.YtbepbfibanmhoaaGreatDoor.U

end
section
namespace Go.Proofs.YtbepbfibanmhoaaGreatDoor.U
open Go Go.RowKit Go.Proofs.YtbepbfibanmhoaaGreatDoorW.PrintWords Go.Proofs.YtbepbfibanmhoaaGreatDoor.G
set_option linter.unusedVariables false
set_option maxRecDepth 100000
def w_Sum (f0 : ByteArray) (f1 : ByteArray) : Int := (f0.size : Int) + ((f1.size : Int) + (0))
theorem w_Sum_nonneg (f0 : ByteArray) (f1 : ByteArray) : 0 ≤ w_Sum f0 f1 := by
  unfold w_Sum
  omega
def w_SumS (l : List S79) : Int := wList (fun x => w_Sum x.f0 x.f1) l
theorem w_SumS_nonneg (l : List S79) : 0 ≤ w_SumS l := wList_nonneg fun x _ => w_Sum_nonneg _ _
theorem w_SumS_len (l : List S79) : (l.length : Int) ≤ w_SumS l := wList_len fun x _ => w_Sum_nonneg _ _
def w_Pack (f0 : ByteArray) (f1 : ByteArray) (f2 : ByteArray) (f3 : List S79) (f4 : Bool) (f5 : List ByteArray) : Int := (f0.size : Int) + ((f1.size : Int) + ((f2.size : Int) + (w_SumS f3 + (w_StringS f5 + (0)))))
theorem w_Pack_nonneg (f0 : ByteArray) (f1 : ByteArray) (f2 : ByteArray) (f3 : List S79) (f4 : Bool) (f5 : List ByteArray) : 0 ≤ w_Pack f0 f1 f2 f3 f4 f5 := by
  unfold w_Pack
  have := w_SumS_nonneg f3
  have := w_StringS_nonneg f5
  omega
theorem szSum_ok (f0 : ByteArray) (h0 : f0.size ≤ maxLen) (f1 : ByteArray) (h1 : f1.size ≤ maxLen) : Sz (fun k left => laws_szSum.f f0 f1 left) (w_Sum f0 f1) := by
  refine ⟨w_Sum_nonneg f0 f1, fun left hr => ?_⟩
  show Ev (fun k => laws_szSum.f f0 f1 left) _
  unfold laws_szSum.f w_Sum
  rw [room_sub hr h0]
  refine sz_cut' hr (by omega) fun hb hr => ?_
  rw [room_sub hr h1]
  refine sz_cut' hr (by omega) fun hb hr => ?_
  exact sz_done hr
theorem szSumS_ok (l : List S79) (h : l.length ≤ maxLen ∧ ∀ x_ ∈ l, (x_.f0.size ≤ maxLen ∧ x_.f1.size ≤ maxLen)) : Sz (fun k left => laws_szSumS.f k l left) (w_SumS l) := by
  have hs : ∀ x ∈ l, Sz (fun k left => laws_szSum.f x.f0 x.f1 left) (w_Sum x.f0 x.f1) := fun x hx => by
    have hx' := h.2 x hx
    exact szSum_ok x.f0 hx'.1 x.f1 hx'.2
  refine ⟨w_SumS_nonneg l, fun left hr => ?_⟩
  show Ev (fun k => laws_szSumS.f k l left) _
  unfold laws_szSumS.f w_SumS wList
  rw [room_sub hr h.1]
  refine sz_cut' hr (sumW_nonneg fun x hx => (hs x hx).1) fun hb hr => ?_
  refine sz_loop l z79 (fun x => w_Sum x.f0 x.f1) (fun k i st => laws_szSumS.l0 k l st i) (fun k x left => laws_szSum.f x.f0 x.f1 left) h.1 ?_ ?_ hs _ hr
  · intro k i st hi
    show laws_szSumS.l0 (k + 1) l st (i : Int) = _
    rw [laws_szSumS.l0, if_pos (by omega), if_pos (by omega)]
    rfl
  · intro k st
    show laws_szSumS.l0 (k + 1) l st (l.length : Int) = _
    rw [laws_szSumS.l0, if_neg (by omega)]
theorem szStringS_ok (l : List ByteArray) (h : l.length ≤ maxLen ∧ ∀ x_ ∈ l, x_.size ≤ maxLen) : Sz (fun k left => laws_szStringS.f k l left) (w_StringS l) := by
  have hs : ∀ x ∈ l, Sz (fun _ left => if wrap64 (left - (x.size : Int)) < 0 then some (-1) else some (wrap64 (left - (x.size : Int)))) (x.size : Int) := fun x hx => ⟨by omega, fun left hr => sz_last hr (h.2 x hx)⟩
  refine ⟨w_StringS_nonneg l, fun left hr => ?_⟩
  show Ev (fun k => laws_szStringS.f k l left) _
  unfold laws_szStringS.f w_StringS wList
  rw [room_sub hr h.1]
  refine sz_cut' hr (sumW_nonneg fun x hx => (hs x hx).1) fun hb hr => ?_
  refine sz_loop l ByteArray.empty (fun s => (s.size : Int)) (fun k i st => laws_szStringS.l0 k l st i) (fun _ x left => if wrap64 (left - (x.size : Int)) < 0 then some (-1) else some (wrap64 (left - (x.size : Int)))) h.1 ?_ ?_ hs _ hr
  · intro k i st hi
    show laws_szStringS.l0 (k + 1) l st (i : Int) = _
    rw [laws_szStringS.l0, if_pos (by omega), if_pos (by omega)]
    show (if wrap64 (st - ((l.getD i ByteArray.empty).size : Int)) < 0 then some (-1) else laws_szStringS.l0 k l (wrap64 (st - ((l.getD i ByteArray.empty).size : Int))) (wrap64 ((i : Int) + 1))) = _
    generalize wrap64 (st - ((l.getD i ByteArray.empty).size : Int)) = y
    by_cases hy : y < 0
    · simp only [if_pos hy]; rfl
    · simp only [if_neg hy]; show _ = (if y < 0 then _ else _); rw [if_neg hy]
  · intro k st
    show laws_szStringS.l0 (k + 1) l st (l.length : Int) = _
    rw [laws_szStringS.l0, if_neg (by omega)]
theorem szPack_ok (f0 : ByteArray) (h0 : f0.size ≤ maxLen) (f1 : ByteArray) (h1 : f1.size ≤ maxLen) (f2 : ByteArray) (h2 : f2.size ≤ maxLen) (f3 : List S79) (h3 : (f3.length ≤ maxLen ∧ ∀ x_ ∈ f3, (x_.f0.size ≤ maxLen ∧ x_.f1.size ≤ maxLen))) (f4 : Bool)  (f5 : List ByteArray) (h5 : (f5.length ≤ maxLen ∧ ∀ x_ ∈ f5, x_.size ≤ maxLen)) : Sz (fun k left => laws_szPack.f k f0 f1 f2 f3 f4 f5 left) (w_Pack f0 f1 f2 f3 f4 f5) := by
  refine ⟨w_Pack_nonneg f0 f1 f2 f3 f4 f5, fun left hr => ?_⟩
  show Ev (fun k => laws_szPack.f k f0 f1 f2 f3 f4 f5 left) _
  unfold laws_szPack.f w_Pack
  have nf3 := w_SumS_nonneg f3
  have nf5 := w_StringS_nonneg f5
  rw [room_sub hr h0]
  refine sz_cut' hr (by omega) fun hb hr => ?_
  rw [room_sub hr h1]
  refine sz_cut' hr (by omega) fun hb hr => ?_
  rw [room_sub hr h2]
  refine sz_cut' hr (by omega) fun hb hr => ?_
  refine sz_call (g := fun k left => laws_szSumS.f k f3 left) (szSumS_ok f3 h3) hr (by omega) fun hb hr => ?_
  refine sz_call (g := fun k left => laws_szStringS.f k f5 left) (szStringS_ok f5 h5) hr (by omega) fun hb hr => ?_
  exact sz_done hr
def t_Sum (x : S79) : S62 := ⟨x.f0, x.f1⟩
theorem toSumS_ok (l : List S79) (h : l.length ≤ maxLen ∧ ∀ x_ ∈ l, (x_.f0.size ≤ maxLen ∧ x_.f1.size ≤ maxLen)) (hw : w_SumS l ≤ 1048576) : Ev (fun k => laws_toSumS.f k l) (l.map t_Sum) := by
  have hl := w_SumS_len l
  have e : ((l.length : Int)).toNat = l.length := Int.toNat_natCast _
  unfold laws_toSumS.f
  rw [e]
  refine ev_pos (by omega) (ev_pos (by omega) ?_)
  refine to_loop l z79 _ t_Sum (fun k i st => laws_toSumS.l0 k l st i) h.1 ?_ ?_
  · intro k i st hi hs
    show laws_toSumS.l0 (k + 1) l st (i : Int) = _
    rw [laws_toSumS.l0, if_pos (by omega), if_pos (by omega)]
    show (if (i : Int) < (st.length : Int) then _ else none) = _
    rw [if_pos (by omega)]
    rfl
  · intro k st
    show laws_toSumS.l0 (k + 1) l st (l.length : Int) = _
    rw [laws_toSumS.l0, if_neg (by omega)]
theorem toStringS_ok (l : List ByteArray) (h : l.length ≤ maxLen ∧ ∀ x_ ∈ l, x_.size ≤ maxLen) (hw : w_StringS l ≤ 1048576) : Ev (fun k => laws_toStringS.f k l) (l) := by
  have hl := w_StringS_len l
  have e : ((l.length : Int)).toNat = l.length := Int.toNat_natCast _
  unfold laws_toStringS.f
  rw [e]
  refine ev_pos (by omega) (ev_pos (by omega) ?_)
  have := to_loop l ByteArray.empty (⟨#[]⟩ : ByteArray) id (fun k i st => laws_toStringS.l0 k l st i) h.1 ?_ ?_
  · rw [List.map_id] at this; exact this
  · intro k i st hi hs
    show laws_toStringS.l0 (k + 1) l st (i : Int) = _
    rw [laws_toStringS.l0, if_pos (by omega), if_pos (by omega), if_pos (by omega)]
    rfl
  · intro k st
    show laws_toStringS.l0 (k + 1) l st (l.length : Int) = _
    rw [laws_toStringS.l0, if_neg (by omega)]
theorem toPack_ok (f0 : ByteArray) (h0 : f0.size ≤ maxLen) (f1 : ByteArray) (h1 : f1.size ≤ maxLen) (f2 : ByteArray) (h2 : f2.size ≤ maxLen) (f3 : List S79) (h3 : (f3.length ≤ maxLen ∧ ∀ x_ ∈ f3, (x_.f0.size ≤ maxLen ∧ x_.f1.size ≤ maxLen))) (f4 : Bool)  (f5 : List ByteArray) (h5 : (f5.length ≤ maxLen ∧ ∀ x_ ∈ f5, x_.size ≤ maxLen)) (hw : w_Pack f0 f1 f2 f3 f4 f5 ≤ 1048576) : Ev (fun k => laws_toPack.f k f0 f1 f2 f3 f4 f5) (f0, f1, f2, (f3.map t_Sum), f4, f5) := by
  unfold laws_toPack.f
  unfold w_Pack at hw
  have nf3 := w_SumS_nonneg f3
  have nf5 := w_StringS_nonneg f5
  refine Ev.bind (toSumS_ok f3 h3 (by omega)) ?_
  refine Ev.bind (toStringS_ok f5 h5 (by omega)) ?_
  exact Ev.now _
theorem eqSum_ok (f0 : ByteArray)  (f1 : ByteArray)  : Ev (fun k => laws_eqSum.f f0 f1 f0 f1) true := by
  unfold laws_eqSum.f
  refine ev_pos rfl ?_
  refine ev_pos rfl ?_
  exact Ev.now _
theorem eqSumS_ok (l : List S62) (h : l.length ≤ maxLen) : Ev (fun k => laws_eqSumS.f k l l) true := by
  unfold laws_eqSumS.f
  refine ev_pos rfl ?_
  refine eq_loop l z62 (fun k i => laws_eqSumS.l0 k l l i) (fun k x => laws_eqSum.f x.f0 x.f1 x.f0 x.f1) h ?_ ?_ (fun x hx => eqSum_ok x.f0 x.f1)
  · intro k i hi
    show laws_eqSumS.l0 (k + 1) l l (i : Int) = _
    rw [laws_eqSumS.l0, if_pos (by omega), if_pos (by omega), if_pos (by omega)]
    rfl
  · intro k
    show laws_eqSumS.l0 (k + 1) l l (l.length : Int) = _
    rw [laws_eqSumS.l0, if_neg (by omega)]
theorem eqStringS_ok (l : List ByteArray) (h : l.length ≤ maxLen) : Ev (fun k => laws_eqStringS.f k l l) true := by
  unfold laws_eqStringS.f
  refine ev_pos rfl ?_
  refine eq_loop l ByteArray.empty (fun k i => laws_eqStringS.l0 k l l i) (fun _ x => some true) h ?_ ?_ (fun _ _ => Ev.now _)
  · intro k i hi
    show laws_eqStringS.l0 (k + 1) l l (i : Int) = _
    rw [laws_eqStringS.l0, if_pos (by omega), if_pos (by omega), if_pos (by omega), if_pos rfl]
    rfl
  · intro k
    show laws_eqStringS.l0 (k + 1) l l (l.length : Int) = _
    rw [laws_eqStringS.l0, if_neg (by omega)]
theorem eqPack_ok (f0 : ByteArray)  (f1 : ByteArray)  (f2 : ByteArray)  (f3 : List S62) (h3 : f3.length ≤ maxLen) (f4 : Bool)  (f5 : List ByteArray) (h5 : f5.length ≤ maxLen) : Ev (fun k => laws_eqPack.f k f0 f1 f2 f3 f4 f5 f0 f1 f2 f3 f4 f5) true := by
  unfold laws_eqPack.f
  refine ev_pos rfl ?_
  refine ev_pos rfl ?_
  refine ev_pos rfl ?_
  refine Ev.bind (eqSumS_ok f3 h3) ?_
  refine ev_pos rfl ?_
  refine ev_neg (by simp) ?_
  refine Ev.bind (eqStringS_ok f5 h5) ?_
  refine ev_pos rfl ?_
  exact Ev.now _
end Go.Proofs.YtbepbfibanmhoaaGreatDoor.U

end
section
namespace Go.Proofs.YtbepbfibanmhoaaGreatDoor.Pure
open Go Go.RowKit Go.Proofs.YtbepbfibanmhoaaGreatDoorW.PrintWords Go.Proofs.YtbepbfibanmhoaaGreatDoor.G Go.Proofs.YtbepbfibanmhoaaGreatDoor.U
theorem FnExactPackOk : laws_FnExactPackOk.Pure := by
  intro a0 a1 a2 l3 a4 l5 h0 h1 h2 h3 h5
  refine Ev.rounds (r := true) ?_
  unfold laws_FnExactPackOk.f
  refine law_sz (szPack_ok a0 h0 a1 h1 a2 h2 l3 h3 a4 l5 h5) fun hw => ?_
  have ht := toPack_ok a0 h0 a1 h1 a2 h2 l3 h3 a4 l5 h5 hw
  unfold w_Pack at hw
  have n3 := w_SumS_nonneg l3
  have n5 := w_StringS_nonneg l5
  have m3 := w_SumS_len l3
  have c3 : (l3.map t_Sum).length ≤ maxLen := by rw [List.length_map]; exact h3.1
  have b3 : (l3.map t_Sum).length ≤ 1048576 := by rw [List.length_map]; omega
  have hs := spec_PackOk_ev a0 a1 a2 (l3.map t_Sum) a4 l5 (by omega) (by omega) (by omega) b3
  have hi := impl_PackOk_ev a0 a1 a2 (l3.map t_Sum) a4 l5 (by omega) (by omega) (by omega) b3
  refine Ev.bind ht (Ev.bind hs (Ev.bind ht (Ev.bind hi (ev_neg (by simp) (Ev.bind ht ?_)))))
  refine Ev.bind (eqPack_ok a0 a1 a2 (l3.map t_Sum) c3 a4 l5 h5.1) ?_
  exact ev_pos rfl (Ev.now _)
end Go.Proofs.YtbepbfibanmhoaaGreatDoor.Pure

end
section
namespace Go.Proofs.YtbepbfibanmhoaaGreatDoor.fnExactPackOk
open Go.ChangeShapes Go.WideShapes Go.ChangeAt Go.RowKit Go.Proofs.YtbepbfibanmhoaaGreatDoor Go.Proofs.YtbepbfibanmhoaaGreatDoor.G Go.Proofs.YtbepbfibanmhoaaGreatDoorW.PrintWords
open Go.ChangeMaps (open_string shut_string)
set_option linter.unusedVariables false
set_option linter.unusedSimpArgs false
theorem own : ownKnob Tryz.prog.godebug = none := by kernel_rfl
theorem laidOut : laidOutB Tryz.prog = true := by kernel_rfl
theorem opens79 : Op.Opens Tryz.prog 79 k79 (fun x_ => (x_.f0.size ≤ maxLen ∧ x_.f1.size ≤ maxLen)) := Op.opens_struct (g := (fun x : S79 => (x.f0, x.f1))) (by kernel_rfl) Tryz.underlying79 (fun a => ⟨⟨a.1, a.2⟩, rfl⟩) (Op.opensF_cons rfl (Op.opens_string (by kernel_rfl) Tryz.underlying9) (Op.opensF_one rfl (Op.opens_string (by kernel_rfl) Tryz.underlying9)))
theorem opensArg0 : Op.Opens Tryz.prog 32 (Kd.iso (Kd.pair Kd.string (Kd.pair Kd.string (Kd.pair Kd.string (Kd.pair (Kd.slice 79 k79) (Kd.pair Kd.bool (Kd.slice 9 Kd.string)))))) id) (fun y_ : ByteArray × ByteArray × ByteArray × List (S79) × Bool × List ByteArray => (y_.1.size ≤ maxLen ∧ (y_.2.1.size ≤ maxLen ∧ (y_.2.2.1.size ≤ maxLen ∧ ((y_.2.2.2.1.length ≤ maxLen ∧ ∀ x_ ∈ y_.2.2.2.1, (x_.f0.size ≤ maxLen ∧ x_.f1.size ≤ maxLen)) ∧ (True ∧ (y_.2.2.2.2.2.length ≤ maxLen ∧ ∀ x_ ∈ y_.2.2.2.2.2, x_.size ≤ maxLen))))))) := Op.opens_struct (g := id) (by kernel_rfl) Tryz.underlying32 (fun a => ⟨a, rfl⟩) (Op.opensF_cons rfl (Op.opens_string (by kernel_rfl) Tryz.underlying9) (Op.opensF_cons rfl (Op.opens_string (by kernel_rfl) Tryz.underlying9) (Op.opensF_cons rfl (Op.opens_string (by kernel_rfl) Tryz.underlying9) (Op.opensF_cons rfl (Op.opens_slice (by kernel_rfl) Tryz.underlying29 opens79) (Op.opensF_cons rfl (Op.opens_bool (by kernel_rfl) Tryz.underlying4) (Op.opensF_one rfl (Op.opens_slice (by kernel_rfl) Tryz.underlying30 (Op.opens_string (by kernel_rfl) Tryz.underlying9))))))))
set_option maxRecDepth 100000 in
theorem contract (H : Type) (enc : TypeId × Value → H) (W : World) (base : Nat) (args : Array Value) (ds gs : List (DataW H)) (before : List MemPlace)
    (hval : ∀ (j : Nat) t v, Tryz.f4.params[j]? = some t → args[j]? = some v → Value.okWide Tryz.prog W .any base t v)
    (hW : DataW.Whole enc Tryz.prog Tryz.f4.params.toList Rows.fnExactPackOkSpec.vars false W args.toList ds gs before) (hFE : Glob FactE W) (hFM : Glob FactM W) (hFT : Glob FactT W) :
    Calls Tryz.prog 4 args W fun e W' => ∃ v, e = .returned v ∧ Rows.fnExactPackOkSpec.post enc Tryz.prog Tryz.f4 false true false false W args v W' := by
  have hW' := hW
  obtain ⟨p, q, hA0, hV, rfl, hfz, hnd⟩ := hW
  have hA : DataW.TrodAll enc Tryz.prog W 0 (fun _ => true) true Tryz.f4.params.toList args.toList ds p := hA0
  rw [Tryz.params4] at hA hval
  obtain ⟨v0, vs0, d0, ds0, p0, q0, hargs, rfl, rfl, h0, r0⟩ := trodAll_cons hA
  obtain ⟨rfl, rfl, rfl⟩ := trodAll_nil r0
  obtain rfl : args = #[v0] := by cases args; simp_all
  obtain ⟨rfl, rfl⟩ := trodVars_none hV
  obtain ⟨cs0, rfl, _⟩ := okWide_struct Tryz.underlying32 (hval 0 32 v0 rfl rfl)
  have k0 := h0
  have lt0 : ∀ x ∈ p0, x.block < W.heap.size := by obtain ⟨m, hm⟩ := k0; exact DataW.trod_lt m _ _ _ hm
  obtain ⟨⟨a0_0, a0_1, a0_2, l0_3, a0_4, l0_5⟩, hK0, ⟨z0_0, z0_1, z0_2, z0_3, z0_4, z0_5⟩⟩ := Op.arg_struct opensArg0 h0
  have hK0_ : ((Kd.pair Kd.string (Kd.pair Kd.string (Kd.pair Kd.string (Kd.pair (Kd.slice 79 k79) (Kd.pair Kd.bool (Kd.slice 9 Kd.string))))))).K W (a0_0, a0_1, a0_2, l0_3, a0_4, l0_5) cs0.toList := hK0
  obtain ⟨u0_0, w0_0, e0_0, kk0_0, m0_0⟩ := hK0_
  obtain rfl : u0_0 = _ := kk0_0
  obtain ⟨u0_1, w0_1, e0_1, kk0_1, m0_1⟩ := m0_0
  obtain rfl : u0_1 = _ := kk0_1
  obtain ⟨u0_2, w0_2, e0_2, kk0_2, m0_2⟩ := m0_1
  obtain rfl : u0_2 = _ := kk0_2
  obtain ⟨u0_3, w0_3, e0_3, kk0_3, m0_3⟩ := m0_2
  obtain ⟨A0_3, c0_3, rfl, hc0_3, hr0_3⟩ := kk0_3
  obtain ⟨u0_4, w0_4, e0_4, kk0_4, m0_4⟩ := m0_3
  obtain rfl : u0_4 = _ := kk0_4
  obtain ⟨A0_5, c0_5, el0_5, hc0_5, hr0_5⟩ := m0_4
  obtain rfl : cs0 = #[.string a0_0, .string a0_1, .string a0_2, .slice A0_3 l0_3.length c0_3, .bool a0_4, .slice A0_5 l0_5.length c0_5] := by
    apply Array.toList_inj.1
    rw [e0_0, e0_1, e0_2, e0_3, e0_4, el0_5]
    first | done | rfl
  clear hA0
  obtain ⟨k, h⟩ := Pure.FnExactPackOk a0_0 a0_1 a0_2 l0_3 a0_4 l0_5 z0_0 z0_1 z0_2 z0_3 z0_5
  refine (laws_FnExactPackOk.calls k a0_0 a0_1 a0_2 A0_3 c0_3 l0_3 a0_4 A0_5 c0_5 l0_5 true W hr0_3 hc0_3 hr0_5 hc0_5 hFE hFM hFT rfl h).mono fun e W' ⟨he, bel0⟩ => ?_
  have bel : Below W.heap.size W W' := bel0
  subst he
  exact ⟨_, rfl, _, _, _, [], _, [], hW', trodAll_mk1 (shut_bool Tryz.underlying4 _), (trodAll_cons_mk (Below.trod laidOut (by kernel_rfl) (of_decide_eq_true (by kernel_rfl)) k0 bel lt0) trodAll_mk0), rfl, bel.frame _, fun h => by cases h⟩
theorem laid_met (os : Os) : laidMet Tryz.prog Rows.fnExactPackOkRow.laid ((Laid.world os).forCall (fun _ _ => 0) ⟨#[], #[.agg #[.string ByteArray.empty, .string ByteArray.empty, .string ByteArray.empty, .slice none 0 0, .bool false, .slice none 0 0]], []⟩).memory :=
  laidMet_of_run' Laid.fuel (by kernel_rfl) (by kernel_rfl)
theorem reads (os : Os) {H : Type} (enc : TypeId × Value → H) : ∃ places, DataW.whole enc Tryz.prog ((Laid.world os).forCall (fun _ _ => 0) ⟨#[], #[.agg #[.string ByteArray.empty, .string ByteArray.empty, .string ByteArray.empty, .slice none 0 0, .bool false, .slice none 0 0]], []⟩).memory Tryz.f4.params.toList Rows.fnExactPackOkSpec.vars false (#[.agg #[.string ByteArray.empty, .string ByteArray.empty, .string ByteArray.empty, .slice none 0 0, .bool false, .slice none 0 0]] : Array Value).toList 8 = some ([.agg [.lit (.string []), .lit (.string []), .lit (.string []), .nil, .lit (.bool false), .nil]], [], places) :=
  ⟨[], by kernel_rfl⟩
set_option maxRecDepth 100000 in
theorem lifted (os : Os) (started : os.Started) (H : Type) (enc : TypeId × Value → H) (F : Stop.Interp) :
    ReturnsInHanded {} Tryz.checked os 4 .any ((OpenSpec.ofChange Rows.fnExactPackOkSpec).preRow enc Tryz.prog Tryz.f4 Rows.fnExactPackOkRow.domain false Rows.fnExactPackOkRow.laid) (((OpenSpec.ofChange Rows.fnExactPackOkSpec).at F).post enc Tryz.prog Tryz.f4 false true false false) := by
  obtain ⟨places, hx⟩ := reads os enc
  refine returnsInHanded_of_row (C := Tryz.checked) (s := OpenSpec.ofChange Rows.fnExactPackOkSpec) own started (by kernel_rfl) Tryz.func4
    (witness_row_atRef (enc := enc) (C := Tryz.checked) false (Laid.world os) #[.agg #[.string ByteArray.empty, .string ByteArray.empty, .string ByteArray.empty, .slice none 0 0, .bool false, .slice none 0 0]] rfl (Laid.vars os _) (Laid.heap os _) (by kernel_rfl)
      (OpenSpec.preRow_of_cond 8 hx (by kernel_rfl) (fun k hk => by cases hk) (by kernel_rfl) (laid_met os))) ?_
  intro W base args ds gs before hval hW _ _ _ hL hS _
  exact contract H enc W base args ds gs before hval hW (FactE_of hS hL (fun h => h) (by repeat (first | exact List.Mem.head _ | apply List.Mem.tail)) (by repeat (first | exact List.Mem.head _ | apply List.Mem.tail))) (FactM_of hS hL) (FactT_of hS hL (fun h => h) (by repeat (first | exact List.Mem.head _ | apply List.Mem.tail)))
theorem j10 : (Rows.fnExactPackOkRow.inPlace == Tryz.prog.inPlace 4) = true := by kernel_rfl
theorem j11 : (Rows.fnExactPackOkRow.unfollowed == Tryz.prog.unfollowed 4) = true := by kernel_rfl
theorem j12 : (Rows.fnExactPackOkRow.recurses == Tryz.prog.recurses 4) = true := by kernel_rfl
theorem j13 : (Rows.fnExactPackOkRow.named == Tryz.prog.varsNamed 4) = true := by kernel_rfl
set_option maxRecDepth 100000 in
theorem closed : joinedFacts Tryz.prog 4 Tryz.f4 (OpenSpec.ofChange Rows.fnExactPackOkSpec).bare Rows.fnExactPackOkRow = true :=
  (Facts.and_mk (Facts.and_mk (Facts.and_mk (Facts.and_mk (Facts.and_mk (Facts.and_mk (Facts.and_mk (Facts.and_mk (Facts.and_mk (Facts.and_mk (Facts.and_mk (Facts.and_mk (Facts.and_mk (Facts.and_mk (Facts.and_mk (Facts.and_mk (Facts.and_mk (Facts.and_mk (Facts.and_mk (Facts.and_mk (Facts.and_mk (Facts.and_mk (Facts.and_mk (Facts.and_mk (Facts.and_mk (Facts.and_mk (Facts.and_mk (Facts.and_mk (Facts.and_mk (Facts.and_mk (Facts.and_mk (by kernel_rfl) Facts.laidOut) Facts.mapsRowed) (by kernel_rfl)) (by kernel_rfl)) (by kernel_rfl)) (by kernel_rfl)) (by kernel_rfl)) (by kernel_rfl)) j10) j11) j12) j13) (by kernel_rfl)) (by kernel_rfl)) (by kernel_rfl)) (by kernel_rfl)) (by kernel_rfl)) (by kernel_rfl)) (by kernel_rfl)) (by kernel_rfl)) (by kernel_rfl)) (Facts.plainKeys _ rfl)) (by kernel_rfl)) Facts.heard) Facts.mayEnter) (Facts.lifts _ rfl)) (Facts.make _ rfl)) (by kernel_rfl)) (by kernel_rfl)) (by kernel_rfl)) (by kernel_rfl))
theorem goes : false = Rows.fnExactPackOkRow.goesBy Tryz.prog := by kernel_rfl
theorem said : Rows.FnExactPackOkSaid :=
  OpenClaim.holds_of_cond 4 Tryz.f4 rfl rfl rfl rfl rfl rfl rfl ⟨rfl, rfl, rfl, rfl, rfl⟩ rfl rfl rfl rfl rfl (by kernel_rfl) Tryz.func4 closed
    (of_decide_eq_true (by kernel_rfl)) (by unfold Func.isWrapper; first | (rw [if_pos (by decide +kernel)]; kernel_rfl) | (rw [if_neg (by decide +kernel)]; exact ⟨rfl, rfl⟩))
    (fun os started H enc _ F => by rw [OpenClaim.pre_eq_preRow]; exact lifted os started H enc F)
theorem plain (f : FuncId) (fn : Func) (hf : Tryz.pinned.checked.prog.funcNamed "loop.example/g00445/laws.FnExactPackOk" = some f) (hfn : Tryz.pinned.checked.prog.funcs[f]? = some fn) :
    true = Tryz.pinned.checked.prog.looks [] ∧ ∀ (j : Nat) t, fn.params[j]? = some t → Tryz.pinned.checked.prog.wantsStandIn t = false := by
  obtain rfl : f = 4 := Option.some.inj ((show Tryz.prog.funcNamed "loop.example/g00445/laws.FnExactPackOk" = some 4 by kernel_rfl).symm.trans hf) |>.symm
  obtain rfl : fn = Tryz.f4 := (Option.some.inj (Tryz.func4.symm.trans hfn)).symm
  refine ⟨Facts.looks, fun j t ht => ?_⟩
  rw [Tryz.params4] at ht
  have hm := Array.mem_of_getElem? ht
  have hall : (#[32] : Array TypeId).all (fun t => Tryz.prog.wantsStandIn t == false) = true := by kernel_rfl
  show Tryz.prog.wantsStandIn t = false
  have h1 := Array.all_eq_true'.1 hall t hm
  exact beq_iff_eq.1 h1
theorem proved : Rows.FnExactPackOkCardSaid :=
  Claim7.holds_tied_plain_at .later [] _ _ _ _ said (fun _ h => by cases h) (by kernel_rfl) (fun _ h => by cases h) fnExactPackOk_row_tie rfl ⟨rfl, rfl⟩ Facts.main rfl plain goes
end Go.Proofs.YtbepbfibanmhoaaGreatDoor.fnExactPackOk
namespace Go.Proofs.YtbepbfibanmhoaaGreatDoor
theorem fnExactPackOk_holds : Rows.FnExactPackOkCardSaid := fnExactPackOk.proved
end Go.Proofs.YtbepbfibanmhoaaGreatDoor

end
