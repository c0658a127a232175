/- A part of the proof that the law FnExactOrder answers true at every input that its row speaks of. Conditions: the row's own. -/
import Derived.Test.YtieohddolkeegaaGreatDoorMFnExactOrder7
import Derived.Test.YtieohddolkeegaaGreatDoorMFnExactOrder1
import Derived.Test.YtieohddolkeegaaGreatDoorKFnExactOrder0
import Derived.Lib.IndexMore
import Derived.Test.YtieohddolkeegaaGreatDoorMFnExactOrder0
import Derived.Test.YtieohddolkeegaaGreatDoorRows
import Derived.Test.YtieohddolkeegaaGreatDoorOp
import Derived.Test.YtieohddolkeegaaGreatDoorCards
import Derived.Test.YtieohddolkeegaaGreatDoorTie
import Derived.Test.YtieohddolkeegaaGreatDoorLaid
import Derived.Test.YtieohddolkeegaaGreatDoorFacts
import Derived.WalkKit
import Derived.ProofKit
import Derived.OpenShut
import Derived.ShutString
import Derived.ChangeOld
import Derived.Below
import Derived.SizedLaws
import Derived.Carry
import Derived.Deep.DeepHandedRow
import Derived.Deep.DeepWitnessRowRef
section
namespace Go.Proofs.YtieohddolkeegaaGreatDoor.U
open Go Go.RowKit Go.Proofs.YtieohddolkeegaaGreatDoorW.PrintWords Go.Proofs.YtieohddolkeegaaGreatDoor.G
set_option linter.unusedVariables false
set_option linter.unusedSimpArgs false
theorem cutP_mem (c : UInt8) : ∀ (l p x : B), x ∈ cutP c p l → x.length ≤ p.length + l.length := by
 intro l
 induction l with
 | nil => intro p x h; simp only [cutP, List.mem_singleton] at h; subst h; simp
 | cons y l ih =>
  intro p x h
  unfold cutP at h
  by_cases hy : y = c
  ·rw [if_pos hy, List.mem_cons] at h
   rcases h with rfl | h
   ·omega
   ·have := ih [] x h; simp at *; omega
  ·rw [if_neg hy] at h
   have := ih _ x h; simp at *; omega
def vhead (l : B) : B := if 0 ≤ idx l 45 then l.take (idx l 45).toNat else l
def vpre (l : B) : List ByteArray := if 0 ≤ idx l 45 then (cutP 46 [] (l.drop ((idx l 45).toNat + 1))).map S else []
def vpart (l : B) (i : Nat) : Int := rdec ((cutP 46 [] (vhead l)).getD i [])
def zeroV : Int × Int × Int × List ByteArray × Bool := (0, 0, 0, [], false)
def readVer (l : B) : Int × Int × Int × List ByteArray × Bool :=
 if (cutP 46 [] (vhead l)).length = 3 ∧ vtext (vpart l 0) (vpart l 1) (vpart l 2) (vpre l) = l then (vpart l 0, vpart l 1, vpart l 2, vpre l, true) else zeroV
theorem vhead_len (l : B) : (vhead l).length ≤ l.length := by
 unfold vhead; split
 ·rw [List.length_take]; omega
 ·omega
theorem vpre_len (l : B) : (vpre l).length ≤ l.length + 1 := by
 unfold vpre; split
 ·rw [List.length_map]; have := (cutP_len 46 (l.drop ((idx l 45).toNat + 1)) []).2; rw [List.length_drop] at this; omega
 ·simp
theorem vpre_mem (l : B) : ∀ x ∈ vpre l, x.size ≤ l.length := by
 intro x hx
 unfold vpre at hx
 split at hx
 ·obtain ⟨y, hy, rfl⟩ := List.mem_map.1 hx
  have := cutP_mem 46 _ [] y hy
  rw [size_S]; simp at this; omega
 ·simp at hx
theorem rd_cut (q : List B) (i : Nat) : rdOf ByteArray.empty (q.map S) (i : Int) = S (q.getD i []) := by
 show (q.map S).getD i ByteArray.empty = _
 rw [List.getD_eq_getElem?_getD, List.getD_eq_getElem?_getD, List.getElem?_map]
 cases q[i]? <;> rfl
theorem getD_len (q : List B) (i n : Nat) (h : ∀ x ∈ q, x.length ≤ n) : (q.getD i []).length ≤ n := by
 rw [List.getD_eq_getElem?_getD]
 cases e : q[i]? with
 | none => simp
 | some y => exact h y (List.mem_of_getElem? e)
theorem head_part (l : B) (i : Nat) : ((cutP 46 [] (vhead l)).getD i []).length ≤ l.length :=
 getD_len _ _ _ fun x hx => by have := cutP_mem 46 _ [] x hx; have := vhead_len l; simp at *; omega
theorem vhead_nil : vhead [] = [] := rfl
theorem three_ne {l : B} (h : (cutP 46 [] (vhead l)).length = 3) : l ≠ [] := by
 rintro rfl
 rw [vhead_nil] at h
 simp [cutP] at h
theorem spec_ReadVersion_j0 (s : ByteArray) (hs : s.size ≤ 1048576) : Ev (fun k => spec_ReadVersion.j0 k s (S (vhead (L s))) 0 0 0 (vpre (L s))) (readVer (L s)) := by
 have hsz := size_L s
 have hh := vhead_len (L s)
 have hc := spec_l01Cut_ev (S (vhead (L s))) 46 (by rw [size_S]; omega)
 rw [L_S] at hc
 have hp : ∀ i, (S ((cutP 46 [] (vhead (L s))).getD i [])).size ≤ 1099511627776 := fun i => by have := head_part (L s) i; rw [size_S]; omega
 have hd : ∀ i, Ev (fun k => spec_ReadDec.f k (S ((cutP 46 [] (vhead (L s))).getD i []))) (vpart (L s) i) := fun i => by
  have := spec_ReadDec_ev _ (hp i); rw [L_S] at this; exact this
 have r0 : rdOf ByteArray.empty ((cutP 46 [] (vhead (L s))).map S) 0 = S ((cutP 46 [] (vhead (L s))).getD 0 []) := rd_cut _ 0
 have r1 : rdOf ByteArray.empty ((cutP 46 [] (vhead (L s))).map S) 1 = S ((cutP 46 [] (vhead (L s))).getD 1 []) := rd_cut _ 1
 have r2 : rdOf ByteArray.empty ((cutP 46 [] (vhead (L s))).map S) 2 = S ((cutP 46 [] (vhead (L s))).getD 2 []) := rd_cut _ 2
 refine Ev.step (fun k => by rw [spec_ReadVersion.j0]) ?_
 refine Ev.bind hc ?_
 rw [List.length_map]
 unfold readVer
 by_cases h3 : (cutP 46 [] (vhead (L s))).length = 3
 ·refine ev_pos (by omega) (ev_pos (by omega) ?_)
  rw [r0]
  refine Ev.bind (hd 0) (ev_pos (by omega) ?_)
  rw [r1]
  refine Ev.bind (hd 1) (ev_pos (by omega) ?_)
  rw [r2]
  refine Ev.bind (hd 2) ?_
  have hv := vpre_len (L s); have hm := vpre_mem (L s)
  refine Ev.bind (spec_VersionText_ev _ _ _ _ (by omega) fun x hx => by have := hm x hx; omega) ?_
  rw [toList_S, toList_L]
  by_cases hv : vtext (vpart (L s) 0) (vpart (L s) 1) (vpart (L s) 2) (vpre (L s)) = L s
  ·exact ev_use (ev_pos hv (Ev.now _)) (if_pos ⟨h3, hv⟩).symm
  ·exact ev_use (ev_neg hv (Ev.now _)) (if_neg fun h => hv h.2).symm
 ·exact ev_use (ev_neg (by omega) (Ev.now _)) (if_neg fun h => h3 h.1).symm
theorem spec_ReadVersion_ev (s : ByteArray) (hs : s.size ≤ 1048576) : Ev (fun k => spec_ReadVersion.f k s) (readVer (L s)) := by
 have hsz := size_L s
 have h := spec_ReadVersion_j0 s hs
 have hl := idx_lt (L s) 45
 have hg := idx_ge (L s) 45
 unfold spec_ReadVersion.f
 refine Ev.bind (spec_l01At_ev s 45 (by omega)) ?_
 unfold vhead vpre at h
 by_cases h0 : 0 ≤ idx (L s) 45
 ·rw [if_pos h0, if_pos h0] at h
  have hw : wrap64 (idx (L s) 45 + 1) = (((idx (L s) 45).toNat + 1 : Nat) : Int) := by rw [w64 (by omega) (by omega)]; omega
  rw [hw]
  refine ev_pos h0 (ev_pos h0 (ev_pos (by omega) (ev_pos (by omega) (ev_pos (by omega) ?_))))
  have e1 : s.extract ((((idx (L s) 45).toNat + 1 : Nat) : Int)).toNat s.size = S ((L s).drop ((idx (L s) 45).toNat + 1)) := by
   apply L_inj; rw [L_extract, L_S, Int.toNat_natCast, size_L, List.take_of_length_le (by rw [List.length_drop]; omega)]
  have e2 : s.extract 0 (idx (L s) 45).toNat = S ((L s).take (idx (L s) 45).toNat) := by
   apply L_inj; rw [L_extract, L_S, List.drop_zero, Nat.sub_zero]
  have hc := spec_l01Cut_ev (S ((L s).drop ((idx (L s) 45).toNat + 1))) 46 (by rw [size_S, List.length_drop]; omega)
  rw [L_S] at hc
  rw [e1, e2]
  exact Ev.bind hc h
 ·rw [if_neg h0, if_neg h0, S_L] at h
  exact ev_neg h0 h
theorem impl_cut (s : ByteArray) (hs : s.size ≤ 1048576) : strings_Cut.f s (⟨#[45]⟩ : ByteArray) = some (S (vhead (L s)), (if 0 ≤ idx (L s) 45 then S ((L s).drop ((idx (L s) 45).toNat + 1)) else ByteArray.empty), decide (0 ≤ idx (L s) 45)) := by
 unfold strings_Cut.f
 rw [if_pos (by omega)]
 have e : (⟨#[45]⟩ : ByteArray).data.toList = [45] := rfl
 have e2 : s.data.toList = L s := rfl
 rw [e, e2]
 unfold Lib.cut
 rw [Lib.index_one]
 show some (_, _, _) = _
 unfold vhead
 by_cases h : 0 ≤ idx (L s) 45
 ·have h' : 0 ≤ Lib.indexByte (L s) 45 := h
  rw [if_pos h', if_pos h, if_pos h, decide_eq_true h]; rfl
 ·have h' : ¬ 0 ≤ Lib.indexByte (L s) 45 := h
  rw [if_neg h', if_neg h, if_neg h, decide_eq_false h]; rfl
theorem impl_ReadVersion_ev (s : ByteArray) (hs : s.size ≤ 1048576) : Ev (fun k => impl_ReadVersion.f k s) (readVer (L s)) := by
 have hsz := size_L s
 have hh := vhead_len (L s)
 have hl := idx_lt (L s) 45
 have hp : ∀ i, (S ((cutP 46 [] (vhead (L s))).getD i [])).size ≤ 1099511627776 := fun i => by have := head_part (L s) i; rw [size_S]; omega
 have hd : ∀ i, impl_ReadDec.f (S ((cutP 46 [] (vhead (L s))).getD i [])) = some (vpart (L s) i) := fun i => by
  have := impl_ReadDec_eq _ (hp i); rw [L_S] at this; exact this
 have r0 : rdOf ByteArray.empty ((cutP 46 [] (vhead (L s))).map S) 0 = S ((cutP 46 [] (vhead (L s))).getD 0 []) := rd_cut _ 0
 have r1 : rdOf ByteArray.empty ((cutP 46 [] (vhead (L s))).map S) 1 = S ((cutP 46 [] (vhead (L s))).getD 1 []) := rd_cut _ 1
 have r2 : rdOf ByteArray.empty ((cutP 46 [] (vhead (L s))).map S) 2 = S ((cutP 46 [] (vhead (L s))).getD 2 []) := rd_cut _ 2
 have hsp := split_one (S (vhead (L s))) 46 (by rw [size_S]; omega)
 rw [L_S] at hsp
 have e46 : (⟨#[46]⟩ : ByteArray) = S [46] := rfl
 unfold impl_ReadVersion.f
 refine ev_const (impl_cut s hs) ?_
 rw [e46]
 refine ev_const hsp ?_
 rw [List.length_map]
 unfold readVer
 by_cases h3 : (cutP 46 [] (vhead (L s))).length = 3
 ·have hne := three_ne h3
  refine ev_pos (by omega) (ev_pos (by omega) ?_)
  rw [r0]
  refine ev_const (hd 0) (ev_pos (by omega) ?_)
  rw [r1]
  refine ev_const (hd 1) (ev_pos (by omega) ?_)
  rw [r2]
  refine ev_const (hd 2) ?_
  have hv := vpre_len (L s); have hm := vpre_mem (L s)
  have ht := impl_VersionText_ev (vpart (L s) 0) (vpart (L s) 1) (vpart (L s) 2) (vpre (L s)) (by omega) fun x hx => by have := hm x hx; omega
  have fin : Ev (fun k => (impl_VersionText.f k (vpart (L s) 0) (vpart (L s) 1) (vpart (L s) 2) (vpre (L s))).bind fun t => if t.toList = s.toList then (if s.toList = ([] : List UInt8) then some (0, 0, 0, ([] : List ByteArray), false) else some (vpart (L s) 0, vpart (L s) 1, vpart (L s) 2, vpre (L s), true)) else some (0, 0, 0, ([] : List ByteArray), false)) (if (cutP 46 [] (vhead (L s))).length = 3 ∧ vtext (vpart (L s) 0) (vpart (L s) 1) (vpart (L s) 2) (vpre (L s)) = L s then (vpart (L s) 0, vpart (L s) 1, vpart (L s) 2, vpre (L s), true) else zeroV) := by
   refine Ev.bind ht ?_
   rw [toList_S, toList_L]
   by_cases hv : vtext (vpart (L s) 0) (vpart (L s) 1) (vpart (L s) 2) (vpre (L s)) = L s
   ·exact ev_use (ev_pos hv (ev_neg hne (Ev.now _))) (if_pos ⟨h3, hv⟩).symm
   ·exact ev_use (ev_neg hv (Ev.now _)) (if_neg fun h => hv h.2).symm
  by_cases h0 : 0 ≤ idx (L s) 45
  ·have hc := split_one (S ((L s).drop ((idx (L s) 45).toNat + 1))) 46 (by rw [size_S, List.length_drop]; omega)
   rw [L_S] at hc
   refine ev_pos (decide_eq_true h0) ?_
   simp only [if_pos h0]
   refine ev_const hc ?_
   have ev : vpre (L s) = (cutP 46 [] ((L s).drop ((idx (L s) 45).toNat + 1))).map S := if_pos h0
   rw [ev] at fin ⊢
   exact fin
  ·refine ev_neg (by simpa using h0) ?_
   have ev : vpre (L s) = [] := if_neg h0
   rw [ev] at fin ⊢
   exact fin
 ·exact ev_use (ev_neg (by omega) (Ev.now _)) (if_neg fun h => h3 h.1).symm
def vup (a b c : Int) (l : List ByteArray) (p : Int) : Int × Int × Int :=
 if p = 0 then (a + 1, 0, 0) else if p = 1 then (a, b + 1, 0) else (a, b, if l.length = 0 then c + 1 else c)
def vnext (a b c : Int) (l : List ByteArray) (p : Int) : Int × Int × Int × List ByteArray :=
 if verOk a b c l = true ∧ 0 ≤ p ∧ p ≤ 2 ∧ verOk (vup a b c l p).1 (vup a b c l p).2.1 (vup a b c l p).2.2 [] = true then ((vup a b c l p).1, (vup a b c l p).2.1, (vup a b c l p).2.2, []) else (a, b, c, l)
theorem verOk_num {a b c : Int} {l : List ByteArray} (h : verOk a b c l = true) : (0 ≤ a ∧ a ≤ 999999999) ∧ (0 ≤ b ∧ b ≤ 999999999) ∧ (0 ≤ c ∧ c ≤ 999999999) := by
 unfold verOk at h
 simp only [Bool.and_eq_true] at h
 exact ⟨of_decide_eq_true h.1.1.1, of_decide_eq_true h.1.1.2, of_decide_eq_true h.1.2⟩
theorem w1 {a : Int} (h : 0 ≤ a ∧ a ≤ 999999999) : wrap64 (a + 1) = a + 1 := w64 (by omega) (by omega)
theorem spec_ok (a b c : Int) : Ev (fun k => spec_VersionOk.f k a b c ([] : List ByteArray)) (verOk a b c []) := spec_VersionOk_ev a b c [] (by simp) (by simp)
theorem ask_ok {g : Nat → Option Bool} {ok : Bool} {x y : Int × Int × Int × List ByteArray} (h : Ev g ok) : Ev (fun k => (g k).bind fun t => if t = true then some x else some y) (if ok = true then x else y) := by
 refine Ev.bind h ?_
 by_cases e : ok = true
 ·exact ev_use (ev_pos e (Ev.now _)) (if_pos e).symm
 ·exact ev_use (ev_neg e (Ev.now _)) (if_neg e).symm
theorem spec_Next_ev (a b c : Int) (l : List ByteArray) (p : Int) (hl : l.length ≤ 1048576) (hs : ∀ x ∈ l, x.size ≤ 1099511627776) : Ev (fun k => spec_Next.f k a b c l p) (vnext a b c l p) := by
 unfold spec_Next.f
 refine ev_some (ev_pos (by simp only [List.length_nil]; omega) (ev_some (Ev.bind (spec_VersionOk_ev a b c l (by omega) hs) ?_)))
 rw [List.nil_append]
 unfold vnext
 by_cases h : verOk a b c l = true
 ·obtain ⟨ha, hb, hc⟩ := verOk_num h
  refine ev_pos h (ev_const (spec_l01In_eq _ _ _) ?_)
  by_cases hp : 0 ≤ p ∧ p ≤ 2
  ·rw [decide_eq_true hp]
   refine Ev.step (fun k => by rw [spec_Next.j0]) (ev_neg (by decide) ?_)
   unfold vup
   by_cases h0 : p = 0
   ·refine ev_pos h0 (ev_use (ask_ok (by rw [w1 ha]; exact spec_ok _ _ _)) ?_)
    rw [if_pos h0, w1 ha]
    by_cases e : verOk (a + 1) 0 0 [] = true
    ·rw [if_pos e, if_pos ⟨h, hp.1, hp.2, e⟩]
    ·rw [if_neg e, if_neg fun z => e z.2.2.2]
   ·refine ev_neg h0 ?_
    rw [if_neg h0]
    by_cases h1 : p = 1
    ·refine ev_pos h1 (ev_use (ask_ok (by rw [w1 hb]; exact spec_ok _ _ _)) ?_)
     rw [if_pos h1, w1 hb]
     by_cases e : verOk a (b + 1) 0 [] = true
     ·rw [if_pos e, if_pos ⟨h, hp.1, hp.2, e⟩]
     ·rw [if_neg e, if_neg fun z => e z.2.2.2]
    ·refine ev_neg h1 ?_
     rw [if_neg h1]
     by_cases h2 : l.length = 0
     ·refine ev_pos (by omega) (ev_use (ask_ok (by rw [w1 hc]; exact spec_ok _ _ _)) ?_)
      rw [if_pos h2, w1 hc]
      by_cases e : verOk a b (c + 1) [] = true
      ·rw [if_pos e, if_pos ⟨h, hp.1, hp.2, e⟩]
      ·rw [if_neg e, if_neg fun z => e z.2.2.2]
     ·refine ev_neg (by omega) (ev_use (ask_ok (spec_ok _ _ _)) ?_)
      rw [if_neg h2]
      by_cases e : verOk a b c [] = true
      ·rw [if_pos e, if_pos ⟨h, hp.1, hp.2, e⟩]
      ·rw [if_neg e, if_neg fun z => e z.2.2.2]
  ·rw [decide_eq_false hp]
   refine Ev.step (fun k => by rw [spec_Next.j0]) (ev_pos (by decide) (ev_use (Ev.now _) ?_))
   rw [if_neg fun z => hp ⟨z.2.1, z.2.2.1⟩]
 ·refine ev_neg h (Ev.step (fun k => by rw [spec_Next.j0]) (ev_pos rfl (ev_use (Ev.now _) ?_)))
  rw [if_neg fun z => h z.1]
end Go.Proofs.YtieohddolkeegaaGreatDoor.U

end
section
namespace Go.Proofs.YtieohddolkeegaaGreatDoor.U
open Go Go.RowKit Go.Proofs.YtieohddolkeegaaGreatDoorW.PrintWords Go.Proofs.YtieohddolkeegaaGreatDoor.G
set_option linter.unusedVariables false
def isVer (l : B) : Bool := (readVer l).2.2.2.2
def verOr (l : B) : Bool := isVer l || l == []
end Go.Proofs.YtieohddolkeegaaGreatDoor.U

end
section
namespace Go.Proofs.YtieohddolkeegaaGreatDoor.U
open Go Go.RowKit Go.Proofs.YtieohddolkeegaaGreatDoor.G
theorem clone_some (l : List ByteArray) (hl : l.length ≤ 1048577) : slices_Clone_string_string.f l = some l := by
 unfold slices_Clone_string_string.f; rw [if_pos (by omega)]
end Go.Proofs.YtieohddolkeegaaGreatDoor.U

end
section
namespace Go.Proofs.YtieohddolkeegaaGreatDoor.U
open Go Go.RowKit Go.Proofs.YtieohddolkeegaaGreatDoorW.PrintWords Go.Proofs.YtieohddolkeegaaGreatDoor.G
set_option linter.unusedVariables false
set_option linter.unusedSimpArgs false
def zeroS : ByteArray := ⟨#[48]⟩
theorem idx_app (l m : B) (c : UInt8) (h : 0 ≤ idx l c) : idx (l ++ m) c = idx l c := by
 induction l with
 | nil => rw [idx_nil] at h; omega
 | cons x l ih =>
  rw [idx_cons] at h ⊢
  rw [List.cons_append, idx_cons]
  by_cases hx : x = c
  ·rw [if_pos hx, if_pos hx]
  ·rw [if_neg hx] at h ⊢
   rw [if_neg hx]
   by_cases h1 : idx l c = -1
   ·rw [if_pos h1] at h; omega
   ·rw [if_neg h1] at h
    have hg := idx_ge l c
    have := ih (by omega)
    rw [this]
theorem cutP_app (c : UInt8) : ∀ (x p y : B), cutP c p (x ++ c :: y) = cutP c p x ++ cutP c [] y := by
 intro x
 induction x with
 | nil => intro p y; simp [cutP]
 | cons z x ih =>
  intro p y
  rw [List.cons_append]
  by_cases hz : z = c
  ·simp only [cutP, if_pos hz]; rw [ih]; rfl
  ·simp only [cutP, if_neg hz]; rw [ih]
theorem cut_zero : cutP 46 [] [48] = [[48]] := by decide
theorem vhead_app {l : B} (m : B) (h : 0 ≤ idx l 45) : vhead (l ++ m) = vhead l := by
 have hl := idx_lt l 45
 unfold vhead
 rw [idx_app l m 45 h, if_pos h, if_pos h, List.take_append_of_le_length (by omega)]
theorem vpre_app {l : B} (h : 0 ≤ idx l 45) : vpre (l ++ [46, 48]) = vpre l ++ [zeroS] := by
 have hl := idx_lt l 45
 unfold vpre
 rw [idx_app l _ 45 h, if_pos h, if_pos h, List.drop_append_of_le_length (by omega), cutP_app, cut_zero, List.map_append]; rfl
theorem vpre_idx {l : B} (h : vpre l ≠ []) : 0 ≤ idx l 45 := by
 unfold vpre at h
 by_cases h0 : 0 ≤ idx l 45
 ·exact h0
 ·rw [if_neg h0] at h; exact absurd rfl h
theorem joinTail_app (r : List B) (x : B) : Lib.joinTail [46] (r ++ [x]) = Lib.joinTail [46] r ++ 46 :: x := by
 unfold Lib.joinTail; simp
theorem vtail_app {p : List ByteArray} (h : p ≠ []) : vtail (p ++ [zeroS]) = vtail p ++ [46, 48] := by
 cases p with
 | nil => exact absurd rfl h
 | cons x r =>
  unfold vtail
  rw [if_neg (by simp), if_neg (by simp), List.map_append, List.map_cons, List.cons_append, Lib.join_cons, Lib.join_cons]
  show 45 :: (L x ++ Lib.joinTail [46] (r.map L ++ [[48]])) = _
  rw [joinTail_app]; simp
theorem vtext_ok {a b c : Int} {p : List ByteArray} (h : verOk a b c p = true) : vtext a b c p = vcore a b c ++ vtail p := if_pos h
theorem vtext_no {a b c : Int} {p : List ByteArray} (h : ¬ verOk a b c p = true) : vtext a b c p = [] := if_neg h
theorem vcore_ne (a b c : Int) : vcore a b c ≠ [] := by unfold vcore; simp
theorem vtext_nil (a b c : Int) (p : List ByteArray) : vtext a b c p = [] ↔ ¬ verOk a b c p = true := by
 constructor
 ·intro h e
  rw [vtext_ok e, List.append_eq_nil_iff] at h
  exact vcore_ne _ _ _ h.1
 ·exact vtext_no
theorem isVer_app {l : B} {a b c : Int} {p : List ByteArray} (hr : readVer l = (a, b, c, p, true)) (hp : p ≠ []) : isVer (l ++ [46, 48]) = verOk a b c (p ++ [zeroS]) ∧ (verOk a b c (p ++ [zeroS]) = true → vtext a b c (p ++ [zeroS]) = l ++ [46, 48]) := by
 unfold readVer at hr
 split at hr
 case isFalse => exact absurd hr (by simp [zeroV])
 rename_i hc
 simp only [Prod.mk.injEq, and_true] at hr
 obtain ⟨ha, hb, hcc, hpp⟩ := hr
 rw [ha, hb, hcc, hpp] at hc
 have hi : 0 ≤ idx l 45 := vpre_idx (by rw [hpp]; exact hp)
 have hv : verOk a b c p = true := by
  by_cases e : verOk a b c p = true
  ·exact e
  ·have := hc.2; rw [vtext_no e] at this
   exact absurd this.symm (three_ne hc.1)
 have ht : verOk a b c (p ++ [zeroS]) = true → vtext a b c (p ++ [zeroS]) = l ++ [46, 48] := fun e => by
  rw [vtext_ok e, vtail_app hp, ← List.append_assoc, ← vtext_ok hv, hc.2]
 refine ⟨?_, ht⟩
 have h1 : ∀ i, vpart (l ++ [46, 48]) i = vpart l i := fun i => by unfold vpart; rw [vhead_app _ hi]
 unfold isVer readVer
 rw [vhead_app _ hi, vpre_app hi, h1, h1, h1, ha, hb, hcc, hpp]
 by_cases e : verOk a b c (p ++ [zeroS]) = true
 ·rw [if_pos ⟨hc.1, ht e⟩, e]
 ·rw [if_neg]
  ·simp only [Bool.not_eq_true] at e; rw [e]; rfl
  ·rintro ⟨_, h2⟩; rw [vtext_no e] at h2; simp at h2
def exactL (s : ByteArray) : List S67 :=
  if (readVer (L s)).2.2.2.2 = true then
    (if vtext (readVer (L s)).1 (readVer (L s)).2.1 (if (readVer (L s)).2.2.2.1 = [] then (readVer (L s)).2.2.1 + 1 else (readVer (L s)).2.2.1) ((readVer (L s)).2.2.2.1 ++ [zeroS]) = [] then []
     else [⟨s, S (vtext (readVer (L s)).1 (readVer (L s)).2.1 (if (readVer (L s)).2.2.2.1 = [] then (readVer (L s)).2.2.1 + 1 else (readVer (L s)).2.2.1) ((readVer (L s)).2.2.2.1 ++ [zeroS]))⟩])
  else []
theorem exactL_of {s : ByteArray} {a b c : Int} {p : List ByteArray} (h : readVer (L s) = (a, b, c, p, true)) :
  exactL s = if vtext a b (if p = [] then c + 1 else c) (p ++ [zeroS]) = [] then [] else [⟨s, S (vtext a b (if p = [] then c + 1 else c) (p ++ [zeroS]))⟩] := by
 unfold exactL; rw [h]; rfl
theorem exactL_no {s : ByteArray} (h : ¬ (readVer (L s)).2.2.2.2 = true) : exactL s = [] := by unfold exactL; rw [if_neg h]
theorem read_ok {l : B} {a b c : Int} {p : List ByteArray} (hr : readVer l = (a, b, c, p, true)) : verOk a b c p = true ∧ vtext a b c p = l := by
 unfold readVer at hr
 split at hr
 case isFalse => exact absurd hr (by simp [zeroV])
 rename_i hc
 simp only [Prod.mk.injEq, and_true] at hr
 obtain ⟨ha, hb, hcc, hpp⟩ := hr
 rw [ha, hb, hcc, hpp] at hc
 refine ⟨?_, hc.2⟩
 by_cases e : verOk a b c p = true
 ·exact e
 ·have := hc.2; rw [vtext_no e] at this
  exact absurd this.symm (three_ne hc.1)
theorem read_len {l : B} {a b c : Int} {p : List ByteArray} {ok : Bool} (hr : readVer l = (a, b, c, p, ok)) : p.length ≤ l.length + 1 ∧ ∀ x ∈ p, x.size ≤ l.length := by
 unfold readVer at hr
 split at hr
 ·simp only [Prod.mk.injEq] at hr
  rw [← hr.2.2.2.1]; exact ⟨vpre_len l, vpre_mem l⟩
 ·simp only [zeroV, Prod.mk.injEq] at hr
  rw [← hr.2.2.2.1]; simp
theorem zero_pre : preOk (L zeroS) = true := by decide +kernel
theorem verOk_zero {a b c : Int} : verOk a b c [zeroS] = verOk a b c [] := by
 unfold verOk
 simp [zero_pre]
theorem less_eq (a : Int) : spec_l02Less.f a a = some 0 := by unfold spec_l02Less.f; rw [if_neg (by omega), if_neg (by omega)]
theorem less_gt (a : Int) : spec_l02Less.f (a + 1) a = some 1 := by unfold spec_l02Less.f; rw [if_neg (by omega), if_pos (by omega)]
theorem cmp_same (a b c : Int) : Ev (fun k => spec_CompareVersion.f k a b c [] a b c []) 0 := by
 unfold spec_CompareVersion.f
 rw [less_eq, less_eq, less_eq]
 refine ev_some (ev_some (ev_some ?_))
 have st : ∀ i : Nat, i < 3 → ∀ {r : Int}, Ev (fun k => spec_CompareVersion.l0 k [0, 0, 0] ((i + 1 : Nat) : Int) a b c [] a b c []) r → Ev (fun k => spec_CompareVersion.l0 k [0, 0, 0] (i : Int) a b c [] a b c []) r := fun i hi r h => by
  refine Ev.step (fun k => ?_) h
  have e : rd [0, 0, 0] (i : Int) = 0 := by
   match i, hi with
   | 0, _ => rfl
   | 1, _ => rfl
   | 2, _ => rfl
  rw [spec_CompareVersion.l0, if_pos (by omega), if_pos (by omega), if_pos (by simp; omega), if_pos e, wa1 i (by omega)]
 refine st 0 (by omega) (st 1 (by omega) (st 2 (by omega) ?_))
 refine Ev.step (f := fun k => spec_CompareVersion.j1 k true a b c [] a b c []) (fun k => by rw [spec_CompareVersion.l0, if_neg (by omega), if_pos (by simp)]) ?_
 exact Ev.step (f := fun k => some 0) (fun k => by rw [spec_CompareVersion.j1, if_pos rfl, less_eq]; rfl) (Ev.now _)
theorem cmp_up (a b c : Int) : Ev (fun k => spec_CompareVersion.f k a b (c + 1) [] a b c []) 1 := by
 unfold spec_CompareVersion.f
 rw [less_eq, less_eq, less_gt]
 refine ev_some (ev_some (ev_some ?_))
 have st : ∀ i : Nat, i < 2 → ∀ {r : Int}, Ev (fun k => spec_CompareVersion.l0 k [0, 0, 1] ((i + 1 : Nat) : Int) a b (c + 1) [] a b c []) r → Ev (fun k => spec_CompareVersion.l0 k [0, 0, 1] (i : Int) a b (c + 1) [] a b c []) r := fun i hi r h => by
  refine Ev.step (fun k => ?_) h
  have e : rd [0, 0, 1] (i : Int) = 0 := by
   match i, hi with
   | 0, _ => rfl
   | 1, _ => rfl
  rw [spec_CompareVersion.l0, if_pos (by omega), if_pos (by omega), if_pos (by simp; omega), if_pos e, wa1 i (by omega)]
 refine st 0 (by omega) (st 1 (by omega) ?_)
 refine Ev.step (f := fun k => some 1) (fun k => ?_) (Ev.now _)
 rw [spec_CompareVersion.l0, if_pos (by omega), if_pos (by omega), if_pos (by simp), if_neg (by decide)]; rfl
theorem spec_below_ev (a b c : Int) (p : List ByteArray) (h : verOk a b c [] = true) : Ev (fun k => spec_l03Below.f k a b c p 2) (if verOk a b (c + 1) [] = true then (S (vtext a b (c + 1) [zeroS]), true) else (S [], false)) := by
 unfold spec_l03Below.f
 refine ev_some (Ev.bind (spec_Next_ev a b c [] 2 (by simp) (by simp)) ?_)
 have hn : vnext a b c [] 2 = if verOk a b (c + 1) [] = true then (a, b, c + 1, []) else (a, b, c, []) := by
  unfold vnext vup
  simp only [List.length_nil, if_pos, if_neg (show ¬ (2 : Int) = 0 by decide), if_neg (show ¬ (2 : Int) = 1 by decide)]
  by_cases e : verOk a b (c + 1) [] = true
  ·rw [if_pos ⟨h, by decide, by decide, e⟩, if_pos e]
  ·rw [if_neg fun z => e z.2.2.2, if_neg e]
 rw [hn]
 by_cases e : verOk a b (c + 1) [] = true
 ·rw [if_pos e, if_pos e]
  refine Ev.bind (cmp_up a b c) (ev_neg (by decide) ?_)
  exact Ev.bind (spec_VersionText_ev a b (c + 1) [zeroS] (by simp) (fun x hx => by rw [List.mem_singleton] at hx; subst hx; decide)) (Ev.now _)
 ·rw [if_neg e, if_neg e]
  exact Ev.bind (cmp_same a b c) (ev_pos rfl (Ev.now _))
theorem spec_Exact_ev (s : ByteArray) (hs : s.size ≤ 1048576) : Ev (fun k => spec_Exact.f k s) (exactL s) := by
 have hr := spec_ReadVersion_ev s (by omega)
 have hsz := size_L s
 unfold spec_Exact.f
 by_cases hok : (readVer (L s)).2.2.2.2 = true
 ·generalize hv : readVer (L s) = v at hr hok
  obtain ⟨a, b, c, p, ok⟩ := v
  have hok' : ok = true := hok
  subst hok'
  obtain ⟨h1, h2⟩ := read_ok hv
  have h135 : (L s).length ≤ 135 := by rw [← h2]; exact vtext_len _ _ _ _
  rw [exactL_of hv]
  have hal : Ev (fun k => spec_l03Alone.f k s) (if vtext a b (if p = [] then c + 1 else c) (p ++ [zeroS]) = [] then ((⟨#[]⟩ : ByteArray), (⟨#[]⟩ : ByteArray), false) else (s, S (vtext a b (if p = [] then c + 1 else c) (p ++ [zeroS])), true)) := by
   unfold spec_l03Alone.f
   refine Ev.bind hr (ev_pos rfl ?_)
   by_cases hp : p = []
   ·subst hp
    refine ev_neg (by simp) (Ev.bind (spec_below_ev a b c [] h1) ?_)
    rw [if_pos rfl, List.nil_append]
    have hz := vtext_nil a b (c + 1) [zeroS]
    rw [verOk_zero] at hz
    by_cases e : verOk a b (c + 1) [] = true
    ·rw [if_pos e, if_neg (fun z => hz.1 z e)]; exact ev_pos rfl (Ev.now _)
    ·rw [if_neg e, if_pos (hz.2 e)]; exact ev_neg (by simp) (Ev.now _)
   ·obtain ⟨i1, i2⟩ := isVer_app hv hp
    have hz : (⟨#[46, 48]⟩ : ByteArray) = S [46, 48] := rfl
    have hs2 : s ++ (⟨#[46, 48]⟩ : ByteArray) = S (L s ++ [46, 48]) := by rw [hz]; apply L_inj; rw [L_append, L_S, L_S]
    have hr2 := spec_ReadVersion_ev (S (L s ++ [46, 48])) (by rw [size_S, List.length_append]; simp; omega)
    rw [L_S] at hr2
    refine ev_pos (by cases p with
     | nil => exact absurd rfl hp
     | cons x r => simp only [List.length_cons]; omega) (ev_pos (by omega) ?_)
    rw [hs2]
    refine Ev.bind hr2 ?_
    rw [if_neg hp]
    have hz := vtext_nil a b c (p ++ [zeroS])
    have hiv : (readVer (L s ++ [46, 48])).2.2.2.2 = verOk a b c (p ++ [zeroS]) := i1
    rw [hiv]
    by_cases e : verOk a b c (p ++ [zeroS]) = true
    ·rw [if_neg (fun z => hz.1 z e), i2 e]; exact ev_pos e (Ev.now _)
    ·rw [if_pos (hz.2 e)]; exact ev_neg e (Ev.now _)
  refine Ev.bind hal ?_
  by_cases e : vtext a b (if p = [] then c + 1 else c) (p ++ [zeroS]) = []
  ·rw [if_pos e, if_pos e]; exact ev_neg (by simp) (Ev.now _)
  ·rw [if_neg e, if_neg e]; exact ev_pos rfl (Ev.now _)
 ·rw [exactL_no hok]
  refine Ev.bind (a := ((⟨#[]⟩ : ByteArray), (⟨#[]⟩ : ByteArray), false)) ?_ (ev_neg (by simp) (Ev.now _))
  unfold spec_l03Alone.f
  exact Ev.bind hr (ev_neg hok (Ev.now _))
theorem zeroPre_ev (a b c : Int) : Ev (fun k => impl_zeroPre.f k a b c) (S (vtext a b c [zeroS])) := by
 unfold impl_zeroPre.f
 exact Ev.bind (impl_VersionText_ev a b c [zeroS] (by simp) (fun x hx => by rw [List.mem_singleton] at hx; subst hx; decide)) (Ev.now _)
theorem impl_alone_ev (a b c : Int) (p : List ByteArray) (hp : p.length ≤ 1048577) (hs : ∀ x ∈ p, x.size ≤ 1099511627776) : Ev (fun k => impl_alone.f k a b c p) (S (vtext a b c p), if p = [] then S (vtext a b (wrap64 (c + 1)) [zeroS]) else S (vtext a b c (p ++ [zeroS]))) := by
 unfold impl_alone.f
 refine Ev.bind (zeroPre_ev _ _ _) ?_
 by_cases h : p = []
 ·subst h
  exact ev_neg (by simp) (Ev.bind (impl_VersionText_ev a b c [] (by simp) (by simp)) (Ev.now _))
 ·rw [if_neg h]
  refine ev_pos (by cases p with
   | nil => exact absurd rfl h
   | cons x r => simp only [List.length_cons]; omega) (ev_const (clone_some p (by omega)) (ev_pos (by omega) ?_))
  refine Ev.bind (impl_VersionText_ev a b c (p ++ [zeroS]) (by rw [List.length_append]; simp; omega) (fun x hx => by
   rw [List.mem_append, List.mem_singleton] at hx
   rcases hx with hx | rfl
   ·exact hs x hx
   ·decide)) ?_
  exact Ev.bind (impl_VersionText_ev a b c p (by omega) hs) (Ev.now _)
theorem impl_Exact_ev (s : ByteArray) (hs : s.size ≤ 1048576) : Ev (fun k => impl_Exact.f k s) (exactL s) := by
 have hr := impl_ReadVersion_ev s (by omega)
 have hsz := size_L s
 unfold impl_Exact.f
 generalize hv : readVer (L s) = v at hr
 obtain ⟨a, b, c, p, ok⟩ := v
 obtain ⟨hl, hm⟩ := read_len hv
 refine Ev.bind hr (Ev.bind (impl_alone_ev a b c p (by omega) (fun x hx => by have := hm x hx; omega)) ?_)
 cases ok with
 | false =>
  rw [exactL_no (by rw [hv]; simp)]
  exact ev_neg (by simp) (Ev.now _)
 | true =>
  obtain ⟨h1, h2⟩ := read_ok hv
  have hc := (verOk_num h1).2.2
  rw [exactL_of hv]
  refine ev_pos rfl ?_
  have e : (if p = [] then S (vtext a b (wrap64 (c + 1)) [zeroS]) else S (vtext a b c (p ++ [zeroS]))) = S (vtext a b (if p = [] then c + 1 else c) (p ++ [zeroS])) := by
   by_cases h : p = []
   ·subst h; rw [if_pos rfl, if_pos rfl, w1 hc]; rfl
   ·rw [if_neg h, if_neg h]
  simp only [e, toList_S, h2, S_L]
  by_cases z : vtext a b (if p = [] then c + 1 else c) (p ++ [zeroS]) = []
  ·exact ev_use (ev_pos z (Ev.now _)) (if_pos z).symm
  ·exact ev_use (ev_neg z (Ev.now _)) (if_neg z).symm
theorem exactL_len (s : ByteArray) : (exactL s).length ≤ 1 := by
 unfold exactL
 repeat' split
 all_goals simp
def sumLen (a : B) : Int := if a = [115, 104, 97, 49] then 20 else if a = [115, 104, 97, 50, 53, 54] ∨ a = [104, 49] then 32 else if a = [115, 104, 97, 53, 49, 50] then 64 else -1
theorem impl_sumLength_ev (a : ByteArray) : Ev (fun k => impl_sumLength.f k a) (sumLen (L a)) := by
 unfold impl_sumLength.f sumLen
 rw [toList_L]
 generalize hx : L a = x
 have step : ∀ b : Bool, Ev (fun k => impl_sumLength.j0 k a b) (if b = true then 32 else if x = [115, 104, 97, 53, 49, 50] then 64 else -1) := fun b => by
  refine Ev.step (f := fun _ => if b = true then some 32 else if x = [115, 104, 97, 53, 49, 50] then some 64 else some (-1)) (fun k => by rw [impl_sumLength.j0, toList_L, hx]) ?_
  repeat' split
  all_goals exact Ev.now _
 by_cases h1 : x = [115, 104, 97, 49]
 ·rw [if_pos h1]; exact ev_pos h1 (Ev.now _)
 ·rw [if_neg h1]
  refine ev_neg h1 ?_
  by_cases h2 : x = [115, 104, 97, 50, 53, 54]
  ·refine ev_pos h2 (ev_use (step _) ?_)
   rw [beq_iff_eq.2 h2, if_pos rfl, if_pos (Or.inl h2)]
  ·refine ev_neg h2 (ev_use (step _) ?_)
   by_cases h3 : x = [104, 49]
   ·rw [beq_iff_eq.2 h3, if_pos rfl, if_pos (Or.inr h3)]
   ·rw [beq_eq_false_iff_ne.2 h3, if_neg (by decide), if_neg (show ¬ (x = [115, 104, 97, 50, 53, 54] ∨ x = [104, 49]) from fun e => e.elim h2 h3)]
theorem spec_l04Long_ev (a : ByteArray) : Ev (fun k => spec_l04Long.f k a) (sumLen (L a)) := by
 unfold spec_l04Long.f sumLen
 rw [toList_L]
 generalize hx : L a = x
 have step : ∀ b : Bool, Ev (fun k => spec_l04Long.j0 k a b) (if b = true then 32 else if x = [115, 104, 97, 53, 49, 50] then 64 else -1) := fun b => by
  refine Ev.step (f := fun _ => if b = true then some 32 else if x = [115, 104, 97, 53, 49, 50] then some 64 else some (-1)) (fun k => by rw [spec_l04Long.j0, toList_L, hx]) ?_
  repeat' split
  all_goals exact Ev.now _
 by_cases h1 : x = [115, 104, 97, 49]
 ·rw [if_pos h1]; exact ev_pos h1 (Ev.now _)
 ·rw [if_neg h1]
  refine ev_neg h1 ?_
  by_cases h2 : x = [115, 104, 97, 50, 53, 54]
  ·refine ev_pos h2 (ev_use (step _) ?_)
   rw [beq_iff_eq.2 h2, if_pos rfl, if_pos (Or.inl h2)]
  ·refine ev_neg h2 (ev_use (step _) ?_)
   by_cases h3 : x = [104, 49]
   ·rw [beq_iff_eq.2 h3, if_pos rfl, if_pos (Or.inr h3)]
   ·rw [beq_eq_false_iff_ne.2 h3, if_neg (by decide), if_neg (show ¬ (x = [115, 104, 97, 50, 53, 54] ∨ x = [104, 49]) from fun e => e.elim h2 h3)]
def sum1 (x : S130) : Bool := decide ((x.f1.size : Int) = sumLen (L x.f0))
def sumAt (l : List S130) (i : Nat) : Bool := sum1 (l.getD i z130) && (decide (i = 0) || Op.bytesLess (L (l.getD (i - 1) z130).f0) (L (l.getD i z130).f0))
def sumsFrom (l : List S130) : Nat → Nat → Bool
 | 0, _ => true
 | d + 1, i => sumAt l i && sumsFrom l d (i + 1)
def sumsOk (l : List S130) : Bool := sumsFrom l l.length 0
theorem ask_less {l : List S130} {i : Nat} {c : Bool} {f : Nat → Option Bool} {r : Bool} (hr : Ev f r) (hi : i < l.length) {F : Nat → Option Bool}
  (hF : ∀ k, F k = if (i : Int) > 0 then (if (0 : Int) ≤ wrap64 ((i : Int) - 1) then (if wrap64 ((i : Int) - 1) < (l.length : Int) then (if (Op.bytesLess (rd_T130 l (wrap64 ((i : Int) - 1))).f0.toList (rd_T130 l (i : Int)).f0.toList) = true then f k else some false) else none) else none) else f k) (hn : l.length ≤ 1048576) :
  Ev F ((decide (i = 0) || Op.bytesLess (L (l.getD (i - 1) z130).f0) (L (l.getD i z130).f0)) && r) := by
 have e : F = fun k => if (i : Int) > 0 then (if (0 : Int) ≤ wrap64 ((i : Int) - 1) then (if wrap64 ((i : Int) - 1) < (l.length : Int) then (if (Op.bytesLess (rd_T130 l (wrap64 ((i : Int) - 1))).f0.toList (rd_T130 l (i : Int)).f0.toList) = true then f k else some false) else none) else none) else f k := funext hF
 rw [e]
 by_cases h0 : i = 0
 ·rw [decide_eq_true h0, Bool.true_or, Bool.true_and]; exact ev_neg (by omega) hr
 ·have w : wrap64 ((i : Int) - 1) = ((i - 1 : Nat) : Int) := by rw [w64 (by omega) (by omega)]; omega
  have e1 : rd_T130 l (((i - 1 : Nat) : Int)) = l.getD (i - 1) z130 := rfl
  have e2 : rd_T130 l (i : Int) = l.getD i z130 := rfl
  rw [decide_eq_false h0, Bool.false_or, w, e1, e2, toList_L, toList_L]
  refine ev_pos (by omega) (ev_pos (by omega) (ev_pos (by omega) ?_))
  by_cases h : Op.bytesLess (L (l.getD (i - 1) z130).f0) (L (l.getD i z130).f0) = true
  ·rw [h, Bool.true_and]; exact ev_pos rfl hr
  ·simp only [Bool.not_eq_true] at h; rw [h]; exact ev_neg (by simp) (Ev.now _)
theorem impl_areSums_ev (l : List S130) (hn : l.length ≤ 1048576) : Ev (fun k => impl_areSums.f k l) (sumsOk l) := by
 unfold impl_areSums.f sumsOk
 have key : ∀ d i, i + d = l.length → Ev (fun k => impl_areSums.l0 k l l (l.length : Int) (i : Int)) (sumsFrom l d i) := by
  intro d
  induction d with
  | zero => intro i hi; exact Ev.step (f := fun _ => some true) (fun k => by rw [impl_areSums.l0, if_neg (by omega)]) (Ev.now _)
  | succ d ih =>
   intro i hi
   rw [sumsFrom, sumAt, Bool.and_assoc]
   have hr := ask_less (l := l) (i := i) (c := true) (ih (i + 1) (by omega)) (by omega) (fun _ => rfl) hn
   have e2 : rd_T130 l (i : Int) = l.getD i z130 := rfl
   refine Ev.step (fun k => by rw [impl_areSums.l0, if_pos (by omega), if_pos (by omega), if_pos (by omega), wa1 i (by omega)]) ?_
   refine Ev.bind (impl_sumLength_ev _) ?_
   rw [← e2]
   by_cases h : ((rd_T130 l (i : Int)).f1.size : Int) = sumLen (L (rd_T130 l (i : Int)).f0)
   ·rw [sum1, decide_eq_true h, Bool.true_and]; exact ev_pos h hr
   ·rw [sum1, decide_eq_false h, Bool.false_and]; exact ev_neg h (Ev.now _)
 exact key l.length 0 (by omega)
theorem impl_PackOk_ev (a0 a1 a2 : ByteArray) (l3 : List S130) (a4 : Bool) (l5 : List ByteArray) (h0 : a0.size ≤ 1048576) (h1 : a1.size ≤ 1048576) (h2 : a2.size ≤ 1048576) (h3 : l3.length ≤ 1048576) : Ev (fun k => impl_PackOk.f k a0 a1 a2 l3 a4 l5) (nameOk (L a0) && (decide ((exactL a1).length = 1) && (plainOk (L a2) && sumsOk l3))) := by
 have hl := exactL_len a1
 unfold impl_PackOk.f
 refine Ev.bind (impl_NameOk_ev a0 h0) ?_
 by_cases c0 : nameOk (L a0) = true
 ·rw [c0, Bool.true_and]
  refine ev_pos rfl (Ev.bind (impl_Exact_ev a1 h1) ?_)
  by_cases c1 : (exactL a1).length = 1
  ·rw [decide_eq_true c1, Bool.true_and]
   refine ev_pos (by omega) (Ev.bind (impl_PlainOk_ev a2 (by omega)) ?_)
   by_cases c2 : plainOk (L a2) = true
   ·rw [c2, Bool.true_and]; exact ev_pos rfl (Ev.bind (impl_areSums_ev l3 h3) (Ev.now _))
   ·simp only [Bool.not_eq_true] at c2; rw [c2]; exact ev_neg (by simp) (Ev.now _)
  ·rw [decide_eq_false c1]; exact ev_neg (by omega) (Ev.now _)
 ·simp only [Bool.not_eq_true] at c0; rw [c0]; exact ev_neg (by simp) (Ev.now _)
theorem spec_PackOk_ev (a0 a1 a2 : ByteArray) (l3 : List S130) (a4 : Bool) (l5 : List ByteArray) (h0 : a0.size ≤ 1048576) (h1 : a1.size ≤ 1048576) (h2 : a2.size ≤ 1048576) (h3 : l3.length ≤ 1048576) : Ev (fun k => spec_PackOk.f k a0 a1 a2 l3 a4 l5) (nameOk (L a0) && (decide ((exactL a1).length = 1) && (plainOk (L a2) && sumsOk l3))) := by
 have hl := exactL_len a1
 have tail : Ev (fun k => (spec_NameOk.f k a0).bind fun t552 => (if t552 = true then ((spec_Exact.f k a1).bind fun t553 => (if (t553.length : Int) = 1 then ((spec_PlainOk.f k a2).bind fun t556 => (some t556)) else (some false))) else (some false))) (nameOk (L a0) && (decide ((exactL a1).length = 1) && plainOk (L a2))) := by
  refine Ev.bind (spec_NameOk_ev a0 h0) ?_
  by_cases c0 : nameOk (L a0) = true
  ·rw [c0, Bool.true_and]
   refine ev_pos rfl (Ev.bind (spec_Exact_ev a1 h1) ?_)
   by_cases c1 : (exactL a1).length = 1
   ·rw [decide_eq_true c1, Bool.true_and]
    exact ev_pos (by omega) (Ev.bind (spec_PlainOk_ev a2 (by omega)) (Ev.now _))
   ·rw [decide_eq_false c1]; exact ev_neg (by omega) (Ev.now _)
  ·simp only [Bool.not_eq_true] at c0; rw [c0]; exact ev_neg (by simp) (Ev.now _)
 have key : ∀ d i, i + d = l3.length → Ev (fun k => spec_PackOk.l0 k (i : Int) a0 a1 a2 l3 a4 l5) (sumsFrom l3 d i && (nameOk (L a0) && (decide ((exactL a1).length = 1) && plainOk (L a2)))) := by
  intro d
  induction d with
  | zero =>
   intro i hi
   rw [sumsFrom, Bool.true_and]
   exact Ev.step (fun k => by rw [spec_PackOk.l0, if_neg (by omega)]) tail
  | succ d ih =>
   intro i hi
   rw [sumsFrom, sumAt, Bool.and_assoc, Bool.and_assoc]
   have hr := ask_less (l := l3) (i := i) (c := true) (ih (i + 1) (by omega)) (by omega) (fun _ => rfl) h3
   have e2 : rd_T130 l3 (i : Int) = l3.getD i z130 := rfl
   refine Ev.step (fun k => by rw [spec_PackOk.l0, if_pos (by omega), if_pos (show (0 : Int) ≤ (i : Int) by omega), wa1 i (by omega)]) ?_
   refine Ev.bind (spec_l04Long_ev _) ?_
   rw [← e2]
   by_cases h : ((rd_T130 l3 (i : Int)).f1.size : Int) = sumLen (L (rd_T130 l3 (i : Int)).f0)
   ·rw [sum1, decide_eq_true h, Bool.true_and]; exact ev_pos h.symm hr
   ·rw [sum1, decide_eq_false h, Bool.false_and]; exact ev_neg (fun e => h e.symm) (Ev.now _)
 unfold spec_PackOk.f
 refine ev_use (key l3.length 0 (by omega)) ?_
 show (sumsOk l3 && _) = _
 cases sumsOk l3 <;> cases nameOk (L a0) <;> cases decide ((exactL a1).length = 1) <;> cases plainOk (L a2) <;> rfl
def packOk (x : S47) : Bool := nameOk (L x.f0) && (decide ((exactL x.f1).length = 1) && (plainOk (L x.f2) && sumsOk x.f3))
theorem spec_packOk (x : S47) (h : SmallP x) : Ev (fun k => spec_PackOk.f k x.f0 x.f1 x.f2 x.f3 x.f4 x.f5) (packOk x) := spec_PackOk_ev _ _ _ _ _ _ h.1.1 h.1.2.1 h.1.2.2 h.2.1.1
theorem impl_packOk (x : S47) (h : SmallP x) : Ev (fun k => impl_PackOk.f k x.f0 x.f1 x.f2 x.f3 x.f4 x.f5) (packOk x) := impl_PackOk_ev _ _ _ _ _ _ h.1.1 h.1.2.1 h.1.2.2 h.2.1.1
def keyAt (p : List S47) (l : List ByteArray) (i : Nat) : Bool := decide (0 ≤ findL (l.getD i ByteArray.empty) p) && (decide (i = 0) || Op.bytesLess (L (l.getD (i - 1) ByteArray.empty)) (L (l.getD i ByteArray.empty)))
def keysFrom (p : List S47) (l : List ByteArray) : Nat → Nat → Bool
 | 0, _ => true
 | d + 1, i => keyAt p l i && keysFrom p l d (i + 1)
def keysOk (p : List S47) (l : List ByteArray) : Bool := keysFrom p l l.length 0
def packAt (p : List S47) (i : Nat) : Bool := packOk (p.getD i z47) && (keysOk p (p.getD i z47).f5 && (decide (i = 0) || Op.bytesLess (L (keyOf (p.getD (i - 1) z47))) (L (keyOf (p.getD i z47)))))
def packsFrom (p : List S47) : Nat → Nat → Bool
 | 0, _ => true
 | d + 1, i => packAt p i && packsFrom p d (i + 1)
def graphOk (t : List ByteArray) (p : List S47) : Bool := packsFrom p p.length 0 && (decide (p.length ≤ 40) && keysOk p t)
theorem ask_key {l : List ByteArray} {i : Nat} {f : Nat → Option Bool} {r : Bool} (hr : Ev f r) (hi : i < l.length) {F : Nat → Option Bool}
  (hF : ∀ k, F k = if (i : Int) > 0 then (if (0 : Int) ≤ wrap64 ((i : Int) - 1) then (if wrap64 ((i : Int) - 1) < (l.length : Int) then (if (Op.bytesLess (rdOf ByteArray.empty l (wrap64 ((i : Int) - 1))).toList (rdOf ByteArray.empty l (i : Int)).toList) = true then f k else some false) else none) else none) else f k) (hn : l.length ≤ 1048576) :
  Ev F ((decide (i = 0) || Op.bytesLess (L (l.getD (i - 1) ByteArray.empty)) (L (l.getD i ByteArray.empty))) && r) := by
 have e : F = fun k => if (i : Int) > 0 then (if (0 : Int) ≤ wrap64 ((i : Int) - 1) then (if wrap64 ((i : Int) - 1) < (l.length : Int) then (if (Op.bytesLess (rdOf ByteArray.empty l (wrap64 ((i : Int) - 1))).toList (rdOf ByteArray.empty l (i : Int)).toList) = true then f k else some false) else none) else none) else f k := funext hF
 rw [e]
 by_cases h0 : i = 0
 ·rw [decide_eq_true h0, Bool.true_or, Bool.true_and]; exact ev_neg (by omega) hr
 ·have w : wrap64 ((i : Int) - 1) = ((i - 1 : Nat) : Int) := by rw [w64 (by omega) (by omega)]; omega
  have e1 : rdOf ByteArray.empty l (((i - 1 : Nat) : Int)) = l.getD (i - 1) ByteArray.empty := rfl
  have e2 : rdOf ByteArray.empty l (i : Int) = l.getD i ByteArray.empty := rfl
  rw [decide_eq_false h0, Bool.false_or, w, e1, e2, toList_L, toList_L]
  refine ev_pos (by omega) (ev_pos (by omega) (ev_pos (by omega) ?_))
  by_cases h : Op.bytesLess (L (l.getD (i - 1) ByteArray.empty)) (L (l.getD i ByteArray.empty)) = true
  ·rw [h, Bool.true_and]; exact ev_pos rfl hr
  ·simp only [Bool.not_eq_true] at h; rw [h]; exact ev_neg (by simp) (Ev.now _)
theorem impl_areKeys_ev (t : List ByteArray) (p : List S47) (l : List ByteArray) (hp : p.length ≤ 1048576) (hs : ∀ x ∈ p, SmallP x) (hl : l.length ≤ 1048576) : Ev (fun k => impl_areKeys.f k t p l) (keysOk p l) := by
 unfold impl_areKeys.f keysOk
 have key : ∀ d i, i + d = l.length → Ev (fun k => impl_areKeys.l0 k l l (l.length : Int) (i : Int) t p) (keysFrom p l d i) := by
  intro d
  induction d with
  | zero => intro i hi; exact Ev.step (f := fun _ => some true) (fun k => by rw [impl_areKeys.l0, if_neg (by omega)]) (Ev.now _)
  | succ d ih =>
   intro i hi
   rw [keysFrom, keyAt, Bool.and_assoc]
   have hr := ask_key (l := l) (i := i) (ih (i + 1) (by omega)) (by omega) (fun _ => rfl) hl
   have e2 : rdOf ByteArray.empty l (i : Int) = l.getD i ByteArray.empty := rfl
   refine Ev.step (fun k => by rw [impl_areKeys.l0, if_pos (by omega), if_pos (by omega), if_pos (by omega), wa1 i (by omega)]) ?_
   refine Ev.bind (impl_Find_ev t p _ hp hs) ?_
   rw [← e2]
   by_cases h : findL (rdOf ByteArray.empty l (i : Int)) p < 0
   ·rw [decide_eq_false (show ¬ 0 ≤ findL (rdOf ByteArray.empty l (i : Int)) p by omega), Bool.false_and]; exact ev_pos h (Ev.now _)
   ·rw [decide_eq_true (show 0 ≤ findL (rdOf ByteArray.empty l (i : Int)) p by omega), Bool.true_and]; exact ev_neg h hr
 exact key l.length 0 (by omega)
theorem spec_l04Keys_ev (t : List ByteArray) (p : List S47) (l : List ByteArray) (hp : p.length ≤ 1048576) (hs : ∀ x ∈ p, SmallP x) (hl : l.length ≤ 1048576) : Ev (fun k => spec_l04Keys.f k t p l) (keysOk p l) := by
 unfold spec_l04Keys.f keysOk
 have key : ∀ d i, i + d = l.length → Ev (fun k => spec_l04Keys.l0 k l (i : Int) t p) (keysFrom p l d i) := by
  intro d
  induction d with
  | zero => intro i hi; exact Ev.step (f := fun _ => some true) (fun k => by rw [spec_l04Keys.l0, if_neg (by omega)]) (Ev.now _)
  | succ d ih =>
   intro i hi
   rw [keysFrom, keyAt, Bool.and_assoc]
   have hr := ask_key (l := l) (i := i) (ih (i + 1) (by omega)) (by omega) (fun _ => rfl) hl
   have e2 : rdOf ByteArray.empty l (i : Int) = l.getD i ByteArray.empty := rfl
   refine Ev.step (fun k => by rw [spec_l04Keys.l0, if_pos (by omega), if_pos (show (0 : Int) ≤ (i : Int) by omega), wa1 i (by omega)]) ?_
   refine Ev.bind (spec_Find_ev t p _ hp hs) ?_
   rw [← e2]
   by_cases h : findL (rdOf ByteArray.empty l (i : Int)) p < 0
   ·rw [decide_eq_false (show ¬ 0 ≤ findL (rdOf ByteArray.empty l (i : Int)) p by omega), Bool.false_and]; exact ev_pos h (Ev.now _)
   ·rw [decide_eq_true (show 0 ≤ findL (rdOf ByteArray.empty l (i : Int)) p by omega), Bool.true_and]; exact ev_neg h hr
 exact key l.length 0 (by omega)
theorem ev_and {g f : Nat → Option Bool} {a r : Bool} (hg : Ev g a) (hf : Ev f r) : Ev (fun k => (g k).bind fun t => if t = true then f k else some false) (a && r) := by
 refine Ev.bind hg ?_
 cases a with
 | true => rw [Bool.true_and]; exact ev_pos rfl hf
 | false => exact ev_neg (by simp) (Ev.now _)
theorem and_last {g : Nat → Option Bool} {a : Bool} (hg : Ev g a) (n : Nat) : Ev (fun k => if (n : Int) ≤ 40 then (g k).bind fun t => some t else some false) (decide (n ≤ 40) && a) := by
 by_cases h : n ≤ 40
 ·rw [decide_eq_true h, Bool.true_and]; exact ev_pos (by omega) (Ev.bind hg (Ev.now _))
 ·rw [decide_eq_false h]; exact ev_neg (by omega) (Ev.now _)
theorem packAt_impl (p : List S47) (i : Nat) (a b : Bool) : ((packAt p i && a) && b) = (packOk (p.getD i z47) && ((decide (i = 0) || Op.bytesLess (L (keyOf (p.getD (i - 1) z47))) (L (keyOf (p.getD i z47)))) && (keysOk p (p.getD i z47).f5 && (a && b)))) := by
 unfold packAt
 cases packOk (p.getD i z47) <;> cases keysOk p (p.getD i z47).f5 <;> cases (decide (i = 0) || Op.bytesLess (L (keyOf (p.getD (i - 1) z47))) (L (keyOf (p.getD i z47)))) <;> rfl
theorem packAt_spec (p : List S47) (i : Nat) (a b : Bool) : ((packAt p i && a) && b) = (packOk (p.getD i z47) && (keysOk p (p.getD i z47).f5 && ((decide (i = 0) || Op.bytesLess (L (keyOf (p.getD (i - 1) z47))) (L (keyOf (p.getD i z47)))) && (a && b)))) := by
 unfold packAt
 cases packOk (p.getD i z47) <;> cases keysOk p (p.getD i z47).f5 <;> cases (decide (i = 0) || Op.bytesLess (L (keyOf (p.getD (i - 1) z47))) (L (keyOf (p.getD i z47)))) <;> rfl
theorem impl_GraphOk_ev (t : List ByteArray) (p : List S47) (hp : p.length ≤ 1048576) (hs : ∀ x ∈ p, SmallP x) (ht : t.length ≤ 1048576) : Ev (fun k => impl_GraphOk.f k t p) (graphOk t p) := by
 unfold impl_GraphOk.f graphOk
 have key : ∀ d i, i + d = p.length → Ev (fun k => impl_GraphOk.l0 k p (p.length : Int) (i : Int) t p) (packsFrom p d i && (decide (p.length ≤ 40) && keysOk p t)) := by
  intro d
  induction d with
  | zero =>
   intro i hi
   rw [packsFrom, Bool.true_and]
   exact Ev.step (fun k => by rw [impl_GraphOk.l0, if_neg (by omega)]) (and_last (impl_areKeys_ev t p t hp hs ht) p.length)
  | succ d ih =>
   intro i hi
   have hm := hs _ (getD_mem p i z47 (by omega))
   have e2 : rd_T47 p (i : Int) = p.getD i z47 := rfl
   rw [packsFrom, packAt_impl]
   have tail := ev_and (impl_areKeys_ev t p _ hp hs hm.2.1.2) (ih (i + 1) (by omega))
   refine Ev.step (fun k => by rw [impl_GraphOk.l0, if_pos (by omega), if_pos (by omega), if_pos (by omega), wa1 i (by omega), e2]) ?_
   refine ev_and (impl_packOk _ hm) ?_
   by_cases h0 : i = 0
   ·rw [decide_eq_true h0, Bool.true_or, Bool.true_and]; exact ev_neg (by omega) tail
   ·have w : wrap64 ((i : Int) - 1) = ((i - 1 : Nat) : Int) := by rw [w64 (by omega) (by omega)]; omega
    have e1 : rd_T47 p (((i - 1 : Nat) : Int)) = p.getD (i - 1) z47 := rfl
    have hm1 := hs _ (getD_mem p (i - 1) z47 (by omega))
    rw [decide_eq_false h0, Bool.false_or, w, e1, key_impl _ hm, key_impl _ hm1]
    simp only [Option.bind_some, toList_L]
    refine ev_pos (by omega) (ev_pos (by omega) (ev_pos (by omega) ?_))
    by_cases h : Op.bytesLess (L (keyOf (p.getD (i - 1) z47))) (L (keyOf (p.getD i z47))) = true
    ·rw [h, Bool.true_and]; exact ev_pos rfl tail
    ·simp only [Bool.not_eq_true] at h; rw [h]; exact ev_neg (by simp) (Ev.now _)
 exact key p.length 0 (by omega)
theorem spec_GraphOk_ev (t : List ByteArray) (p : List S47) (hp : p.length ≤ 1048576) (hs : ∀ x ∈ p, SmallP x) (ht : t.length ≤ 1048576) : Ev (fun k => spec_GraphOk.f k t p) (graphOk t p) := by
 unfold spec_GraphOk.f graphOk
 have key : ∀ d i, i + d = p.length → Ev (fun k => spec_GraphOk.l0 k (i : Int) t p) (packsFrom p d i && (decide (p.length ≤ 40) && keysOk p t)) := by
  intro d
  induction d with
  | zero =>
   intro i hi
   rw [packsFrom, Bool.true_and]
   exact Ev.step (fun k => by rw [spec_GraphOk.l0, if_neg (by omega)]) (and_last (spec_l04Keys_ev t p t hp hs ht) p.length)
  | succ d ih =>
   intro i hi
   have hm := hs _ (getD_mem p i z47 (by omega))
   have e2 : rd_T47 p (i : Int) = p.getD i z47 := rfl
   rw [packsFrom, packAt_spec]
   refine Ev.step (fun k => by rw [spec_GraphOk.l0, if_pos (by omega), if_pos (show (0 : Int) ≤ (i : Int) by omega), wa1 i (by omega), e2]) ?_
   refine ev_and (spec_packOk _ hm) (ev_and (spec_l04Keys_ev t p _ hp hs hm.2.1.2) ?_)
   have tail := ih (i + 1) (by omega)
   by_cases h0 : i = 0
   ·rw [decide_eq_true h0, Bool.true_or, Bool.true_and]; exact ev_neg (by omega) tail
   ·have w : wrap64 ((i : Int) - 1) = ((i - 1 : Nat) : Int) := by rw [w64 (by omega) (by omega)]; omega
    have e1 : rd_T47 p (((i - 1 : Nat) : Int)) = p.getD (i - 1) z47 := rfl
    have hm1 := hs _ (getD_mem p (i - 1) z47 (by omega))
    rw [decide_eq_false h0, Bool.false_or, w, e1, key_spec _ hm, key_spec _ hm1]
    simp only [Option.bind_some, toList_L]
    refine ev_pos (by omega) (ev_pos (by omega) (ev_pos (by omega) ?_))
    by_cases h : Op.bytesLess (L (keyOf (p.getD (i - 1) z47))) (L (keyOf (p.getD i z47))) = true
    ·rw [h, Bool.true_and]; exact ev_pos rfl tail
    ·simp only [Bool.not_eq_true] at h; rw [h]; exact ev_neg (by simp) (Ev.now _)
 exact key p.length 0 (by omega)
def hasB (l : List ByteArray) (s : ByteArray) : Bool := l.any fun y => y.toList == s.toList
def readyP (out : List ByteArray) (x : S47) : Bool := !(hasB out (keyOf x)) && x.f5.all (hasB out)
def nextAt (p : List S47) (out : List ByteArray) : Nat → Nat → Option Nat
 | 0, _ => none
 | d + 1, i => if readyP out (p.getD i z47) = true then some i else nextAt p out d (i + 1)
def ordGo (p : List S47) : Nat → List ByteArray → List ByteArray × Bool
 | 0, out => (out, true)
 | n + 1, out => match nextAt p out p.length 0 with
  | none => (out, false)
  | some i => ordGo p n (out ++ [keyOf (p.getD i z47)])
def orderL (t : List ByteArray) (p : List S47) : List ByteArray × Bool := if graphOk t p = true then ordGo p p.length [] else ([], false)
theorem any_drop {l : List ByteArray} {i : Nat} {f : ByteArray → Bool} (h : i < l.length) : (l.drop i).any f = (f (l.getD i ByteArray.empty) || (l.drop (i + 1)).any f) := by
 rw [drop_getD l i ByteArray.empty h, List.any_cons]
theorem nextAt_lt {p : List S47} {out : List ByteArray} : ∀ {d i j}, nextAt p out d i = some j → i ≤ j ∧ j < i + d ∧ readyP out (p.getD j z47) = true
 | 0, _, _, h => by cases h
 | d + 1, i, j, h => by
  unfold nextAt at h
  split at h
  ·cases h; exact ⟨Nat.le_refl _, by omega, by assumption⟩
  ·obtain ⟨h1, h2, h3⟩ := nextAt_lt h; exact ⟨by omega, by omega, h3⟩
theorem rd_b (l : List ByteArray) (i : Nat) : rdOf ByteArray.empty l (i : Int) = l.getD i ByteArray.empty := rfl
theorem contains_ev (l : List ByteArray) (s : ByteArray) (hl : l.length ≤ 1048576) : Ev (fun k => slices_Contains_string_string.f k l s) (hasB l s) := by
 have key : ∀ d i, i + d = l.length → ∃ r : Int, Ev (fun k => slices_Index_string_string.l0 k l s (l.length : Int) (i : Int)) r ∧ decide (r ≥ 0) = (l.drop i).any fun y => y.toList == s.toList := by
  intro d
  induction d with
  | zero =>
   intro i hi
   refine ⟨-1, Ev.step (f := fun _ => some (-1)) (fun k => by rw [slices_Index_string_string.l0, if_neg (by omega)]) (Ev.now _), ?_⟩
   rw [List.drop_eq_nil_of_le (by omega)]; rfl
  | succ d ih =>
   intro i hi
   rw [any_drop (by omega)]
   by_cases h : s.toList = (l.getD i ByteArray.empty).toList
   ·refine ⟨i, Ev.step (f := fun _ => some (i : Int)) (fun k => by rw [slices_Index_string_string.l0, if_pos (by omega), if_pos (by omega), if_pos (by omega), rd_b, if_pos h]) (Ev.now _), ?_⟩
    rw [h]; simp
   ·obtain ⟨r, h1, h2⟩ := ih (i + 1) (by omega)
    refine ⟨r, Ev.step (fun k => by rw [slices_Index_string_string.l0, if_pos (by omega), if_pos (by omega), if_pos (by omega), rd_b, if_neg h, wa1 i (by omega)]) h1, ?_⟩
    rw [h2]
    have : ((l.getD i ByteArray.empty).toList == s.toList) = false := by simpa using fun e => h e.symm
    rw [this, Bool.false_or]
 obtain ⟨r, h1, h2⟩ := key l.length 0 (by omega)
 unfold slices_Contains_string_string.f slices_Index_string_string.f
 refine Ev.bind h1 ?_
 rw [h2]
 exact Ev.now _
theorem l04Has_ev (l : List ByteArray) (s : ByteArray) (hl : l.length ≤ 1048576) : Ev (fun k => spec_l04Has.f k l s) (hasB l s) := by
 have key : ∀ d i, i + d = l.length → Ev (fun k => spec_l04Has.l0 k l s (i : Int)) ((l.drop i).any fun y => y.toList == s.toList) := by
  intro d
  induction d with
  | zero =>
   intro i hi
   rw [List.drop_eq_nil_of_le (by omega)]
   exact Ev.step (f := fun _ => some false) (fun k => by rw [spec_l04Has.l0, if_neg (by omega)]) (Ev.now _)
  | succ d ih =>
   intro i hi
   rw [any_drop (by omega)]
   by_cases h : (l.getD i ByteArray.empty).toList = s.toList
   ·rw [show ((l.getD i ByteArray.empty).toList == s.toList) = true by simpa using h, Bool.true_or]
    exact Ev.step (f := fun _ => some true) (fun k => by rw [spec_l04Has.l0, if_pos (by omega), if_pos (by omega), rd_b, if_pos h]) (Ev.now _)
   ·rw [show ((l.getD i ByteArray.empty).toList == s.toList) = false by simpa using h, Bool.false_or]
    exact Ev.step (fun k => by rw [spec_l04Has.l0, if_pos (by omega), if_pos (by omega), rd_b, if_neg h, wa1 i (by omega)]) (ih (i + 1) (by omega))
 exact key l.length 0 (by omega)
theorem lacks_ev (out l : List ByteArray) (ho : out.length ≤ 1048576) (hl : l.length ≤ 1048576) : Ev (fun k => slices_ContainsFunc_string__impl_Order_1_1.f out k l) (l.any fun s => !(hasB out s)) := by
 have one : ∀ s, Ev (fun k => impl_Order_1_1.f out k s) (!(hasB out s)) := fun s => Ev.bind (contains_ev out s ho) (Ev.now _)
 have key : ∀ d i, i + d = l.length → ∃ r : Int, Ev (fun k => slices_IndexFunc_string__impl_Order_1_1.l0 out k l (l.length : Int) (i : Int)) r ∧ decide (r ≥ 0) = (l.drop i).any fun s => !(hasB out s) := by
  intro d
  induction d with
  | zero =>
   intro i hi
   refine ⟨-1, Ev.step (f := fun _ => some (-1)) (fun k => by rw [slices_IndexFunc_string__impl_Order_1_1.l0, if_neg (by omega)]) (Ev.now _), ?_⟩
   rw [List.drop_eq_nil_of_le (by omega)]; rfl
  | succ d ih =>
   intro i hi
   rw [any_drop (by omega)]
   by_cases h : (!(hasB out (l.getD i ByteArray.empty))) = true
   ·refine ⟨i, Ev.step (fun k => by rw [slices_IndexFunc_string__impl_Order_1_1.l0, if_pos (by omega), if_pos (by omega), if_pos (by omega), rd_b]) (Ev.bind (one _) (ev_pos h (Ev.now _))), ?_⟩
    rw [h]; simp
   ·obtain ⟨r, h1, h2⟩ := ih (i + 1) (by omega)
    refine ⟨r, Ev.step (fun k => by rw [slices_IndexFunc_string__impl_Order_1_1.l0, if_pos (by omega), if_pos (by omega), if_pos (by omega), rd_b, wa1 i (by omega)]) (Ev.bind (one _) (ev_neg h h1)), ?_⟩
    rw [h2]
    simp only [Bool.not_eq_true] at h
    rw [h, Bool.false_or]
 obtain ⟨r, h1, h2⟩ := key l.length 0 (by omega)
 unfold slices_ContainsFunc_string__impl_Order_1_1.f slices_IndexFunc_string__impl_Order_1_1.f
 refine Ev.bind h1 ?_
 rw [h2]
 exact Ev.now _
theorem all_any (out : List ByteArray) (l : List ByteArray) : (!(l.any fun s => !(hasB out s))) = l.all (hasB out) := by
 induction l with
 | nil => rfl
 | cons s l ih => rw [List.any_cons, List.all_cons, ← ih]; cases hasB out s <;> simp
theorem ready_ev (out : List ByteArray) (x : S47) (ho : out.length ≤ 1048576) (hs : SmallP x) : Ev (fun k => impl_Order_1.f out k x.f0 x.f1 x.f2 x.f3 x.f4 x.f5) (readyP out x) := by
 unfold impl_Order_1.f readyP
 rw [key_impl x hs]
 refine ev_some ?_
 refine Ev.bind (contains_ev out _ ho) ?_
 cases hasB out (keyOf x) with
 | true => exact ev_pos rfl (Ev.now _)
 | false =>
  refine ev_neg (by simp) ?_
  refine Ev.bind (lacks_ev out x.f5 ho hs.2.1.2) ?_
  rw [Bool.not_false, Bool.true_and, ← all_any]
  exact Ev.now _
def nextI : Option Nat → Int
 | none => -1
 | some i => i
theorem next_ev (out : List ByteArray) (p : List S47) (ho : out.length ≤ 1048576) (hp : p.length ≤ 1048576) (hs : ∀ x ∈ p, SmallP x) : Ev (fun k => impl_Pack__impl_Order_1.f out k p) (nextI (nextAt p out p.length 0)) := by
 have key : ∀ d i, i + d = p.length → Ev (fun k => impl_Pack__impl_Order_1.l0 out k p (p.length : Int) (i : Int)) (nextI (nextAt p out d i)) := by
  intro d
  induction d with
  | zero => intro i hi; exact Ev.step (f := fun _ => some (-1)) (fun k => by rw [impl_Pack__impl_Order_1.l0, if_neg (by omega)]) (Ev.now _)
  | succ d ih =>
   intro i hi
   have hm := hs _ (getD_mem p i z47 (by omega))
   have e2 : rd_T47 p (i : Int) = p.getD i z47 := rfl
   unfold nextAt
   refine Ev.step (fun k => by rw [impl_Pack__impl_Order_1.l0, if_pos (by omega), if_pos (by omega), if_pos (by omega), wa1 i (by omega), e2]) ?_
   refine Ev.bind (ready_ev out _ ho hm) ?_
   by_cases h : readyP out (p.getD i z47) = true
   ·rw [if_pos h]; exact ev_pos h (Ev.now _)
   ·rw [if_neg h]; exact ev_neg h (ih (i + 1) (by omega))
 exact key p.length 0 (by omega)
theorem impl_Order_ev (t : List ByteArray) (p : List S47) (hp : p.length ≤ 1048576) (hs : ∀ x ∈ p, SmallP x) (ht : t.length ≤ 1048576) : Ev (fun k => impl_Order.f k t p) (orderL t p) := by
 unfold impl_Order.f orderL
 refine Ev.bind (impl_GraphOk_ev t p hp hs ht) ?_
 by_cases hg : graphOk t p = true
 ·rw [if_pos hg]
  refine ev_pos hg ?_
  have key : ∀ n i (out : List ByteArray), i + n = p.length → out.length = i → Ev (fun k => impl_Order.l0 k (p.length : Int) (i : Int) t p out) (ordGo p n out) := by
   intro n
   induction n with
   | zero => intro i out hi ho; exact Ev.step (f := fun _ => some (out, true)) (fun k => by rw [impl_Order.l0, if_neg (by omega)]) (Ev.now _)
   | succ n ih =>
    intro i out hi ho
    refine Ev.step (fun k => by rw [impl_Order.l0, if_pos (by omega), wa1 i (by omega)]) ?_
    refine Ev.bind (next_ev out p (by omega) hp hs) ?_
    unfold ordGo
    cases hn : nextAt p out p.length 0 with
    | none => exact ev_pos (by show (-1 : Int) < 0; omega) (Ev.now _)
    | some j =>
     obtain ⟨_, h2, _⟩ := nextAt_lt hn
     have hm := hs _ (getD_mem p j z47 (by omega))
     have e2 : rd_T47 p (j : Int) = p.getD j z47 := rfl
     refine ev_neg (by show ¬ ((j : Nat) : Int) < 0; omega) (ev_pos (by show (0 : Int) ≤ ((j : Nat) : Int); omega) (ev_pos (by show ((j : Nat) : Int) < _; omega) ?_))
     show Ev (fun k => (impl_KeyOf.f (rd_T47 p (j : Int)).f0 (rd_T47 p (j : Int)).f1 (rd_T47 p (j : Int)).f2 (rd_T47 p (j : Int)).f3 (rd_T47 p (j : Int)).f4 (rd_T47 p (j : Int)).f5).bind _) _
     rw [e2, key_impl _ hm]
     refine ev_some (ev_pos (by omega) (ih (i + 1) _ (by omega) (by simp; omega)))
  exact key p.length 0 [] (by omega) rfl
 ·rw [if_neg hg]; exact ev_neg hg (Ev.now _)
theorem bl_cons (x y : UInt8) (xs ys : List UInt8) : Op.bytesLess (x :: xs) (y :: ys) = (decide (x < y) || (x == y && Op.bytesLess xs ys)) := rfl
theorem bl_irrefl : ∀ a : List UInt8, Op.bytesLess a a = false
 | [] => rfl
 | x :: xs => by
  rw [bl_cons, bl_irrefl xs]
  have : ¬ x < x := by rw [UInt8.lt_iff_toNat_lt]; omega
  simp [this]
theorem bl_trans : ∀ {a b c : List UInt8}, Op.bytesLess a b = true → Op.bytesLess b c = true → Op.bytesLess a c = true
 | [], [], [], h1, _ => by simp [Op.bytesLess] at h1
 | [], _ :: _, [], _, h2 => by simp [Op.bytesLess] at h2
 | [], _, _ :: _, _, _ => rfl
 | _ :: _, [], _, h1, _ => by simp [Op.bytesLess] at h1
 | _ :: _, _ :: _, [], _, h2 => by simp [Op.bytesLess] at h2
 | x :: xs, y :: ys, z :: zs, h1, h2 => by
  rw [bl_cons] at h1 h2 ⊢
  simp only [Bool.or_eq_true, decide_eq_true_eq, Bool.and_eq_true, beq_iff_eq] at h1 h2 ⊢
  simp only [UInt8.lt_iff_toNat_lt] at *
  rcases h1 with h1 | ⟨rfl, h1⟩
  ·rcases h2 with h2 | ⟨rfl, h2⟩
   ·exact .inl (by omega)
   ·exact .inl h1
  ·rcases h2 with h2 | ⟨rfl, h2⟩
   ·exact .inl h2
   ·exact .inr ⟨rfl, bl_trans h1 h2⟩
theorem packsFrom_at {p : List S47} : ∀ {d i}, packsFrom p d i = true → ∀ j, i ≤ j → j < i + d → packAt p j = true
 | 0, _, _, _, h1, h2 => by omega
 | d + 1, i, h, j, h1, h2 => by
  rw [packsFrom, Bool.and_eq_true] at h
  by_cases e : i = j
  ·subst e; exact h.1
  ·exact packsFrom_at h.2 j (by omega) (by omega)
def keyAtP (p : List S47) (i : Nat) : List UInt8 := L (keyOf (p.getD i z47))
theorem keys_asc {t : List ByteArray} {p : List S47} (h : graphOk t p = true) : ∀ i j, i < j → j < p.length → Op.bytesLess (keyAtP p i) (keyAtP p j) = true := by
 unfold graphOk at h
 rw [Bool.and_eq_true] at h
 have step : ∀ j, 0 < j → j < p.length → Op.bytesLess (keyAtP p (j - 1)) (keyAtP p j) = true := by
  intro j h0 hj
  have := packsFrom_at h.1 j (by omega) (by omega)
  unfold packAt at this
  rw [Bool.and_eq_true, Bool.and_eq_true, Bool.or_eq_true] at this
  rcases this.2.2 with h2 | h2
  ·simp at h2; omega
  ·exact h2
 intro i j
 induction j with
 | zero => intro h1; omega
 | succ j ih =>
  intro h1 h2
  have s := step (j + 1) (by omega) h2
  rw [Nat.add_sub_cancel] at s
  by_cases e : i = j
  ·subst e; exact s
  ·exact bl_trans (ih (by omega) (by omega)) s
def Apart (p : List S47) : Prop := p.Pairwise fun x y => (keyOf x).toList ≠ (keyOf y).toList
theorem apart_of {t : List ByteArray} {p : List S47} (h : graphOk t p = true) : Apart p := by
 refine List.pairwise_iff_getElem.2 fun i j hi hj hij e => ?_
 have := keys_asc h i j hij hj
 unfold keyAtP at this
 rw [List.getD_eq_getElem?_getD, List.getD_eq_getElem?_getD, List.getElem?_eq_getElem hi, List.getElem?_eq_getElem hj] at this
 simp only [Option.getD_some] at this
 rw [← toList_L, ← toList_L, e, bl_irrefl] at this
 cases this
theorem has_snoc (out : List ByteArray) (k s : ByteArray) : hasB (out ++ [k]) s = (hasB out s || k.toList == s.toList) := by
 unfold hasB
 rw [List.any_append]
 simp
def leftP (p : List S47) (out : List ByteArray) : Nat := (p.filter fun x => !(hasB out (keyOf x))).length
theorem left_step {out : List ByteArray} {x : S47} (hx : hasB out (keyOf x) = false) : ∀ {p : List S47}, Apart p → x ∈ p → leftP p (out ++ [keyOf x]) + 1 = leftP p out
 | [], _, h => by cases h
 | y :: p, ha, h => by
  obtain ⟨h1, h2⟩ := List.pairwise_cons.1 ha
  unfold leftP
  rw [List.filter_cons, List.filter_cons]
  rcases List.mem_cons.1 h with rfl | h
  ·have e1 : (!(hasB (out ++ [keyOf x]) (keyOf x))) = false := by rw [has_snoc]; simp
   have e2 : (!(hasB out (keyOf x))) = true := by rw [hx]; rfl
   rw [e1, e2]
   simp only [Bool.false_eq_true, if_false, if_true, List.length_cons]
   congr 2
   refine List.filter_congr fun z hz => ?_
   rw [has_snoc, show ((keyOf x).toList == (keyOf z).toList) = false by simpa using h1 z hz, Bool.or_false]
  ·have ih := left_step hx h2 h
   unfold leftP at ih
   rw [has_snoc, show ((keyOf x).toList == (keyOf y).toList) = false by simpa using fun e => h1 x h e.symm, Bool.or_false]
   cases hasB out (keyOf y) <;> simp only [Bool.not_true, Bool.not_false, Bool.false_eq_true, if_false, if_true, List.length_cons] <;> omega
theorem left_nil (p : List S47) : leftP p [] = p.length := by
 unfold leftP
 rw [show (p.filter fun x => !(hasB [] (keyOf x))) = p from List.filter_eq_self.2 (fun x _ => rfl)]
theorem left_zero {p : List S47} {out : List ByteArray} (h : leftP p out = 0) : nextAt p out p.length 0 = none := by
 cases hn : nextAt p out p.length 0 with
 | none => rfl
 | some j =>
  obtain ⟨_, h2, h3⟩ := nextAt_lt hn
  unfold leftP at h
  have h4 := List.filter_eq_nil_iff.1 (List.eq_nil_of_length_eq_zero h) _ (getD_mem p j z47 (by omega))
  unfold readyP at h3
  rw [Bool.and_eq_true] at h3
  exact absurd h3.1 h4
section
variable {t : List ByteArray} {p : List S47} {r : List ByteArray × Bool}
theorem spec_l2 (hp : p.length ≤ 1048576) (hs : ∀ x ∈ p, SmallP x) {out : List ByteArray} (ho : out.length ≤ 1048576) {i : Nat} (hi : i < p.length) (key : ByteArray) : ∀ d j (rd : Bool), j + d = (p.getD i z47).f5.length →
  (rd = true ∧ ((p.getD i z47).f5.drop j).all (hasB out) = true → Ev (fun k => spec_Order.l1 k (out ++ [key]) true ((i + 1 : Nat) : Int) t p) r) → (¬ (rd = true ∧ ((p.getD i z47).f5.drop j).all (hasB out) = true) → Ev (fun k => spec_Order.l1 k out false ((i + 1 : Nat) : Int) t p) r) →
  Ev (fun k => spec_Order.l2 k out false (i : Int) key rd (j : Int) t p) r := by
 have e2 : rd_T47 p (i : Int) = p.getD i z47 := rfl
 have hm := hs _ (getD_mem p i z47 hi)
 intro d
 induction d with
 | zero =>
  intro j rd hj h1 h2
  rw [List.drop_eq_nil_of_le (by omega)] at h1 h2
  have hst : ∀ k, spec_Order.l2 (k + 1) out false (i : Int) key rd (j : Int) t p = if rd = true then spec_Order.l1 k (out ++ [key]) true ((i + 1 : Nat) : Int) t p else spec_Order.l1 k out false ((i + 1 : Nat) : Int) t p := by
   intro k
   rw [spec_Order.l2, if_pos (by omega), if_pos (by omega), e2, if_neg (by omega), if_pos (show out.length < 8796093022208 by omega), wa1 i (by omega)]
  refine Ev.step hst ?_
  by_cases hr : rd = true
  ·exact ev_pos hr (h1 ⟨hr, rfl⟩)
  ·exact ev_neg hr (h2 fun h => hr h.1)
 | succ d ih =>
  intro j rd hj h1 h2
  have hst : ∀ k, spec_Order.l2 (k + 1) out false (i : Int) key rd (j : Int) t p = if rd = true then (spec_l04Has.f k out ((p.getD i z47).f5.getD j ByteArray.empty)).bind (fun t686 => spec_Order.l2 k out false (i : Int) key t686 ((j + 1 : Nat) : Int) t p) else spec_Order.l2 k out false (i : Int) key false ((j + 1 : Nat) : Int) t p := by
   intro k
   rw [spec_Order.l2, if_pos (by omega), if_pos (by omega), e2, if_pos (by omega), if_pos (show (0 : Int) ≤ (j : Int) by omega), wa1 j (by have := hm.2.1.2; omega)]
   rfl
  rw [drop_getD (p.getD i z47).f5 j ByteArray.empty (by omega), List.all_cons] at h1 h2
  refine Ev.step hst ?_
  by_cases hr : rd = true
  ·refine ev_pos hr (Ev.bind (l04Has_ev out _ ho) (ih (j + 1) _ (by omega) (fun h => h1 ⟨hr, by rw [h.1, h.2]; rfl⟩) (fun h => h2 fun h3 => h (by rw [Bool.and_eq_true] at h3; exact h3.2))))
  ·exact ev_neg hr (ih (j + 1) false (by omega) (fun h => by cases h.1) (fun _ => h2 fun h => hr h.1))
theorem spec_out {out : List ByteArray} {i : Nat} {b : Bool} (h : i < p.length → b = true) (hr : Ev (fun k => spec_Order.l0 k out b t p) r) : Ev (fun k => spec_Order.l1 k out b (i : Int) t p) r := by
 have hj : Ev (fun k => spec_Order.j2 k out b (i : Int) false t p) r := Ev.step (fun k => by rw [spec_Order.j2, if_neg (by simp)]) hr
 by_cases hi : i < p.length
 ·obtain rfl := h hi
  exact Ev.step (fun k => by rw [spec_Order.l1, if_pos (by omega)]; rfl) hj
 ·exact Ev.step (fun k => by rw [spec_Order.l1, if_neg (by omega)]) hj
theorem spec_scan (hp : p.length ≤ 1048576) (hs : ∀ x ∈ p, SmallP x) {out : List ByteArray} (ho : out.length ≤ 1048576) : ∀ d i, i + d = p.length →
  (nextAt p out d i = none → Ev (fun k => spec_Order.l0 k out false t p) r) → (∀ j, nextAt p out d i = some j → Ev (fun k => spec_Order.l0 k (out ++ [keyOf (p.getD j z47)]) true t p) r) → Ev (fun k => spec_Order.l1 k out false (i : Int) t p) r := by
 intro d
 induction d with
 | zero => intro i hi h1 h2; exact spec_out (fun h => by omega) (h1 rfl)
 | succ d ih =>
  intro i hi h1 h2
  have e2 : rd_T47 p (i : Int) = p.getD i z47 := rfl
  have hm := hs _ (getD_mem p i z47 (by omega))
  unfold nextAt at h1 h2
  refine Ev.step (f := fun k => spec_Order.j2 k out false (i : Int) true t p) (fun k => by rw [spec_Order.l1, if_pos (by omega)]; rfl) ?_
  refine Ev.step (f := fun k => (spec_l04Has.f k out (keyOf (p.getD i z47))).bind fun t682 => spec_Order.l2 k out false (i : Int) (keyOf (p.getD i z47)) (!t682) 0 t p) (fun k => by rw [spec_Order.j2, if_pos rfl, if_pos (by omega), if_pos (by omega), e2, key_spec _ hm, Option.bind_some]) ?_
  refine Ev.bind (l04Has_ev out _ ho) ?_
  refine spec_l2 hp hs ho (by omega) _ (p.getD i z47).f5.length 0 _ (by omega) (fun h => ?_) (fun h => ?_)
  ·have hr : readyP out (p.getD i z47) = true := by unfold readyP; rw [h.1, Bool.true_and]; exact h.2
   rw [if_pos hr] at h2
   exact spec_out (fun _ => rfl) (h2 i rfl)
  ·have hr : ¬ readyP out (p.getD i z47) = true := fun h3 => h (by unfold readyP at h3; rw [Bool.and_eq_true] at h3; exact h3)
   rw [if_neg hr] at h1 h2
   exact ih (i + 1) (by omega) h1 h2
theorem spec_go (hp : p.length ≤ 1048576) (hs : ∀ x ∈ p, SmallP x) (ha : Apart p) : ∀ n (out : List ByteArray), leftP p out = n → out.length + n = p.length → Ev (fun k => spec_Order.l0 k out true t p) (ordGo p n out) := by
 have hend : ∀ out : List ByteArray, Ev (fun k => spec_Order.l0 k out false t p) (out, ((out.length : Int) == (p.length : Int))) := fun out => Ev.step (fun k => by rw [spec_Order.l0, if_neg (by simp)]) (Ev.now _)
 intro n
 induction n with
 | zero =>
  intro out hl ho
  refine Ev.step (f := fun k => spec_Order.l1 k out false 0 t p) (fun k => by rw [spec_Order.l0, if_pos rfl]) ?_
  refine spec_scan hp hs (by omega) p.length 0 (by omega) (fun _ => ?_) (fun j hj => ?_)
  ·exact ev_use (hend out) (by unfold ordGo; rw [show (out.length : Int) = (p.length : Int) by omega]; simp)
  ·rw [left_zero hl] at hj; cases hj
 | succ n ih =>
  intro out hl ho
  refine Ev.step (f := fun k => spec_Order.l1 k out false 0 t p) (fun k => by rw [spec_Order.l0, if_pos rfl]) ?_
  refine spec_scan hp hs (by omega) p.length 0 (by omega) (fun hn => ?_) (fun j hj => ?_)
  ·refine ev_use (hend out) ?_
   unfold ordGo
   rw [hn]
   rw [show ((out.length : Int) == (p.length : Int)) = false by simp; omega]
  ·obtain ⟨_, h2, h3⟩ := nextAt_lt hj
   unfold ordGo
   rw [hj]
   have hx : hasB out (keyOf (p.getD j z47)) = false := by unfold readyP at h3; rw [Bool.and_eq_true] at h3; simpa using h3.1
   have := left_step hx ha (getD_mem p j z47 (by omega))
   exact ih _ (by omega) (by simp; omega)
theorem spec_Order_ev (hp : p.length ≤ 1048576) (hs : ∀ x ∈ p, SmallP x) (ht : t.length ≤ 1048576) : Ev (fun k => spec_Order.f k t p) (orderL t p) := by
 unfold spec_Order.f orderL
 refine ev_some (Ev.bind (spec_GraphOk_ev t p hp hs ht) ?_)
 by_cases hg : graphOk t p = true
 ·rw [if_pos hg]
  exact ev_pos hg (spec_go hp hs (apart_of hg) _ _ (left_nil p) (by simp))
 ·rw [if_neg hg]; exact ev_neg hg (Ev.now _)
theorem ordGo_len : ∀ n (out : List ByteArray), (ordGo p n out).1.length ≤ out.length + n
 | 0, out => by unfold ordGo; simp
 | n + 1, out => by
  unfold ordGo
  split
  ·simp
  ·refine Nat.le_trans (ordGo_len n _) ?_
   simp; omega
theorem orderL_len (t : List ByteArray) (p : List S47) : (orderL t p).1.length ≤ p.length := by
 unfold orderL
 split
 ·have := ordGo_len (p := p) p.length []
  simpa using this
 ·simp
end
end Go.Proofs.YtieohddolkeegaaGreatDoor.U

end
section
namespace Go.Proofs.YtieohddolkeegaaGreatDoor.Pure
open Go Go.RowKit Go.Proofs.YtieohddolkeegaaGreatDoorW.PrintWords Go.Proofs.YtieohddolkeegaaGreatDoor.G Go.Proofs.YtieohddolkeegaaGreatDoor.U
theorem sum_le {α : Type} (f : α → Nat) (b : Nat) : ∀ l : List α, (∀ x ∈ l, f x ≤ b) → (l.map f).sum ≤ l.length * b
 | [], _ => Nat.zero_le _
 | x :: l, h => by
  have h1 := h x (List.mem_cons_self ..)
  have h2 := sum_le f b l (fun y hy => h y (List.mem_cons_of_mem _ hy))
  rw [List.map_cons, List.sum_cons, List.length_cons, Nat.succ_mul]
  omega
theorem markGraph_ev {t : List ByteArray} {p : List S47} (ht : t.length ≤ 1048576) (hp : p.length ≤ 1048576) (hs : ∀ x ∈ p, SmallP x) : ∃ r : Int, 0 ≤ r ∧ laws_markGraph.f t p 1 = some r := by
 have hc : laws_markGraph.cnt t p ≤ 1048576 + 1048576 * 3145732 := by
  unfold laws_markGraph.cnt
  have h1 := sum_le (fun x : S47 => 4 + 2 * x.f3.length + x.f5.length) 3145732 p (fun x hx => by have := (hs x hx).2.1; omega)
  have h2 := Nat.mul_le_mul_right 3145732 hp
  omega
 refine ⟨1 + laws_markGraph.cnt t p, by omega, ?_⟩
 unfold laws_markGraph.f
 rw [if_pos (by omega)]
theorem FnExactOrder : laws_FnExactOrder.Pure := by
 intro t p ht hp
 refine Ev.rounds (r := true) ?_
 unfold laws_FnExactOrder.f
 refine law_sz (szGraph_ok t ht p hp) fun hw => ?_
 have tt := toGraph_ok t ht p hp hw
 have g1 := small_graph hw
 have e1 := eqGraph_ok t ht.1 (p.map t_Pack) (small_lists g1.2.2 g1.2.1)
 have sp := spec_Order_ev (t := t) g1.2.1 g1.2.2 g1.1.1
 have im := impl_Order_ev t (p.map t_Pack) g1.2.1 g1.2.2 g1.1.1
 have hlen := orderL_len t (p.map t_Pack)
 obtain ⟨mr, hmr, hm⟩ := markGraph_ev g1.1.1 g1.2.1 g1.2.2
 generalize orderL t (p.map t_Pack) = g at sp im hlen
 obtain ⟨g, b⟩ := g
 have hgl : g.length ≤ 1048576 := Nat.le_trans hlen g1.2.1
 have eg := eqStringS_ok g (by unfold maxLen; omega)
 obtain ⟨g', q, _, m2, d2, r0, _⟩ := mhStringS g 1 (by omega) (by omega) (by omega)
 have hb : (b != b) = false := by simp
 have j2 : Ev (fun k => laws_FnExactOrder.j2 k g' q false) true := by
  refine Ev.step (fun k => by rw [laws_FnExactOrder.j2, if_neg (by decide)]) ?_
  exact Ev.bind d2 (ev_neg (by omega) (ev_pos rfl (Ev.now _)))
 have j1 : Ev (fun k => laws_FnExactOrder.j1 k g b g false t p) true := by
  refine Ev.step (fun k => by rw [laws_FnExactOrder.j1, if_neg (by decide)]) ?_
  refine Ev.bind m2 (Ev.bind d2 (ev_neg (by omega) (ev_pos rfl (Ev.bind tt (Ev.bind im (Ev.bind eg (ev_pos rfl ?_)))))))
  show Ev (fun k => laws_FnExactOrder.j2 k g' q (b != b)) true
  rw [hb]; exact j2
 have j0 : Ev (fun k => laws_FnExactOrder.j0 k g b g b false t p t (p.map t_Pack)) true := by
  refine Ev.step (fun k => by rw [laws_FnExactOrder.j0, if_neg (by decide)]) ?_
  refine Ev.bind tt (Ev.bind e1 (ev_pos rfl (ev_const hm (ev_neg (by omega) (Ev.bind eg (ev_pos rfl ?_))))))
  show Ev (fun k => laws_FnExactOrder.j1 k g b g (b != b) t p) true
  rw [hb]; exact j1
 refine Ev.bind tt (Ev.bind sp (Ev.bind tt (Ev.bind im (Ev.bind eg (ev_pos rfl ?_)))))
 show Ev (fun k => laws_FnExactOrder.j0 k g b g b (b != b) t p t (p.map t_Pack)) true
 rw [hb]; exact j0
end Go.Proofs.YtieohddolkeegaaGreatDoor.Pure

end
section
namespace Go.Proofs.YtieohddolkeegaaGreatDoor.fnExactOrder
open Go.ChangeShapes Go.WideShapes Go.ChangeAt Go.RowKit Go.Proofs.YtieohddolkeegaaGreatDoor Go.Proofs.YtieohddolkeegaaGreatDoor.G Go.Proofs.YtieohddolkeegaaGreatDoorW.PrintWords
open Go.ChangeMaps (open_string shut_string)
set_option linter.unusedVariables false
set_option linter.unusedSimpArgs false
theorem own : ownKnob Tryz.prog.godebug = none := by kernel_rfl
theorem laidOut : laidOutB Tryz.prog = true := by kernel_rfl
theorem opens185 : Op.Opens Tryz.prog 185 k185 (fun x_ => (x_.f0.size ≤ maxLen ∧ x_.f1.size ≤ maxLen)) := Op.opens_struct (g := (fun x : S185 => (x.f0, x.f1))) (by kernel_rfl) Tryz.underlying185 (fun a => ⟨⟨a.1, a.2⟩, rfl⟩) (Op.opensF_cons rfl (Op.opens_string (by kernel_rfl) Tryz.underlying9) (Op.opensF_one rfl (Op.opens_string (by kernel_rfl) Tryz.underlying9)))
theorem opens139 : Op.Opens Tryz.prog 139 k139 (fun x_ => (x_.f0.size ≤ maxLen ∧ (x_.f1.size ≤ maxLen ∧ (x_.f2.size ≤ maxLen ∧ ((x_.f3.length ≤ maxLen ∧ ∀ xx_ ∈ x_.f3, (xx_.f0.size ≤ maxLen ∧ xx_.f1.size ≤ maxLen)) ∧ (True ∧ (x_.f5.length ≤ maxLen ∧ ∀ xx_ ∈ x_.f5, xx_.size ≤ maxLen))))))) := Op.opens_struct (g := (fun x : S139 => (x.f0, x.f1, x.f2, x.f3, x.f4, x.f5))) (by kernel_rfl) Tryz.underlying139 (fun a => ⟨⟨a.1, a.2.1, a.2.2.1, a.2.2.2.1, a.2.2.2.2.1, a.2.2.2.2.2⟩, rfl⟩) (Op.opensF_cons rfl (Op.opens_string (by kernel_rfl) Tryz.underlying9) (Op.opensF_cons rfl (Op.opens_string (by kernel_rfl) Tryz.underlying9) (Op.opensF_cons rfl (Op.opens_string (by kernel_rfl) Tryz.underlying9) (Op.opensF_cons rfl (Op.opens_slice (by kernel_rfl) Tryz.underlying137 opens185) (Op.opensF_cons rfl (Op.opens_bool (by kernel_rfl) Tryz.underlying4) (Op.opensF_one rfl (Op.opens_slice (by kernel_rfl) Tryz.underlying36 (Op.opens_string (by kernel_rfl) Tryz.underlying9))))))))
theorem opensArg0 : Op.Opens Tryz.prog 54 (Kd.iso (Kd.pair (Kd.slice 9 Kd.string) (Kd.slice 139 k139)) id) (fun y_ : List ByteArray × List (S139) => ((y_.1.length ≤ maxLen ∧ ∀ x_ ∈ y_.1, x_.size ≤ maxLen) ∧ (y_.2.length ≤ maxLen ∧ ∀ x_ ∈ y_.2, (x_.f0.size ≤ maxLen ∧ (x_.f1.size ≤ maxLen ∧ (x_.f2.size ≤ maxLen ∧ ((x_.f3.length ≤ maxLen ∧ ∀ xx_ ∈ x_.f3, (xx_.f0.size ≤ maxLen ∧ xx_.f1.size ≤ maxLen)) ∧ (True ∧ (x_.f5.length ≤ maxLen ∧ ∀ xx_ ∈ x_.f5, xx_.size ≤ maxLen))))))))) := Op.opens_struct (g := id) (by kernel_rfl) Tryz.underlying54 (fun a => ⟨a, rfl⟩) (Op.opensF_cons rfl (Op.opens_slice (by kernel_rfl) Tryz.underlying36 (Op.opens_string (by kernel_rfl) Tryz.underlying9)) (Op.opensF_one rfl (Op.opens_slice (by kernel_rfl) Tryz.underlying52 opens139)))
set_option maxRecDepth 100000 in
theorem contract (H : Type) (enc : TypeId × Value → H) (W : World) (base : Nat) (args : Array Value) (ds gs : List (DataW H)) (before : List MemPlace)
    (hval : ∀ (j : Nat) t v, Tryz.f5.params[j]? = some t → args[j]? = some v → Value.okWide Tryz.prog W .any base t v)
    (hW : DataW.Whole enc Tryz.prog Tryz.f5.params.toList Rows.fnExactOrderSpec.vars false W args.toList ds gs before) (hFE : Glob FactE W) (hFM : Glob FactM W) (hFT : Glob FactT W) :
    Calls Tryz.prog 5 args W fun e W' => ∃ v, e = .returned v ∧ Rows.fnExactOrderSpec.post enc Tryz.prog Tryz.f5 false true false false W args v W' := by
  have hW' := hW
  obtain ⟨p, q, hA0, hV, rfl, hfz, hnd⟩ := hW
  have hA : DataW.TrodAll enc Tryz.prog W 0 (fun _ => true) true Tryz.f5.params.toList args.toList ds p := hA0
  rw [Tryz.params5] at hA hval
  obtain ⟨v0, vs0, d0, ds0, p0, q0, hargs, rfl, rfl, h0, r0⟩ := trodAll_cons hA
  obtain ⟨rfl, rfl, rfl⟩ := trodAll_nil r0
  obtain rfl : args = #[v0] := by cases args; simp_all
  obtain ⟨rfl, rfl⟩ := trodVars_none hV
  obtain ⟨cs0, rfl, _⟩ := okWide_struct Tryz.underlying54 (hval 0 54 v0 rfl rfl)
  have k0 := h0
  have lt0 : ∀ x ∈ p0, x.block < W.heap.size := by obtain ⟨m, hm⟩ := k0; exact DataW.trod_lt m _ _ _ hm
  obtain ⟨⟨l0_0, l0_1⟩, hK0, ⟨z0_0, z0_1⟩⟩ := Op.arg_struct opensArg0 h0
  have hK0_ : ((Kd.pair (Kd.slice 9 Kd.string) (Kd.slice 139 k139))).K W (l0_0, l0_1) cs0.toList := hK0
  obtain ⟨u0_0, w0_0, e0_0, kk0_0, m0_0⟩ := hK0_
  obtain ⟨A0_0, c0_0, rfl, hc0_0, hr0_0⟩ := kk0_0
  obtain ⟨A0_1, c0_1, el0_1, hc0_1, hr0_1⟩ := m0_0
  obtain rfl : cs0 = #[.slice A0_0 l0_0.length c0_0, .slice A0_1 l0_1.length c0_1] := by
    apply Array.toList_inj.1
    rw [e0_0, el0_1]
    first | done | rfl
  clear hA0
  obtain ⟨k, h⟩ := Pure.FnExactOrder l0_0 l0_1 z0_0 z0_1
  refine (laws_FnExactOrder.calls k A0_0 c0_0 l0_0 A0_1 c0_1 l0_1 true W hr0_0 hc0_0 hr0_1 hc0_1 hFE hFM hFT rfl h).mono fun e W' ⟨he, bel0⟩ => ?_
  have bel : Below W.heap.size W W' := bel0
  subst he
  exact ⟨_, rfl, _, _, _, [], _, [], hW', trodAll_mk1 (shut_bool Tryz.underlying4 _), (trodAll_cons_mk (Below.trod laidOut (by kernel_rfl) (of_decide_eq_true (by kernel_rfl)) k0 bel lt0) trodAll_mk0), rfl, bel.frame _, fun h => by cases h⟩
theorem laid_met (os : Os) : laidMet Tryz.prog Rows.fnExactOrderRow.laid ((Laid.world os).forCall (fun _ _ => 0) ⟨#[], #[.agg #[.slice none 0 0, .slice none 0 0]], []⟩).memory :=
  laidMet_of_run' Laid.fuel (by kernel_rfl) (by kernel_rfl)
theorem reads (os : Os) {H : Type} (enc : TypeId × Value → H) : ∃ places, DataW.whole enc Tryz.prog ((Laid.world os).forCall (fun _ _ => 0) ⟨#[], #[.agg #[.slice none 0 0, .slice none 0 0]], []⟩).memory Tryz.f5.params.toList Rows.fnExactOrderSpec.vars false (#[.agg #[.slice none 0 0, .slice none 0 0]] : Array Value).toList 8 = some ([.agg [.nil, .nil]], [], places) :=
  ⟨[], by kernel_rfl⟩
set_option maxRecDepth 100000 in
theorem lifted (os : Os) (started : os.Started) (H : Type) (enc : TypeId × Value → H) (F : Stop.Interp) :
    ReturnsInHanded {} Tryz.checked os 5 .any ((OpenSpec.ofChange Rows.fnExactOrderSpec).preRow enc Tryz.prog Tryz.f5 Rows.fnExactOrderRow.domain false Rows.fnExactOrderRow.laid) (((OpenSpec.ofChange Rows.fnExactOrderSpec).at F).post enc Tryz.prog Tryz.f5 false true false false) := by
  obtain ⟨places, hx⟩ := reads os enc
  refine returnsInHanded_of_row (C := Tryz.checked) (s := OpenSpec.ofChange Rows.fnExactOrderSpec) own started (by kernel_rfl) Tryz.func5
    (witness_row_atRef (enc := enc) (C := Tryz.checked) false (Laid.world os) #[.agg #[.slice none 0 0, .slice none 0 0]] rfl (Laid.vars os _) (Laid.heap os _) (by kernel_rfl)
      (OpenSpec.preRow_of_cond 8 hx (by kernel_rfl) (fun k hk => by cases hk) (by kernel_rfl) (laid_met os))) ?_
  intro W base args ds gs before hval hW _ _ _ hL hS _
  exact contract H enc W base args ds gs before hval hW (FactE_of hS hL (fun h => h) (by repeat (first | exact List.Mem.head _ | apply List.Mem.tail)) (by repeat (first | exact List.Mem.head _ | apply List.Mem.tail))) (FactM_of hS hL) (FactT_of hS hL (fun h => h) (by repeat (first | exact List.Mem.head _ | apply List.Mem.tail)))
theorem j10 : (Rows.fnExactOrderRow.inPlace == Tryz.prog.inPlace 5) = true := by kernel_rfl
theorem j11 : (Rows.fnExactOrderRow.unfollowed == Tryz.prog.unfollowed 5) = true := by kernel_rfl
theorem j12 : (Rows.fnExactOrderRow.recurses == Tryz.prog.recurses 5) = true := by kernel_rfl
theorem j13 : (Rows.fnExactOrderRow.named == Tryz.prog.varsNamed 5) = true := by kernel_rfl
set_option maxRecDepth 100000 in
theorem closed : joinedFacts Tryz.prog 5 Tryz.f5 (OpenSpec.ofChange Rows.fnExactOrderSpec).bare Rows.fnExactOrderRow = true :=
  (Facts.and_mk (Facts.and_mk (Facts.and_mk (Facts.and_mk (Facts.and_mk (Facts.and_mk (Facts.and_mk (Facts.and_mk (Facts.and_mk (Facts.and_mk (Facts.and_mk (Facts.and_mk (Facts.and_mk (Facts.and_mk (Facts.and_mk (Facts.and_mk (Facts.and_mk (Facts.and_mk (Facts.and_mk (Facts.and_mk (Facts.and_mk (Facts.and_mk (Facts.and_mk (Facts.and_mk (Facts.and_mk (Facts.and_mk (Facts.and_mk (Facts.and_mk (Facts.and_mk (Facts.and_mk (Facts.and_mk (by kernel_rfl) Facts.laidOut) Facts.mapsRowed) (by kernel_rfl)) (by kernel_rfl)) (by kernel_rfl)) (by kernel_rfl)) (by kernel_rfl)) (by kernel_rfl)) j10) j11) j12) j13) (by kernel_rfl)) (by kernel_rfl)) (by kernel_rfl)) (by kernel_rfl)) (by kernel_rfl)) (by kernel_rfl)) (by kernel_rfl)) (by kernel_rfl)) (by kernel_rfl)) (Facts.plainKeys _ rfl)) (by kernel_rfl)) Facts.heard) Facts.mayEnter) (Facts.lifts _ rfl)) (Facts.make _ rfl)) (by kernel_rfl)) (by kernel_rfl)) (by kernel_rfl)) (by kernel_rfl))
theorem goes : false = Rows.fnExactOrderRow.goesBy Tryz.prog := by kernel_rfl
theorem said : Rows.FnExactOrderSaid :=
  OpenClaim.holds_of_cond 5 Tryz.f5 rfl rfl rfl rfl rfl rfl rfl ⟨rfl, rfl, rfl, rfl, rfl⟩ rfl rfl rfl rfl rfl (by kernel_rfl) Tryz.func5 closed
    (of_decide_eq_true (by kernel_rfl)) (by unfold Func.isWrapper; first | (rw [if_pos (by decide +kernel)]; kernel_rfl) | (rw [if_neg (by decide +kernel)]; exact ⟨rfl, rfl⟩))
    (fun os started H enc _ F => by rw [OpenClaim.pre_eq_preRow]; exact lifted os started H enc F)
theorem plain (f : FuncId) (fn : Func) (hf : Tryz.pinned.checked.prog.funcNamed "loop.example/g00445/laws.FnExactOrder" = some f) (hfn : Tryz.pinned.checked.prog.funcs[f]? = some fn) :
    true = Tryz.pinned.checked.prog.looks [] ∧ ∀ (j : Nat) t, fn.params[j]? = some t → Tryz.pinned.checked.prog.wantsStandIn t = false := by
  obtain rfl : f = 5 := Option.some.inj ((show Tryz.prog.funcNamed "loop.example/g00445/laws.FnExactOrder" = some 5 by kernel_rfl).symm.trans hf) |>.symm
  obtain rfl : fn = Tryz.f5 := (Option.some.inj (Tryz.func5.symm.trans hfn)).symm
  refine ⟨Facts.looks, fun j t ht => ?_⟩
  rw [Tryz.params5] at ht
  have hm := Array.mem_of_getElem? ht
  have hall : (#[54] : Array TypeId).all (fun t => Tryz.prog.wantsStandIn t == false) = true := by kernel_rfl
  show Tryz.prog.wantsStandIn t = false
  have h1 := Array.all_eq_true'.1 hall t hm
  exact beq_iff_eq.1 h1
theorem proved : Rows.FnExactOrderCardSaid :=
  Claim7.holds_tied_plain_at .later [] _ _ _ _ said (fun _ h => by cases h) (by kernel_rfl) (fun _ h => by cases h) fnExactOrder_row_tie rfl ⟨rfl, rfl⟩ Facts.main rfl plain goes
end Go.Proofs.YtieohddolkeegaaGreatDoor.fnExactOrder
namespace Go.Proofs.YtieohddolkeegaaGreatDoor
theorem fnExactOrder_holds : Rows.FnExactOrderCardSaid := fnExactOrder.proved
end Go.Proofs.YtieohddolkeegaaGreatDoor

end
