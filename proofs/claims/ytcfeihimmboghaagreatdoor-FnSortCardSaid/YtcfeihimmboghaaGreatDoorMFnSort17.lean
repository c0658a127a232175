/- A part of the proof that the law FnSort answers true at every input that its row speaks of. Conditions: the row's own. -/
import Derived.Test.YtcfeihimmboghaaGreatDoorMFnSort2
import Derived.Test.YtcfeihimmboghaaGreatDoorKFnSort0
import Derived.Test.YtcfeihimmboghaaGreatDoorKFnSort2
import Derived.Test.YtcfeihimmboghaaGreatDoorMFnSort0
import Derived.Test.YtcfeihimmboghaaGreatDoorKFnSort1
import Derived.Test.YtcfeihimmboghaaGreatDoorMFnSort1
section
namespace Go.Proofs.YtcfeihimmboghaaGreatDoor.U
open Go Go.RowKit Go.Proofs.YtcfeihimmboghaaGreatDoorW.PrintWords Go.Proofs.YtcfeihimmboghaaGreatDoor.G
set_option linter.unusedVariables false
set_option linter.unusedSimpArgs false
theorem ins_take (s : B) : ∀ (j : Nat) (out : List B), (∀ w ∈ out.take j, cmpS w s < 0) → ins cmpS s out = out.take j ++ ins cmpS s (out.drop j)
  | 0, out, _ => by simp
  | j + 1, [], _ => by simp
  | j + 1, w :: r, h => by
    rw [ins, if_pos (h w (by simp)), ins_take s j r fun x hx => h x (by simp [hx])]
    simp
theorem rd_S (out : List B) (j : Nat) (h : j < out.length) : rdOf ByteArray.empty (out.map S) (j : Int) = S (out.getD j []) := by
  unfold rdOf
  rw [List.getD_eq_getElem?_getD, List.getD_eq_getElem?_getD]
  simp [h]
theorem splice (out : List B) (s : ByteArray) (j : Nat) (hj : j ≤ out.length) : ([] ++ ((out.map S).take ((j : Int)).toNat).drop (Int.toNat 0)) ++ [s] ++ ((out.map S).take (Int.toNat ((out.map S).length : Int))).drop ((j : Int)).toNat = (out.take j ++ L s :: out.drop j).map S := by
  rw [Int.toNat_natCast, Int.toNat_natCast, List.take_length, List.nil_append]
  simp [List.map_take, List.map_drop]
theorem sort_ins (l : List ByteArray) (hl : l.length ≤ 1048576) (i : Nat) (hi : i < l.length) (out : List B) (hol : out.length ≤ 1048576) (ho : ∀ w ∈ out, w.length ≤ 1048576) {r : List ByteArray}
    (h : Ev (fun k => spec_SortVersions.l0 k l ((ins cmpS (L (l.getD i ByteArray.empty)) out).map S) ((i + 1 : Nat) : Int)) r) : ∀ e j, j + e = out.length → (∀ w ∈ out.take j, cmpS w (L (l.getD i ByteArray.empty)) < 0) →
    Ev (fun k => spec_SortVersions.l1 k l (out.map S) (i : Int) (j : Int) (readVer (L (l.getD i ByteArray.empty))).1 (readVer (L (l.getD i ByteArray.empty))).2.1 (readVer (L (l.getD i ByteArray.empty))).2.2.1 (readVer (L (l.getD i ByteArray.empty))).2.2.2.1) r := by
  have es : rdOf ByteArray.empty l (i : Int) = l.getD i ByteArray.empty := rfl
  generalize hs : l.getD i ByteArray.empty = s at *
  have hml : (out.map S).length = out.length := List.length_map ..
  intro e
  induction e with
  | zero =>
    intro j hj hlt
    have hins : ins cmpS (L s) out = out.take j ++ L s :: out.drop j := by
      rw [ins_take (L s) j out hlt, List.drop_of_length_le (by omega)]; rfl
    rw [hins, ← splice out s j (by omega)] at h
    refine Ev.step (f := fun k => spec_SortVersions.j1 k l (out.map S) (i : Int) (j : Int)) (fun k => by rw [spec_SortVersions.l1, if_neg (by omega)]) ?_
    refine Ev.step (fun k => by rw [spec_SortVersions.j1, if_neg (by omega), if_pos (by omega), if_pos (by omega), if_pos (by omega), if_pos (by omega), if_pos (by omega), es, wa1 i (by omega)]) ?_
    exact h
  | succ e ih =>
    intro j hj hlt
    have hjl : j < out.length := by omega
    have hw := ho _ (getD_mem out j [] hjl)
    refine Ev.step (fun k => by rw [spec_SortVersions.l1, if_pos (by omega), if_pos (by omega), rd_S out j hjl, wa1 j (by omega)]) ?_
    have hrv := spec_ReadVersion_ev (S (out.getD j [])) (by rw [size_S]; exact hw)
    rw [L_S] at hrv
    refine Ev.bind hrv (Ev.bind (spec_compare_ev (out.getD j []) (L s)) ?_)
    have hdrop := drop_getD out j [] hjl
    by_cases hc : cmpS (out.getD j []) (L s) < 0
    · refine ev_neg (by omega) (ih (j + 1) (by omega) fun w hw' => ?_)
      rw [List.take_succ_eq_append_getElem hjl, List.mem_append, List.mem_singleton] at hw'
      rcases hw' with hw' | rfl
      · exact hlt w hw'
      · rw [List.getD_eq_getElem?_getD, List.getElem?_eq_getElem hjl] at hc; exact hc
    · refine ev_pos (by omega) ?_
      by_cases he : out.getD j [] = L s
      · have hins : ins cmpS (L s) out = out := by
          rw [ins_take (L s) j out hlt, hdrop, ins, if_neg hc, if_pos he, ← hdrop]
          exact List.take_append_drop j out
        rw [hins] at h
        refine Ev.step (fun k => by rw [spec_SortVersions.j1, if_pos (by omega), if_pos (by omega), if_pos (by omega), if_pos (by omega), es, rd_S out j hjl, if_pos (by rw [toList_L, toList_L, L_S]; exact he), wa1 i (by omega)]) ?_
        exact h
      · have hins : ins cmpS (L s) out = out.take j ++ L s :: out.drop j := by
          rw [ins_take (L s) j out hlt, hdrop, ins, if_neg hc, if_neg he]
        rw [hins, ← splice out s j (by omega)] at h
        refine Ev.step (fun k => by rw [spec_SortVersions.j1, if_pos (by omega), if_pos (by omega), if_pos (by omega), if_pos (by omega), es, rd_S out j hjl, if_neg (by rw [toList_L, toList_L, L_S]; exact he), if_pos (by omega), if_pos (by omega), if_pos (by omega), if_pos (by omega), if_pos (by omega), wa1 i (by omega)]) ?_
        exact h
theorem ins_len (s : B) : ∀ out : List B, (ins cmpS s out).length ≤ out.length + 1
  | [] => by simp [ins]
  | w :: r => by
    rw [ins]
    split
    · have := ins_len s r; simp only [List.length_cons]; omega
    · split <;> simp
theorem spec_SortVersions_ev (l : List ByteArray) (hl : l.length ≤ 1048576) (hs : ∀ x ∈ l, x.size ≤ 1048576) : Ev (fun k => spec_SortVersions.f k l) ((sorted cmpS ((l.map L).filter isVer)).map S) := by
  unfold spec_SortVersions.f sorted
  have key : ∀ d i (out : List B), i + d = l.length → out.length ≤ i → (∀ w ∈ out, w.length ≤ 1048576) → Ev (fun k => spec_SortVersions.l0 k l (out.map S) (i : Int)) (((((l.drop i).map L).filter isVer).foldl (fun o s => ins cmpS s o) out).map S) := by
    intro d
    induction d with
    | zero =>
      intro i out hi ho hw
      rw [List.drop_of_length_le (by omega)]
      exact Ev.step (f := fun _ => some (out.map S)) (fun k => by rw [spec_SortVersions.l0, if_neg (by omega)]) (Ev.now _)
    | succ d ih =>
      intro i out hi ho hw
      have hlt : i < l.length := by omega
      have hm := hs _ (getD_mem l i ByteArray.empty hlt)
      have es : rdOf ByteArray.empty l (i : Int) = l.getD i ByteArray.empty := rfl
      rw [drop_getD l i ByteArray.empty hlt, List.map_cons]
      refine Ev.step (fun k => by rw [spec_SortVersions.l0, if_pos (by omega), if_pos (by omega), es, wa1 i (by omega)]) ?_
      refine Ev.bind (spec_ReadVersion_ev _ hm) ?_
      by_cases h : isVer (L (l.getD i ByteArray.empty)) = true
      · rw [List.filter_cons_of_pos h, List.foldl_cons]
        refine ev_pos h ?_
        have go := ih (i + 1) (ins cmpS (L (l.getD i ByteArray.empty)) out) (by omega) (by have := ins_len (L (l.getD i ByteArray.empty)) out; omega) (fun w hx => by
          rcases (mem_ins _ _ _).1 hx with rfl | hx
          · have := size_L (l.getD i ByteArray.empty); omega
          · exact hw w hx)
        exact sort_ins l hl i hlt out (by omega) hw go out.length 0 (by omega) (fun w hx => by simp at hx)
      · rw [List.filter_cons_of_neg h]
        exact ev_neg h (ih (i + 1) out (by omega) (by omega) hw)
  have := key l.length 0 [] (by omega) (by simp) (fun w hx => by simp at hx)
  rw [List.drop_zero] at this
  exact this
theorem sorted_ver (l : List ByteArray) (hs : ∀ x ∈ l, x.size ≤ 1048576) : ∀ x ∈ (sorted cmpS ((l.map L).filter isVer)).map S, isVer (L x) = true ∧ x.size ≤ 1048576 := by
  intro x hx
  obtain ⟨y, hy, rfl⟩ := List.mem_map.1 hx
  have hm := ((sorted_is cmpS_keyed ((l.map L).filter isVer) (fun a ha b hb h => cmpS_inj (List.mem_filter.1 ha).2 (List.mem_filter.1 hb).2 h)).2 y).1 hy
  obtain ⟨h1, h2⟩ := List.mem_filter.1 hm
  obtain ⟨z, hz, rfl⟩ := List.mem_map.1 h1
  exact ⟨by rw [L_S]; exact h2, by rw [S_L]; exact hs z hz⟩
theorem sorted_len (l : List B) : (sorted cmpS l).length ≤ l.length := by
  have : ∀ (l o : List B), (l.foldl (fun out s => ins cmpS s out) o).length ≤ l.length + o.length := by
    intro l
    induction l with
    | nil => intro o; simp
    | cons s l ih =>
      intro o
      have h1 := ih (ins cmpS s o)
      have h2 := ins_len s o
      rw [List.foldl_cons, List.length_cons]; omega
  exact this l []
theorem sorted_small (l : List ByteArray) (hl : l.length ≤ 1048576) : ((sorted cmpS ((l.map L).filter isVer)).map S).length ≤ 1048577 := by
  have h1 := sorted_len ((l.map L).filter isVer)
  have h2 := List.length_filter_le isVer (l.map L)
  rw [List.length_map] at h2 ⊢; omega
theorem cutP_ne (c : UInt8) : ∀ (l p : B), cutP c p l ≠ []
  | [], p => by simp [cutP]
  | y :: l, p => by
    unfold cutP
    split
    · simp
    · exact cutP_ne c l _
theorem pre_dash {l : B} (h : isVer l = true) : (((readVer l).2.2.2.1.length : Nat) : Int) = 0 ↔ idx l 45 < 0 := by
  have e : (readVer l).2.2.2.1 = vpre l := by
    unfold isVer at h
    unfold readVer at h ⊢
    split at h
    · rename_i hc; rw [if_pos hc]
    · simp [zeroV] at h
  rw [e]
  unfold vpre
  by_cases hi : 0 ≤ idx l 45
  · rw [if_pos hi]
    have := List.length_pos_iff.2 (cutP_ne 46 (l.drop ((idx l 45).toNat + 1)) [])
    rw [List.length_map]
    constructor <;> intro <;> omega
  · rw [if_neg hi]
    simp; omega
def nodash (x : ByteArray) : Bool := decide (idx (L x) 45 < 0)
def best (b : ByteArray) (l : List ByteArray) : ByteArray := l.foldl (fun b x => if nodash x = true then x else b) b
def newest (l : List ByteArray) : ByteArray := if (best ⟨#[]⟩ l).toList = [] then (if l.length = 0 then ⟨#[]⟩ else l.getD (l.length - 1) ByteArray.empty) else best ⟨#[]⟩ l
theorem spec_newest_loop (l : List ByteArray) (hl : l.length ≤ 1048577) (hs : ∀ x ∈ l, x.size ≤ 1048576) : ∀ d i (b : ByteArray), i + d = l.length →
    Ev (fun k => spec_Newest.l0 k l b (i : Int)) (if (best b (l.drop i)).toList = [] then (if l.length = 0 then best b (l.drop i) else l.getD (l.length - 1) ByteArray.empty) else best b (l.drop i)) := by
  intro d
  induction d with
  | zero =>
    intro i b hi
    rw [List.drop_of_length_le (by omega)]
    show Ev _ (if b.toList = [] then (if l.length = 0 then b else _) else b)
    refine Ev.step (f := fun _ => if b.toList = ([] : List UInt8) then (if (l.length : Int) > 0 then (if 0 ≤ (wrap64 ((l.length : Int) - 1)) then (if (wrap64 ((l.length : Int) - 1)) < (l.length : Int) then (some (rdOf ByteArray.empty l (wrap64 ((l.length : Int) - 1)))) else (none)) else (none)) else (some b)) else (some b)) (fun k => by rw [spec_Newest.l0, if_neg (show ¬ (i : Int) < (l.length : Int) by omega)]) ?_
    by_cases h : b.toList = []
    · refine ev_pos h ?_
      rw [if_pos h]
      by_cases h0 : l.length = 0
      · rw [if_pos h0]; exact ev_neg (by omega) (Ev.now _)
      · rw [if_neg h0]
        have hw : wrap64 ((l.length : Int) - 1) = ((l.length - 1 : Nat) : Int) := by rw [w64 (by omega) (by omega)]; omega
        refine ev_pos (by omega) ?_
        rw [hw]
        exact ev_pos (by omega) (ev_pos (by omega) (Ev.now _))
    · refine ev_neg h ?_
      rw [if_neg h]; exact Ev.now _
  | succ d ih =>
    intro i b hi
    have hlt : i < l.length := by omega
    have hm := hs _ (getD_mem l i ByteArray.empty hlt)
    have es : rdOf ByteArray.empty l (i : Int) = l.getD i ByteArray.empty := rfl
    rw [drop_getD l i ByteArray.empty hlt]
    refine Ev.step (fun k => by rw [spec_Newest.l0, if_pos (show (i : Int) < (l.length : Int) by omega), if_pos (show (0 : Int) ≤ (i : Int) by omega), es, wa1 i (by omega)]) ?_
    refine Ev.bind (spec_l01At_ev (l.getD i ByteArray.empty) 45 (by omega)) ?_
    by_cases h : idx (L (l.getD i ByteArray.empty)) 45 < 0
    · have e : best b (l.getD i ByteArray.empty :: l.drop (i + 1)) = best (l.getD i ByteArray.empty) (l.drop (i + 1)) := by
        show best (if nodash _ = true then _ else _) _ = _
        rw [if_pos (show nodash (l.getD i ByteArray.empty) = true from decide_eq_true h)]
      rw [e]
      exact ev_pos h (ih (i + 1) _ (by omega))
    · have e : best b (l.getD i ByteArray.empty :: l.drop (i + 1)) = best b (l.drop (i + 1)) := by
        show best (if nodash _ = true then _ else _) _ = _
        rw [if_neg (show ¬ nodash (l.getD i ByteArray.empty) = true by unfold nodash; simpa using h)]
      rw [e]
      exact ev_neg h (ih (i + 1) _ (by omega))
theorem best_snoc (b x : ByteArray) (l : List ByteArray) : best b (l ++ [x]) = if nodash x = true then x else best b l := by
  unfold best
  rw [List.foldl_append]; rfl
theorem impl_newest_loop (l : List ByteArray) (hl : l.length ≤ 1048577) (hv : ∀ x ∈ l, isVer (L x) = true ∧ x.size ≤ 1048576) : ∀ n, n ≤ l.length →
    Ev (fun k => impl_Newest.l0 k l ((n : Int) - 1)) (if (best ⟨#[]⟩ (l.take n)).toList = [] then (if l.length = 0 then ⟨#[]⟩ else l.getD (l.length - 1) ByteArray.empty) else best ⟨#[]⟩ (l.take n)) := by
  intro n
  induction n with
  | zero =>
    intro _
    rw [List.take_zero, if_pos (show (best ⟨#[]⟩ []).toList = [] from by rw [toList_L]; rfl)]
    refine Ev.step (f := fun _ => if (l.length : Int) = 0 then (some (⟨#[]⟩ : ByteArray)) else (if 0 ≤ (wrap64 ((l.length : Int) - 1)) then (if (wrap64 ((l.length : Int) - 1)) < (l.length : Int) then (some (rdOf ByteArray.empty l (wrap64 ((l.length : Int) - 1)))) else (none)) else (none))) (fun k => by rw [impl_Newest.l0, if_neg (by omega)]) ?_
    by_cases h0 : l.length = 0
    · rw [if_pos h0]; exact ev_pos (by omega) (Ev.now _)
    · rw [if_neg h0]
      have hw : wrap64 ((l.length : Int) - 1) = ((l.length - 1 : Nat) : Int) := by rw [w64 (by omega) (by omega)]; omega
      refine ev_neg (by omega) ?_
      rw [hw]
      exact ev_pos (by omega) (ev_pos (by omega) (Ev.now _))
  | succ n ih =>
    intro hn
    have hlt : n < l.length := by omega
    obtain ⟨h1, h2⟩ := hv _ (getD_mem l n ByteArray.empty hlt)
    have es : rdOf ByteArray.empty l (n : Int) = l.getD n ByteArray.empty := rfl
    have e : ((n + 1 : Nat) : Int) - 1 = (n : Int) := by omega
    have ew : wrap64 ((n : Int) - 1) = (n : Int) - 1 := w64 (by omega) (by omega)
    have et : l.take (n + 1) = l.take n ++ [l.getD n ByteArray.empty] := by
      rw [List.take_succ_eq_append_getElem hlt, List.getD_eq_getElem?_getD, List.getElem?_eq_getElem hlt]; rfl
    rw [e, et, best_snoc]
    refine Ev.step (fun k => by rw [impl_Newest.l0, if_pos (by omega), if_pos (by omega), if_pos (by omega), es, ew]) ?_
    refine Ev.bind (impl_ReadVersion_ev _ h2) ?_
    have hd := pre_dash h1
    by_cases h : idx (L (l.getD n ByteArray.empty)) 45 < 0
    · rw [if_pos (show nodash (l.getD n ByteArray.empty) = true from decide_eq_true h), if_neg (by
        intro h0
        rw [toList_L] at h0
        rw [h0, isVer_nil] at h1; cases h1)]
      exact ev_pos (hd.2 h) (Ev.now _)
    · rw [if_neg (show ¬ nodash (l.getD n ByteArray.empty) = true by unfold nodash; simpa using h)]
      exact ev_neg (fun h0 => h (hd.1 h0)) (ih (by omega))
theorem spec_Newest_ev (l : List ByteArray) (hl : l.length ≤ 1048576) (hs : ∀ x ∈ l, x.size ≤ 1048576) : Ev (fun k => spec_Newest.f k l) (newest ((sorted cmpS ((l.map L).filter isVer)).map S)) := by
  unfold spec_Newest.f
  have hlen : ((sorted cmpS ((l.map L).filter isVer)).map S).length ≤ 1048577 := by
    have h1 := sorted_len ((l.map L).filter isVer)
    have h2 := List.length_filter_le isVer (l.map L)
    rw [List.length_map] at h2 ⊢; omega
  refine Ev.bind (spec_SortVersions_ev l hl hs) ?_
  have := spec_newest_loop _ hlen (fun x hx => (sorted_ver l hs x hx).2) _ 0 ⟨#[]⟩ (Nat.zero_add _)
  rw [List.drop_zero] at this
  refine ev_use this ?_
  unfold newest
  by_cases h : (best ⟨#[]⟩ ((sorted cmpS ((l.map L).filter isVer)).map S)).toList = []
  · rw [if_pos h, if_pos h]
    by_cases h0 : ((sorted cmpS ((l.map L).filter isVer)).map S).length = 0
    · rw [if_pos h0, if_pos h0, List.eq_nil_of_length_eq_zero h0]; rfl
    · rw [if_neg h0, if_neg h0]
  · rw [if_neg h, if_neg h]
theorem impl_Newest_ev (l : List ByteArray) (hl : l.length ≤ 1048576) (hs : ∀ x ∈ l, x.size ≤ 1048576) : Ev (fun k => impl_Newest.f k l) (newest ((sorted cmpS ((l.map L).filter isVer)).map S)) := by
  unfold impl_Newest.f
  have hlen : ((sorted cmpS ((l.map L).filter isVer)).map S).length ≤ 1048577 := by
    have h1 := sorted_len ((l.map L).filter isVer)
    have h2 := List.length_filter_le isVer (l.map L)
    rw [List.length_map] at h2 ⊢; omega
  have hf : impl_SortVersions.f l = some ((sorted cmpS ((l.map L).filter isVer)).map S) := by unfold impl_SortVersions.f; rw [if_pos ⟨hl, hs⟩]
  rw [hf]
  have := impl_newest_loop _ hlen (sorted_ver l hs) _ (Nat.le_refl _)
  rw [List.take_length] at this
  have ew : ∀ n : Nat, n ≤ 1048577 → wrap64 ((n : Int) - 1) = (n : Int) - 1 := fun n hn => w64 (by omega) (by omega)
  show Ev (fun k => impl_Newest.l0 k _ (wrap64 _)) _
  rw [ew _ hlen]
  exact this
end Go.Proofs.YtcfeihimmboghaaGreatDoor.U

end
section
namespace Go.Proofs.YtcfeihimmboghaaGreatDoor.U
open Go Go.RowKit
set_option linter.unusedVariables false
set_option linter.unusedSimpArgs false
def sg (s : Nat) : Nat := (s * 6364136223846793005 + 1442695040888963407) % 9007199254740992
def itf (f : Nat → Nat) : Nat → Nat → Nat
  | 0, s => s
  | n + 1, s => itf f n (f s)
theorem itf_add (f : Nat → Nat) : ∀ m n s, itf f (m + n) s = itf f n (itf f m s)
  | 0, n, s => by rw [Nat.zero_add]; rfl
  | m + 1, n, s => by rw [Nat.succ_add]; exact itf_add f m n (f s)
theorem itf_one (f : Nat → Nat) (n s : Nat) : itf f (n + 1) s = f (itf f n s) := by rw [itf_add]; rfl
theorem itf_inv (f : Nat → Nat) (P : Nat → Prop) (h : ∀ s, P (f s)) : ∀ n s, P s → P (itf f n s)
  | 0, s, hs => hs
  | n + 1, s, hs => itf_inv f P h n (f s) (h s)
def it (n s : Nat) : Nat := itf sg n s
theorem it_add (m n s : Nat) : it (m + n) s = it n (it m s) := itf_add sg m n s
theorem it_one (n s : Nat) : it (n + 1) s = sg (it n s) := itf_one sg n s
theorem itf_zero (f : Nat → Nat) (s : Nat) : itf f 0 s = s := rfl
theorem itf_next (f : Nat → Nat) (n s : Nat) : itf f (n + 1) s = itf f n (f s) := rfl
theorem it_next (n s : Nat) : it (n + 1) s = it n (sg s) := itf_next sg n s
theorem it_zero (s : Nat) : it 0 s = s := itf_zero sg s
theorem it_1 (s : Nat) : it 1 s = sg s := (it_next 0 s).trans (it_zero _)
theorem sg_lt (s : Nat) : sg s < 9007199254740992 := Nat.mod_lt _ (by decide)
theorem it_lt (n s : Nat) (h : s < 9007199254740992) : it n s < 9007199254740992 := by
  have h2 := itf_inv sg (fun x => x < 9007199254740992) (fun x => sg_lt x) n s h
  unfold it
  exact h2
def pw : Nat → Nat × Nat
  | 0 => (6364136223846793005 % 9007199254740992, 1442695040888963407 % 9007199254740992)
  | j + 1 => ((pw j).1 * (pw j).1 % 9007199254740992, ((pw j).2 * (pw j).1 + (pw j).2) % 9007199254740992)
def aff (p : Nat × Nat) (s : Nat) : Nat := (s * p.1 + p.2) % 9007199254740992
theorem aff_twice (p : Nat × Nat) (s M : Nat) : ((s * p.1 + p.2) % M * p.1 + p.2) % M = (s * (p.1 * p.1 % M) + (p.2 * p.1 + p.2) % M) % M := by
  have e : (s * p.1 + p.2) * p.1 + p.2 = s * (p.1 * p.1) + (p.2 * p.1 + p.2) := by rw [Nat.add_mul, Nat.mul_assoc, Nat.add_assoc]
  rw [Nat.add_mod, Nat.mod_mul_mod, ← Nat.add_mod, e, Nat.add_mod, Nat.add_mod (s * (p.1 * p.1 % M)), Nat.mul_mod_mod, Nat.mod_mod]
theorem pw0 (s : Nat) : sg s = aff (pw 0) s := by
  unfold sg aff pw
  simp only []
  omega
theorem it_pw (j : Nat) : ∀ s, it (2 ^ j) s = aff (pw j) s := by
  induction j with
  | zero => intro s; rw [Nat.pow_zero, it_1]; exact pw0 s
  | succ j ih =>
    intro s
    rw [Nat.pow_succ, Nat.mul_comm, Nat.two_mul, it_add, ih, ih]
    exact aff_twice (pw j) s 9007199254740992
theorem pw_succ {j a c x y : Nat} (h : pw j = (a, c)) (hx : a * a % 9007199254740992 = x) (hy : (c * a + c) % 9007199254740992 = y) : pw (j + 1) = (x, y) := by
  show ((pw j).1 * (pw j).1 % 9007199254740992, ((pw j).2 * (pw j).1 + (pw j).2) % 9007199254740992) = (x, y)
  rw [h]; simp only []; rw [hx, hy]
theorem pw45 : pw 45 = (3518437208883201, 175921860444160) := by
  have h0 : pw 0 = (5053549999652653, 1543160130404687) := rfl
  have h1 : pw 1 = (8893545856347625, 2513558822350130) := pw_succ h0 (by decide) (by decide)
  have h2 : pw 2 = (3723923786219025, 6222039650179508) := pw_succ h1 (by decide) (by decide)
  have h3 : pw 3 = (8402876825156897, 412927761213096) := pw_succ h2 (by decide) (by decide)
  have h4 : pw 4 = (8494674521800257, 8077273890007632) := pw_succ h3 (by decide) (by decide)
  have h5 : pw 5 = (2279854088686721, 334940883470496) := pw_succ h4 (by decide) (by decide)
  have h6 : pw 6 = (1666582322174209, 5999675586797888) := pw_succ h5 (by decide) (by decide)
  have h7 : pw 7 = (228747937296897, 6001844078510720) := pw_succ h6 (by decide) (by decide)
  have h8 : pw 8 = (2126514927395841, 5427765555037440) := pw_succ h7 (by decide) (by decide)
  have h9 : pw 9 = (7541893529782273, 5814478551517696) := pw_succ h8 (by decide) (by decide)
  have h10 : pw 10 = (5666581573898241, 209632069686272) := pw_succ h9 (by decide) (by decide)
  have h11 : pw 11 = (5095289834381313, 2172052359882752) := pw_succ h10 (by decide) (by decide)
  have h12 : pw 12 = (7988256871694337, 3310474618753024) := pw_succ h11 (by decide) (by decide)
  have h13 : pw 13 = (6764801299349505, 7371009239851008) := pw_succ h12 (by decide) (by decide)
  have h14 : pw 14 = (484980540637185, 2775706211794944) := pw_succ h13 (by decide) (by decide)
  have h15 : pw 15 = (4101305772670977, 83331719004160) := pw_succ h14 (by decide) (by decide)
  have h16 : pw 16 = (3839491708289025, 2219713640071168) := pw_succ h15 (by decide) (by decide)
  have h17 : pw 17 = (8240902577848321, 5896228647337984) := pw_succ h16 (by decide) (by decide)
  have h18 : pw 18 = (715083291295745, 8612463508717568) := pw_succ h17 (by decide) (by decide)
  have h19 : pw 19 = (1413673908174849, 4504951873601536) := pw_succ h18 (by decide) (by decide)
  have h20 : pw 20 = (2761377118683137, 3165999445573632) := pw_succ h19 (by decide) (by decide)
  have h21 : pw 21 = (5258871446700033, 970780194111488) := pw_succ h20 (by decide) (by decide)
  have h22 : pw 22 = (455012475994113, 7518283364302848) := pw_succ h21 (by decide) (by decide)
  have h23 : pw 23 = (5695099556069377, 1314661613961216) := pw_succ h22 (by decide) (by decide)
  have h24 : pw 24 = (3508899764240385, 1784898297790464) := pw_succ h23 (by decide) (by decide)
  have h25 : pw 25 = (2514199901110273, 192096875053056) := pw_succ h24 (by decide) (by decide)
  have h26 : pw 26 = (5028399802220545, 4887793377476608) := pw_succ h25 (by decide) (by decide)
  have h27 : pw 27 = (1049600349700097, 768387500212224) := pw_succ h26 (by decide) (by decide)
  have h28 : pw 28 = (2099200699400193, 1536775000424448) := pw_succ h27 (by decide) (by decide)
  have h29 : pw 29 = (4198401398800385, 3073550000848896) := pw_succ h28 (by decide) (by decide)
  have h30 : pw 30 = (8396802797600769, 6147100001697792) := pw_succ h29 (by decide) (by decide)
  have h31 : pw 31 = (7786406340460545, 3287000748654592) := pw_succ h30 (by decide) (by decide)
  have h32 : pw 32 = (6565613426180097, 6574001497309184) := pw_succ h31 (by decide) (by decide)
  have h33 : pw 33 = (4124027597619201, 4140803739877376) := pw_succ h32 (by decide) (by decide)
  have h34 : pw 34 = (8248055195238401, 8281607479754752) := pw_succ h33 (by decide) (by decide)
  have h35 : pw 35 = (7488911135735809, 7556015704768512) := pw_succ h34 (by decide) (by decide)
  have h36 : pw 36 = (5970623016730625, 6104832154796032) := pw_succ h35 (by decide) (by decide)
  have h37 : pw 37 = (2934046778720257, 3202465054851072) := pw_succ h36 (by decide) (by decide)
  have h38 : pw 38 = (5868093557440513, 6404930109702144) := pw_succ h37 (by decide) (by decide)
  have h39 : pw 39 = (2728987860140033, 3802660964663296) := pw_succ h38 (by decide) (by decide)
  have h40 : pw 40 = (5457975720280065, 7605321929326592) := pw_succ h39 (by decide) (by decide)
  have h41 : pw 41 = (1908752185819137, 6203444603912192) := pw_succ h40 (by decide) (by decide)
  have h42 : pw 42 = (3817504371638273, 3399689953083392) := pw_succ h41 (by decide) (by decide)
  have h43 : pw 43 = (7635008743276545, 6799379906166784) := pw_succ h42 (by decide) (by decide)
  have h44 : pw 44 = (6262818231812097, 4591560557592576) := pw_succ h43 (by decide) (by decide)
  have h45 : pw 45 = (3518437208883201, 175921860444160) := pw_succ h44 (by decide) (by decide)
  exact h45
theorem jump (s : Nat) (h : s < 9007199254740992) : it 35184372088832 s = (s + 35184372088832 * (100 * s + 5)) % 9007199254740992 := by
  have e : (35184372088832 : Nat) = 2 ^ 45 := by decide
  have := it_pw 45 s
  rw [← e, pw45] at this
  rw [this]
  unfold aff
  simp only []
  omega
theorem jumps (s : Nat) (h : s < 9007199254740992) : ∀ t, it (t * 35184372088832) s = (s + 35184372088832 * (t * (100 * s + 5))) % 9007199254740992 := by
  intro t
  induction t with
  | zero => rw [Nat.zero_mul, it_zero, Nat.zero_mul, Nat.mul_zero, Nat.add_zero, Nat.mod_eq_of_lt h]
  | succ t ih =>
    have e0 : (t + 1) * (100 * s + 5) = t * (100 * s + 5) + (100 * s + 5) := Nat.succ_mul _ _
    rw [Nat.succ_mul t 35184372088832, it_add, ih, jump _ (Nat.mod_lt _ (by decide)), e0]
    generalize t * (100 * s + 5) = X
    have hq := Nat.div_add_mod (s + 35184372088832 * X) 9007199254740992
    generalize (s + 35184372088832 * X) / 9007199254740992 = q at hq
    generalize (s + 35184372088832 * X) % 9007199254740992 = st at hq ⊢
    have e1 : st + 35184372088832 * (100 * st + 5) + 9007199254740992 * (q * 3518437208883201) = s + 35184372088832 * (X + (100 * s + 5)) + 9007199254740992 * (13743895347200 * X) := by omega
    have f1 := Nat.add_mul_mod_self_left (st + 35184372088832 * (100 * st + 5)) 9007199254740992 (q * 3518437208883201)
    have f2 := Nat.add_mul_mod_self_left (s + 35184372088832 * (X + (100 * s + 5))) 9007199254740992 (13743895347200 * X)
    rw [← f1, e1, f2]
theorem inv256 : ∀ d, d < 256 → d % 2 = 1 → ∃ v, v < 256 ∧ (d * v) % 256 = 1 := by decide +kernel
theorem reach (s u : Nat) (h : s < 9007199254740992) : ∃ m, it (3 * m) s = (s + 35184372088832 * u) % 9007199254740992 := by
  obtain ⟨v, hv, e⟩ := inv256 ((100 * s + 5) % 256) (Nat.mod_lt _ (by decide)) (by omega)
  refine ⟨171 * (u * v) * 35184372088832, ?_⟩
  rw [← Nat.mul_assoc, jumps s h]
  have e2 : (3 * (171 * (u * v)) * (100 * s + 5)) % 256 = u % 256 := by
    have e3 : 3 * (171 * (u * v)) * (100 * s + 5) = 513 * (u * ((100 * s + 5) * v)) := by
      rw [← Nat.mul_assoc 3 171, Nat.mul_assoc 513, Nat.mul_assoc u, Nat.mul_comm v]
    have e4 : ((100 * s + 5) * v) % 256 = 1 := by
      have a1 := Nat.mul_mod (100 * s + 5) v 256
      have a2 := Nat.mul_mod ((100 * s + 5) % 256) v 256
      rw [Nat.mod_mod] at a2
      rw [a1, ← a2]; exact e
    have e5 : (u * ((100 * s + 5) * v)) % 256 = u % 256 := by rw [Nat.mul_mod, e4, Nat.mul_one, Nat.mod_mod]
    rw [e3]; omega
  generalize 3 * (171 * (u * v)) * (100 * s + 5) = X at *
  omega
def bx (z : Nat) : Nat := (z / 8589934592 % 256) ^^^ (z / 35184372088832 % 256)
theorem bx_lt (z : Nat) : bx z < 256 := by
  have h := Nat.xor_lt_two_pow (x := z / 8589934592 % 256) (y := z / 35184372088832 % 256) (n := 8) (Nat.mod_lt _ (by decide)) (Nat.mod_lt _ (by decide))
  exact h
theorem bx_up (z u : Nat) : bx ((z + 35184372088832 * u) % 9007199254740992) = (z / 8589934592 % 256) ^^^ ((z / 35184372088832 + u) % 256) := by
  unfold bx
  have e1 : (z + 35184372088832 * u) % 9007199254740992 / 8589934592 % 256 = z / 8589934592 % 256 := by omega
  have e2 : (z + 35184372088832 * u) % 9007199254740992 / 35184372088832 % 256 = (z / 35184372088832 + u) % 256 := by omega
  rw [e1, e2]
theorem sg_up (z u : Nat) : sg ((z + 35184372088832 * u) % 9007199254740992) = (sg z + 35184372088832 * (45 * u)) % 9007199254740992 := by
  unfold sg; omega
theorem bx_up2 (z u : Nat) : bx (sg ((z + 35184372088832 * u) % 9007199254740992)) = (sg z / 8589934592 % 256) ^^^ ((sg z / 35184372088832 + 45 * u) % 256) := by
  rw [sg_up, bx_up]
theorem nodup_len {α : Type} [DecidableEq α] : ∀ (l m : List α), l.Nodup → (∀ x ∈ l, x ∈ m) → l.length ≤ m.length
  | [], m, _, _ => Nat.zero_le _
  | x :: l, m, h, hs => by
    have hx : x ∈ m := hs x (by simp)
    have h1 := List.nodup_cons.1 h
    have := nodup_len l (m.erase x) h1.2 fun y hy => by
      have hne : y ≠ x := fun e => h1.1 (e ▸ hy)
      exact (List.mem_erase_of_ne hne).2 (hs y (by simp [hy]))
    rw [List.length_erase_of_mem hx] at this
    have hp := List.length_pos_of_mem hx
    simp only [List.length_cons]; omega
theorem nodup_map {α β : Type} (f : α → β) : ∀ (l : List α), l.Nodup → (∀ x ∈ l, ∀ y ∈ l, f x = f y → x = y) → (l.map f).Nodup
  | [], _, _ => by simp
  | x :: l, h, hf => by
    have h1 := List.nodup_cons.1 h
    rw [List.map_cons, List.nodup_cons]
    refine ⟨fun hm => ?_, nodup_map f l h1.2 fun a ha b hb => hf a (by simp [ha]) b (by simp [hb])⟩
    obtain ⟨y, hy, e⟩ := List.mem_map.1 hm
    have := hf y (by simp [hy]) x (by simp) e
    exact h1.1 (this ▸ hy)
def dull (b : Nat) : Bool := b % 5 == 1 || b % 5 == 2
def dull0 (b : Nat) : Bool := dull b || b % 9 == 0
theorem n_dull : ((List.range 256).filter dull).length = 102 := by decide +kernel
theorem n_dull0 : ((List.range 256).filter dull0).length = 120 := by decide +kernel
theorem filter_both (p : Nat → Bool) : ∀ l : List Nat, (l.filter p).length + (l.filter fun u => !p u).length = l.length
  | [] => rfl
  | x :: l => by
    have := filter_both p l
    cases h : p x with
    | true => rw [List.filter_cons_of_pos h, List.filter_cons_of_neg (by rw [h]; simp), List.length_cons, List.length_cons]; omega
    | false => rw [List.filter_cons_of_neg (by rw [h]; simp), List.filter_cons_of_pos (by rw [h]; rfl), List.length_cons, List.length_cons]; omega
theorem xor_inj {x a b : Nat} (h : x ^^^ a = x ^^^ b) : a = b := by
  have := congrArg (x ^^^ ·) h
  simpa [← Nat.xor_assoc] using this
theorem few (p : Nat → Bool) (f : Nat → Nat) (l : List Nat) (hn : l.Nodup) (hl : ∀ u ∈ l, u < 256) (hlt : ∀ u, f u < 256) (hf : ∀ u v, u < 256 → v < 256 → f u = f v → u = v) (hp : ∀ u ∈ l, p (f u) = true) : l.length ≤ ((List.range 256).filter p).length := by
  have h1 := nodup_map f l hn fun x hx y hy => hf x y (hl x hx) (hl y hy)
  have h2 := nodup_len (l.map f) ((List.range 256).filter p) h1 fun y hy => by
    obtain ⟨x, hx, rfl⟩ := List.mem_map.1 hy
    exact List.mem_filter.2 ⟨List.mem_range.2 (hlt x), hp x hx⟩
  rwa [List.length_map] at h2
theorem two_good (x0 y0 x1 y1 : Nat) (h0 : x0 < 256) (h1 : x1 < 256) : ∃ u, dull0 (x0 ^^^ ((y0 + u) % 256)) = false ∧ dull (x1 ^^^ ((y1 + 45 * u) % 256)) = false := by
  apply Classical.byContradiction
  intro hno
  have hall : ∀ u, dull0 (x0 ^^^ ((y0 + u) % 256)) = true ∨ dull (x1 ^^^ ((y1 + 45 * u) % 256)) = true := fun u => by
    cases e1 : dull0 (x0 ^^^ ((y0 + u) % 256)) with
    | true => exact .inl rfl
    | false =>
      cases e2 : dull (x1 ^^^ ((y1 + 45 * u) % 256)) with
      | true => exact .inr rfl
      | false => exact absurd ⟨u, e1, e2⟩ hno
  have xlt : ∀ x w : Nat, x < 256 → x ^^^ (w % 256) < 256 := fun x w hx => Nat.xor_lt_two_pow (n := 8) hx (Nat.mod_lt _ (by decide))
  have q1 := few dull0 (fun u => x0 ^^^ ((y0 + u) % 256)) ((List.range 256).filter fun u => dull0 (x0 ^^^ ((y0 + u) % 256))) (List.nodup_range.filter _) (fun u hu => List.mem_range.1 (List.mem_filter.1 hu).1) (fun u => xlt _ _ h0)
    (fun u v hu hv e => by have := xor_inj e; omega) (fun u hu => (List.mem_filter.1 hu).2)
  have q2 := few dull (fun u => x1 ^^^ ((y1 + 45 * u) % 256)) ((List.range 256).filter fun u => !dull0 (x0 ^^^ ((y0 + u) % 256))) (List.nodup_range.filter _) (fun u hu => List.mem_range.1 (List.mem_filter.1 hu).1) (fun u => xlt _ _ h1)
    (fun u v hu hv e => by have := xor_inj e; omega) (fun u hu => by
      rcases hall u with h | h
      · have := (List.mem_filter.1 hu).2; rw [h] at this; cases this
      · exact h)
  rw [n_dull0] at q1
  rw [n_dull] at q2
  have := filter_both (fun u => dull0 (x0 ^^^ ((y0 + u) % 256))) (List.range 256)
  rw [List.length_range] at this
  omega
theorem one_good (x0 y0 : Nat) (h0 : x0 < 256) : ∃ u, dull (x0 ^^^ ((y0 + u) % 256)) = false := by
  obtain ⟨u, h, _⟩ := two_good x0 y0 0 0 h0 (by decide)
  refine ⟨u, ?_⟩
  unfold dull0 at h
  exact (Bool.or_eq_false_iff.1 h).1
theorem good3 (z : Nat) (hz : z < 9007199254740992) : ∃ m, dull (bx (it (3 * m) z)) = false := by
  obtain ⟨u, h⟩ := one_good (z / 8589934592 % 256) (z / 35184372088832) (Nat.mod_lt _ (by decide))
  obtain ⟨m, e⟩ := reach z u hz
  exact ⟨m, by rw [e, bx_up]; exact h⟩
theorem good2 (z : Nat) (hz : z < 9007199254740992) : ∃ n, dull0 (bx (it n z)) = false ∧ dull (bx (it (n + 1) z)) = false := by
  obtain ⟨u, h1, h2⟩ := two_good (z / 8589934592 % 256) (z / 35184372088832) (sg z / 8589934592 % 256) (sg z / 35184372088832) (Nat.mod_lt _ (by decide)) (Nat.mod_lt _ (by decide))
  obtain ⟨m, e⟩ := reach z u hz
  refine ⟨3 * m, by rw [e, bx_up]; exact h1, ?_⟩
  rw [it_one, e]
  rw [bx_up2]; exact h2
end Go.Proofs.YtcfeihimmboghaaGreatDoor.U

end
section
namespace Go.Proofs.YtcfeihimmboghaaGreatDoor.U
open Go Go.RowKit Go.Proofs.YtcfeihimmboghaaGreatDoorW.PrintWords Go.Proofs.YtcfeihimmboghaaGreatDoor.G
set_option linter.unusedVariables false
set_option linter.unusedSimpArgs false
theorem wrap_and (n : Nat) (h : n < 18446744073709551616) : (BitVec.ofInt 64 (IntKind.i64.wrap (n : Int))).toNat = n := by
  rw [BitVec.toNat_ofInt, IntKind.wrap_i64]; omega
theorem and255 (x : Int) : Go.bits .and .i64 x 255 = x % 256 := by
  have e : (BitVec.ofInt 64 x &&& BitVec.ofInt 64 255).toNat = (x % 256).toNat := by
    rw [BitVec.toNat_and, BitVec.toNat_ofInt, BitVec.toNat_ofInt]
    have e2 : ((255 : Int) % ((2 ^ 64 : Nat) : Int)).toNat = 2 ^ 8 - 1 := by decide
    rw [e2, Nat.and_two_pow_sub_one_eq_mod]
    omega
  show IntKind.i64.wrap ((BitVec.ofInt 64 x &&& BitVec.ofInt 64 255).toNat : Int) = _
  rw [e, IntKind.wrap_i64]; omega
theorem xor255 (x y : Int) : (Go.bits .xor .i64 x y) % 256 = (((x % 256).toNat ^^^ (y % 256).toNat : Nat) : Int) := by
  have hlt : (BitVec.ofInt 64 x ^^^ BitVec.ofInt 64 y).toNat < 18446744073709551616 := (BitVec.ofInt 64 x ^^^ BitVec.ofInt 64 y).isLt
  have e : (BitVec.ofInt 64 x ^^^ BitVec.ofInt 64 y).toNat % 256 = (x % 256).toNat ^^^ (y % 256).toNat := by
    rw [BitVec.toNat_xor, show (256 : Nat) = 2 ^ 8 from rfl, Nat.xor_mod_two_pow, BitVec.toNat_ofInt, BitVec.toNat_ofInt]
    congr 1 <;> omega
  show (IntKind.i64.wrap ((BitVec.ofInt 64 x ^^^ BitVec.ofInt 64 y).toNat : Int)) % 256 = _
  rw [← e, IntKind.wrap_i64]; omega
def nh (h : Int) : Int := wrap64 ((wrap64 (h * 6364136223846793005)) + 1442695040888963407)
def st (h : Int) : Nat := (h % 9007199254740992).toNat
theorem wm (n : Int) : wrap64 n % 9007199254740992 = n % 9007199254740992 := by unfold wrap64; omega
theorem st_nh (h : Int) : st (nh h) = sg (st h) := by
  have e1 : nh h % 9007199254740992 = ((h % 9007199254740992) * 6364136223846793005 + 1442695040888963407) % 9007199254740992 := by
    unfold nh
    rw [wm, Int.add_emod, wm, ← Int.add_emod, Int.add_emod, Int.mul_emod, ← Int.emod_emod_of_dvd (h) (Int.dvd_refl 9007199254740992), ← Int.mul_emod, ← Int.add_emod, Int.emod_emod_of_dvd _ (Int.dvd_refl _)]
  unfold st sg
  rw [e1]
  have h0 : 0 ≤ h % 9007199254740992 := Int.emod_nonneg _ (by decide)
  generalize h % 9007199254740992 = z at h0
  obtain ⟨n, rfl⟩ := Int.eq_ofNat_of_zero_le h0
  rw [Int.toNat_natCast]
  have e2 : (((n : Int) * 6364136223846793005 + 1442695040888963407) % 9007199254740992) = (((n * 6364136223846793005 + 1442695040888963407) % 9007199254740992 : Nat) : Int) := by omega
  rw [e2, Int.toNat_natCast]
theorem st_lt (h : Int) : st h < 9007199254740992 := by unfold st; omega
theorem byte_bx (h : Int) : (Go.bits .and .i64 (Go.bits .xor .i64 (nh h / 8589934592) (nh h / 35184372088832)) 255) = (bx (sg (st h)) : Int) := by
  rw [and255, xor255, ← st_nh]
  unfold bx st
  congr 2 <;> omega
theorem byte_ok (l : List Int) (i h : Int) (hl : l.length ≤ 1099511627776) (h0 : 0 ≤ i) (hi : i ≤ l.length) :
    ∃ b i', spec_l01Byte.f l i h = some (b, i', nh h) ∧ 0 ≤ b ∧ b < 256 ∧ i ≤ i' ∧ i' ≤ l.length ∧ (i < l.length → i < i') ∧ (i = l.length → b = (bx (sg (st h)) : Int)) := by
  unfold spec_l01Byte.f
  by_cases hlt : i < (l.length : Int)
  · rw [if_pos hlt, if_pos h0, w64 (n := i + 1) (by omega) (by omega)]
    refine ⟨_, _, rfl, ?_, ?_, by omega, by omega, by omega, by omega⟩
    · rw [and255]; omega
    · rw [and255]; omega
  · rw [if_neg hlt]
    have hb := bx_lt (sg (st h))
    refine ⟨_, _, rfl, ?_, ?_, by omega, by omega, by omega, fun _ => byte_bx h⟩
    · rw [show (Go.bits .and .i64 (Go.bits .xor .i64 ((wrap64 ((wrap64 (h * 6364136223846793005)) + 1442695040888963407)) / 8589934592) ((wrap64 ((wrap64 (h * 6364136223846793005)) + 1442695040888963407)) / 35184372088832)) 255) = _ from byte_bx h]; omega
    · rw [show (Go.bits .and .i64 (Go.bits .xor .i64 ((wrap64 ((wrap64 (h * 6364136223846793005)) + 1442695040888963407)) / 8589934592) ((wrap64 ((wrap64 (h * 6364136223846793005)) + 1442695040888963407)) / 35184372088832)) 255) = _ from byte_bx h]; omega
theorem below_ok (l : List Int) (i h a : Int) (hl : l.length ≤ 1099511627776) (h0 : 0 ≤ i) (hi : i ≤ l.length) (ha : 1 ≤ a) (ha2 : a ≤ 256) :
    ∃ b i', spec_l01Below.f l i h a = some (b % a, i', nh h) ∧ 0 ≤ b ∧ b < 256 ∧ i ≤ i' ∧ i' ≤ l.length ∧ (i < l.length → i < i') ∧ (i = l.length → b = (bx (sg (st h)) : Int)) := by
  obtain ⟨b, i', e, b0, b1, r⟩ := byte_ok l i h hl h0 hi
  refine ⟨b, i', ?_, b0, b1, r⟩
  unfold spec_l01Below.f
  rw [if_neg (by omega), if_pos ha2, e, Option.bind_some, if_neg (by omega), Int.tmod_eq_emod_of_nonneg b0]
theorem below_any (l : List Int) (i h a : Int) (hl : l.length ≤ 1099511627776) (h0 : 0 ≤ i) (hi : i ≤ l.length) (ha2 : a ≤ 4611686018427387904) :
    ∃ r i' h', spec_l01Below.f l i h a = some (r, i', h') ∧ 0 ≤ r ∧ (0 < a → r < a) ∧ (a ≤ 0 → r = 0) ∧ 0 ≤ i' ∧ i' ≤ l.length := by
  by_cases ha : a ≤ 0
  · refine ⟨0, i, h, ?_, by omega, by omega, fun _ => rfl, h0, hi⟩
    unfold spec_l01Below.f; rw [if_pos ha]
  · by_cases hb : a ≤ 256
    · obtain ⟨b, i', e, b0, b1, r1, r2, _⟩ := below_ok l i h a hl h0 hi (by omega) hb
      exact ⟨_, _, _, e, Int.emod_nonneg _ (by omega), fun _ => Int.emod_lt_of_pos _ (by omega), by omega, by omega, r2⟩
    · obtain ⟨b1, i1, e1, p1, q1, r1, s1, _⟩ := byte_ok l i h hl h0 hi
      obtain ⟨b2, i2, e2, p2, q2, r2, s2, _⟩ := byte_ok l i1 (nh h) hl (by omega) s1
      obtain ⟨b3, i3, e3, p3, q3, r3, s3, _⟩ := byte_ok l i2 (nh (nh h)) hl (by omega) s2
      obtain ⟨b4, i4, e4, p4, q4, r4, s4, _⟩ := byte_ok l i3 (nh (nh (nh h))) hl (by omega) s3
      refine ⟨Int.tmod (wrap64 ((wrap64 ((wrap64 ((wrap64 (b1 * 16777216)) + (wrap64 (b2 * 65536)))) + (wrap64 (b3 * 256)))) + b4)) a, i4, nh (nh (nh (nh h))), ?_, ?_, ?_, by omega, by omega, s4⟩
      · unfold spec_l01Below.f
        rw [if_neg ha, if_neg hb, e1, Option.bind_some, e2, Option.bind_some, e3, Option.bind_some, e4, Option.bind_some, if_neg (by omega)]
      · rw [w64 (n := b1 * 16777216) (by omega) (by omega), w64 (n := b2 * 65536) (by omega) (by omega), w64 (n := b3 * 256) (by omega) (by omega), w64 (n := b1 * 16777216 + b2 * 65536) (by omega) (by omega), w64 (n := b1 * 16777216 + b2 * 65536 + b3 * 256) (by omega) (by omega), w64 (by omega) (by omega), Int.tmod_eq_emod_of_nonneg (by omega)]
        exact Int.emod_nonneg _ (by omega)
      · intro _
        rw [w64 (n := b1 * 16777216) (by omega) (by omega), w64 (n := b2 * 65536) (by omega) (by omega), w64 (n := b3 * 256) (by omega) (by omega), w64 (n := b1 * 16777216 + b2 * 65536) (by omega) (by omega), w64 (n := b1 * 16777216 + b2 * 65536 + b3 * 256) (by omega) (by omega), w64 (by omega) (by omega), Int.tmod_eq_emod_of_nonneg (by omega)]
        exact Int.emod_lt_of_pos _ (by omega)
theorem pick_any (l : List Int) (i h : Int) (q : List ByteArray) (hl : l.length ≤ 1099511627776) (h0 : 0 ≤ i) (hi : i ≤ l.length) (hq : 1 ≤ q.length) (hq2 : q.length ≤ 256) :
    ∃ r i' h', spec_l01Pick.f l i h q = some (r, i', h') ∧ r ∈ q ∧ 0 ≤ i' ∧ i' ≤ l.length := by
  obtain ⟨r, i', h', e, r0, r1, _, s0, s1⟩ := below_any l i h (q.length : Int) hl h0 hi (by omega)
  have hr := r1 (by omega)
  refine ⟨q.getD r.toNat ByteArray.empty, i', h', ?_, ?_, s0, s1⟩
  · unfold spec_l01Pick.f
    rw [e, Option.bind_some, if_pos r0, if_pos hr]; rfl
  · rw [List.getD_eq_getElem?_getD, List.getElem?_eq_getElem (by omega)]
    exact List.getElem_mem _
theorem once_any (l : List Int) (i h n : Int) (hl : l.length ≤ 1099511627776) (h0 : 0 ≤ i) (hi : i ≤ l.length) (hn : n ≤ 4611686018427387904) :
    ∃ r i' h', spec_l01Once.f l i h n = some (r, i', h') ∧ 0 ≤ i' ∧ i' ≤ l.length := by
  obtain ⟨r, i', h', e, _, _, _, s0, s1⟩ := below_any l i h n hl h0 hi hn
  exact ⟨_, i', h', by unfold spec_l01Once.f; rw [e]; rfl, s0, s1⟩
theorem new_any (l : List Int) (hl : l.length ≤ 1048576) : ∃ h, Ev (fun k => spec_l01New.f k l) (l, 0, h) := by
  have key : ∀ (d i : Nat) (h : Int), i + d = l.length → ∃ h', Ev (fun k => spec_l01New.l0 k l h (i : Int)) (l, 0, h') := by
    intro d
    induction d with
    | zero =>
      intro i h hi
      exact ⟨h, Ev.step (f := fun k => some (l, 0, h)) (fun k => by rw [spec_l01New.l0, if_neg (by omega)]) (Ev.now _)⟩
    | succ d ih =>
      intro i h hi
      by_cases h4 : (i : Int) < 4000
      · obtain ⟨h', e⟩ := ih (i + 1) (Go.bits .and .i64 (wrap64 ((wrap64 ((wrap64 (h * 131)) + (wrap64 (rd l (i : Int))))) + 7)) 1073741823) (by omega)
        exact ⟨h', Ev.step (fun k => by rw [spec_l01New.l0, if_pos (by omega), if_pos h4, if_pos (by omega), wa1 i (by omega)]) e⟩
      · exact ⟨h, Ev.step (f := fun k => some (l, 0, h)) (fun k => by rw [spec_l01New.l0, if_pos (by omega), if_neg h4]) (Ev.now _)⟩
  exact key l.length 0 _ (by omega)
theorem ext_size2 (s : ByteArray) (a b : Nat) : (s.extract a b).size ≤ s.size := by rw [size_L, size_L, L_extract]; simp; omega
theorem app_size2 (s t : ByteArray) : (s ++ t).size = s.size + t.size := by rw [size_L, size_L, size_L, L_append, List.length_append]
theorem pickInt_any (l : List Int) (i h : Int) (q : List Int) (hl : l.length ≤ 1099511627776) (h0 : 0 ≤ i) (hi : i ≤ l.length) (hq : 1 ≤ q.length) (hq2 : q.length ≤ 256) :
    ∃ r i' h', spec_l01PickInt.f l i h q = some (r, i', h') ∧ 0 ≤ i' ∧ i' ≤ l.length := by
  obtain ⟨r, i', h', e, r0, r1, _, s0, s1⟩ := below_any l i h (q.length : Int) hl h0 hi (by omega)
  have hr := r1 (by omega)
  refine ⟨rd q r, i', h', ?_, s0, s1⟩
  unfold spec_l01PickInt.f
  rw [e, Option.bind_some, if_pos r0, if_pos hr]
theorem bent_any2 (l : List Int) (i h : Int) (s : ByteArray) (hs : s.size ≤ 1000) (hl : l.length ≤ 1099511627776) (h0 : 0 ≤ i) (hi : i ≤ l.length) :
    ∃ t i' h', spec_l01Bent.f l i h s = some (t, i', h') ∧ t.size ≤ 3000 ∧ 0 ≤ i' ∧ i' ≤ l.length := by
  obtain ⟨r, i1, h1, e1, r0, r1, _, p0, p1⟩ := below_any l i h ((s.size : Int) + 1) hl h0 hi (by omega)
  have hr := r1 (by omega)
  obtain ⟨q, i2, h2, e2, q0, q1, _, t0, t1⟩ := below_any l i1 h1 8 hl p0 p1 (by omega)
  unfold spec_l01Bent.f
  rw [w64 (n := (s.size : Int) + 1) (by omega) (by omega), e1, Option.bind_some, e2, Option.bind_some]
  by_cases c0 : q = 0
  · rw [if_pos c0, if_pos r0, if_pos (by show r ≤ _; omega)]
    exact ⟨_, _, _, rfl, Nat.le_trans (ext_size2 _ _ _) (by omega), t0, t1⟩
  · by_cases c1 : q = 1
    · obtain ⟨u, i3, h3, e3, hu, s0, s1⟩ := pick_any l i2 h2 [(⟨#[48]⟩), (⟨#[32]⟩), (⟨#[255]⟩), (⟨#[34]⟩), (⟨#[10]⟩), (⟨#[97]⟩), (⟨#[44]⟩), (⟨#[61]⟩)] hl t0 t1 (by simp) (by simp)
      have hu1 : u.size ≤ 1 := by
        have : ∀ x ∈ ([(⟨#[48]⟩), (⟨#[32]⟩), (⟨#[255]⟩), (⟨#[34]⟩), (⟨#[10]⟩), (⟨#[97]⟩), (⟨#[44]⟩), (⟨#[61]⟩)] : List ByteArray), x.size ≤ 1 := by decide
        exact this u hu
      have x1 := ext_size2 s 0 r.toNat
      have x2 := ext_size2 s r.toNat s.size
      rw [if_neg c0, if_pos c1, if_pos r0, if_pos (by show r ≤ _; omega), e3, Option.bind_some, if_pos (by show (s.extract 0 r.toNat).size + u.size ≤ _; omega), if_pos (by show ((s.extract 0 r.toNat) ++ u).size + (s.extract r.toNat s.size).size ≤ _; rw [app_size2]; omega)]
      refine ⟨_, _, _, rfl, ?_, s0, s1⟩
      show (s.extract 0 r.toNat ++ u ++ s.extract r.toNat s.size).size ≤ _
      rw [app_size2, app_size2]; omega
    · by_cases c2 : q = 2
      · by_cases c3 : r < (s.size : Int)
        · obtain ⟨u, i3, h3, e3, hu, s0, s1⟩ := pick_any l i2 h2 [(⟨#[48]⟩), (⟨#[65]⟩), (⟨#[0]⟩), (⟨#[57]⟩), (⟨#[93]⟩), (⟨#[92]⟩)] hl t0 t1 (by simp) (by simp)
          have hu1 : u.size ≤ 1 := by
            have : ∀ x ∈ ([(⟨#[48]⟩), (⟨#[65]⟩), (⟨#[0]⟩), (⟨#[57]⟩), (⟨#[93]⟩), (⟨#[92]⟩)] : List ByteArray), x.size ≤ 1 := by decide
            exact this u hu
          have x1 := ext_size2 s 0 r.toNat
          have x2 := ext_size2 s (r + 1).toNat s.size
          rw [if_neg c0, if_neg c1, if_pos c2, if_pos c3, if_pos r0, if_pos (by show r ≤ _; omega), e3, Option.bind_some, if_pos (by show (s.extract 0 r.toNat).size + u.size ≤ _; omega), w64 (n := r + 1) (by omega) (by omega), if_pos (by omega), if_pos (by omega), if_pos (by show ((s.extract 0 r.toNat) ++ u).size + (s.extract (r + 1).toNat s.size).size ≤ _; rw [app_size2]; omega)]
          refine ⟨_, _, _, rfl, ?_, s0, s1⟩
          show (s.extract 0 r.toNat ++ u ++ s.extract (r + 1).toNat s.size).size ≤ _
          rw [app_size2, app_size2]; omega
        · rw [if_neg c0, if_neg c1, if_pos c2, if_neg c3]
          exact ⟨_, _, _, rfl, by omega, t0, t1⟩
      · rw [if_neg c0, if_neg c1, if_neg c2]
        exact ⟨_, _, _, rfl, by omega, t0, t1⟩
theorem version_j0 (l : List Int) (i h : Int) (a b c : Int) (p : List ByteArray) (hp : p.length ≤ 2) (hs : ∀ x ∈ p, x.size ≤ 21) (hl : l.length ≤ 1099511627776) (h0 : 0 ≤ i) (hi : i ≤ l.length) :
    ∃ a' b' c' p' i' h', Ev (fun k => spec_l02Version.j0 k l i h a b c p) (a', b', c', p', i', h') ∧ p'.length ≤ 6 ∧ (∀ x ∈ p', x.size ≤ 21) ∧ 0 ≤ i' ∧ i' ≤ l.length := by
  obtain ⟨r, i1, h1, e1, r0, r1, _, p0, p1⟩ := below_any l i h 24 hl h0 hi (by omega)
  by_cases c0 : r = 0
  · obtain ⟨u, i2, h2, e2, q0, q1⟩ := pickInt_any l i1 h1 [(-1), 999999999, 1000000000] hl p0 p1 (by simp) (by simp)
    refine ⟨_, _, _, _, _, _, Ev.step (f := fun _ => some (a, u, c, p, i2, h2)) (fun k => ?_) (Ev.now _), by omega, hs, q0, q1⟩
    rw [spec_l02Version.j0, e1, Option.bind_some, if_pos c0, e2, Option.bind_some]
  · by_cases c1 : r = 1
    · obtain ⟨u, i2, h2, e2, hu, q0, q1⟩ := pick_any l i1 h1 [(⟨#[]⟩ : ByteArray), (⟨#[48, 49]⟩ : ByteArray), (⟨#[97, 95, 98]⟩ : ByteArray), (⟨#[49, 48, 48, 48, 48, 48, 48, 48, 48, 48]⟩ : ByteArray), (⟨#[97, 98, 99, 100, 101, 102, 103, 104, 105, 106, 107, 108, 109, 110, 111, 112, 113, 114, 115, 116]⟩ : ByteArray), (⟨#[97, 98, 99, 100, 101, 102, 103, 104, 105, 106, 107, 108, 109, 110, 111, 112, 113, 114, 115, 116, 117]⟩ : ByteArray)] hl p0 p1 (by simp) (by simp)
      have hu1 : u.size ≤ 21 := by
        have : ∀ x ∈ [(⟨#[]⟩ : ByteArray), (⟨#[48, 49]⟩ : ByteArray), (⟨#[97, 95, 98]⟩ : ByteArray), (⟨#[49, 48, 48, 48, 48, 48, 48, 48, 48, 48]⟩ : ByteArray), (⟨#[97, 98, 99, 100, 101, 102, 103, 104, 105, 106, 107, 108, 109, 110, 111, 112, 113, 114, 115, 116]⟩ : ByteArray), (⟨#[97, 98, 99, 100, 101, 102, 103, 104, 105, 106, 107, 108, 109, 110, 111, 112, 113, 114, 115, 116, 117]⟩ : ByteArray)], x.size ≤ 21 := by decide
        exact this u hu
      refine ⟨_, _, _, _, _, _, Ev.step (f := fun _ => some (a, b, c, p ++ [u], i2, h2)) (fun k => ?_) (Ev.now _), by rw [List.length_append, List.length_singleton]; omega, ?_, q0, q1⟩
      · rw [spec_l02Version.j0, e1, Option.bind_some, if_neg c0, if_pos c1, e2, Option.bind_some, if_pos (by omega)]
      · intro x hx
        rcases List.mem_append.1 hx with hx | hx
        · exact hs x hx
        · rw [List.mem_singleton.1 hx]; exact hu1
    · by_cases c2 : r = 2
      · obtain ⟨u, i2, h2, e2, q0, q1⟩ := once_any l i1 h1 2 hl p0 p1 (by omega)
        by_cases c3 : u = true
        · refine ⟨_, _, _, _, _, _, Ev.step (f := fun _ => some (a, b, c, [(⟨#[97]⟩ : ByteArray), (⟨#[98]⟩ : ByteArray), (⟨#[99]⟩ : ByteArray), (⟨#[100]⟩ : ByteArray), (⟨#[101]⟩ : ByteArray)] ++ [(⟨#[102]⟩ : ByteArray)], i2, h2)) (fun k => ?_) (Ev.now _), by simp, by decide, q0, q1⟩
          rw [spec_l02Version.j0, e1, Option.bind_some, if_neg c0, if_neg c1, if_pos c2, Option.bind_some, e2, Option.bind_some, if_pos c3, if_pos (by simp)]
        · refine ⟨_, _, _, _, _, _, Ev.step (f := fun _ => some (a, b, c, [(⟨#[97]⟩ : ByteArray), (⟨#[98]⟩ : ByteArray), (⟨#[99]⟩ : ByteArray), (⟨#[100]⟩ : ByteArray), (⟨#[101]⟩ : ByteArray)], i2, h2)) (fun k => ?_) (Ev.now _), by simp, by decide, q0, q1⟩
          rw [spec_l02Version.j0, e1, Option.bind_some, if_neg c0, if_neg c1, if_pos c2, Option.bind_some, e2, Option.bind_some, if_neg c3]
      · refine ⟨_, _, _, _, _, _, Ev.step (f := fun _ => some (a, b, c, p, i1, h1)) (fun k => ?_) (Ev.now _), by omega, hs, p0, p1⟩
        rw [spec_l02Version.j0, e1, Option.bind_some, if_neg c0, if_neg c1, if_neg c2]
theorem version_any (l : List Int) (i h : Int) (hl : l.length ≤ 1099511627776) (h0 : 0 ≤ i) (hi : i ≤ l.length) :
    ∃ a b c p i' h', Ev (fun k => spec_l02Version.f k l i h) (a, b, c, p, i', h') ∧ p.length ≤ 6 ∧ (∀ x ∈ p, x.size ≤ 21) ∧ 0 ≤ i' ∧ i' ≤ l.length := by
  obtain ⟨a, i1, h1, e1, p0, p1⟩ := pickInt_any l i h [0, 1, 1, 2, 10] hl h0 hi (by simp) (by simp)
  obtain ⟨b, i2, h2, e2, q0, q1⟩ := pickInt_any l i1 h1 [0, 0, 1, 2, 12] hl p0 p1 (by simp) (by simp)
  obtain ⟨c, i3, h3, e3, r0, r1⟩ := pickInt_any l i2 h2 [0, 0, 1, 3, 9] hl q0 q1 (by simp) (by simp)
  obtain ⟨u, i4, h4, e4, s0, s1⟩ := once_any l i3 h3 4 hl r0 r1 (by omega)
  unfold spec_l02Version.f
  by_cases c0 : u = true
  · obtain ⟨v, i5, h5, e5, hv, t0, t1⟩ := pick_any l i4 h4 [(⟨#[114, 99]⟩ : ByteArray), (⟨#[98, 101, 116, 97]⟩ : ByteArray), (⟨#[49]⟩ : ByteArray), (⟨#[48]⟩ : ByteArray), (⟨#[120, 45, 121]⟩ : ByteArray)] hl s0 s1 (by simp) (by simp)
    have hv1 : v.size ≤ 21 := by
      have : ∀ x ∈ [(⟨#[114, 99]⟩ : ByteArray), (⟨#[98, 101, 116, 97]⟩ : ByteArray), (⟨#[49]⟩ : ByteArray), (⟨#[48]⟩ : ByteArray), (⟨#[120, 45, 121]⟩ : ByteArray)], x.size ≤ 21 := by decide
      exact this v hv
    obtain ⟨u2, i6, h6, e6, w0, w1⟩ := once_any l i5 h5 2 hl t0 t1 (by omega)
    by_cases c1 : u2 = true
    · obtain ⟨v2, i7, h7, e7, hv2, x0, x1⟩ := pick_any l i6 h6 [(⟨#[49]⟩ : ByteArray), (⟨#[50]⟩ : ByteArray), (⟨#[49, 48]⟩ : ByteArray), (⟨#[97]⟩ : ByteArray)] hl w0 w1 (by simp) (by simp)
      have hv3 : v2.size ≤ 21 := by
        have : ∀ x ∈ [(⟨#[49]⟩ : ByteArray), (⟨#[50]⟩ : ByteArray), (⟨#[49, 48]⟩ : ByteArray), (⟨#[97]⟩ : ByteArray)], x.size ≤ 21 := by decide
        exact this v2 hv2
      obtain ⟨a', b', c', p', i', h', ej, z⟩ := version_j0 l i7 h7 a b c ([v] ++ [v2]) (by simp) (fun x hx => by
        rcases List.mem_append.1 hx with hx | hx
        · rw [List.mem_singleton.1 hx]; exact hv1
        · rw [List.mem_singleton.1 hx]; exact hv3) hl x0 x1
      exact ⟨a', b', c', p', i', h', ev_const e1 (ev_const e2 (ev_const e3 (ev_const e4 (ev_pos c0 (ev_const e5 (ev_const rfl (ev_const e6 (ev_pos c1 (ev_const e7 (ev_pos (show ([v] : List ByteArray).length < 8796093022208 by simp) ej)))))))))), z⟩
    · obtain ⟨a', b', c', p', i', h', ej, z⟩ := version_j0 l i6 h6 a b c [v] (by simp) (fun x hx => by rw [List.mem_singleton.1 hx]; exact hv1) hl w0 w1
      exact ⟨a', b', c', p', i', h', ev_const e1 (ev_const e2 (ev_const e3 (ev_const e4 (ev_pos c0 (ev_const e5 (ev_const rfl (ev_const e6 (ev_neg c1 ej)))))))), z⟩
  · obtain ⟨a', b', c', p', i', h', ej, z⟩ := version_j0 l i4 h4 a b c [] (by simp) (fun x hx => by simp at hx) hl s0 s1
    exact ⟨a', b', c', p', i', h', ev_const e1 (ev_const e2 (ev_const e3 (ev_const e4 (ev_neg c0 ej)))), z⟩
theorem right_any (l : List Int) (i h : Int) (hl : l.length ≤ 1099511627776) (h0 : 0 ≤ i) (hi : i ≤ l.length) :
    ∃ t i' h', Ev (fun k => spec_l02Right.f k l i h) (t, i', h') ∧ t.size ≤ 1000 ∧ 0 ≤ i' ∧ i' ≤ l.length := by
  obtain ⟨a, b, c, p, i1, h1, e1, hp, hs, p0, p1⟩ := version_any l i h hl h0 hi
  have e2 := spec_VersionText_ev a b c p (by omega) (fun x hx => by have := hs x hx; omega)
  have hv := vtext_len a b c p
  unfold spec_l02Right.f
  by_cases c0 : (S (vtext a b c p)).toList = ([] : List UInt8)
  · exact ⟨_, i1, h1, Ev.bind e1 (Ev.bind e2 (ev_pos c0 (Ev.now _))), by decide, p0, p1⟩
  · exact ⟨_, i1, h1, Ev.bind e1 (Ev.bind e2 (ev_neg c0 (Ev.now _))), by rw [size_S]; omega, p0, p1⟩
theorem list_any (l : List Int) (i h : Int) (hl : l.length ≤ 1099511627776) (h0 : 0 ≤ i) (hi : i ≤ l.length) :
    ∃ t i' h', Ev (fun k => spec_l02List.f k l i h) (t, i', h') ∧ t.length ≤ 6 ∧ (∀ x ∈ t, x.size ≤ 3000) ∧ 0 ≤ i' ∧ i' ≤ l.length := by
  obtain ⟨n, i1, h1, e1, r0, r1, _, p0, p1⟩ := below_any l i h 6 hl h0 hi (by omega)
  have hn := r1 (by omega)
  have key : ∀ (d : Nat) (acc : List ByteArray) (i h : Int), (acc.length : Int) + d = n → (∀ x ∈ acc, x.size ≤ 3000) → 0 ≤ i → i ≤ l.length →
      ∃ t i' h', Ev (fun k => spec_l02List.l0 k acc n (acc.length : Int) l i h) (t, i', h') ∧ t.length ≤ 6 ∧ (∀ x ∈ t, x.size ≤ 3000) ∧ 0 ≤ i' ∧ i' ≤ l.length := by
    intro d
    induction d with
    | zero =>
      intro acc i h ha hs h0 hi
      exact ⟨acc, i, h, Ev.step (f := fun _ => some (acc, i, h)) (fun k => by rw [spec_l02List.l0, if_neg (by omega)]) (Ev.now _), by omega, hs, h0, hi⟩
    | succ d ih =>
      intro acc i h ha hs h0 hi
      obtain ⟨t, i2, h2, e2, ht, q0, q1⟩ := right_any l i h hl h0 hi
      obtain ⟨u, i3, h3, e3, hu, s0, s1⟩ := bent_any2 l i2 h2 t ht hl q0 q1
      have hs' : ∀ x ∈ acc ++ [u], x.size ≤ 3000 := fun x hx => by
        rcases List.mem_append.1 hx with hx | hx
        · exact hs x hx
        · rw [List.mem_singleton.1 hx]; exact hu
      obtain ⟨t', i', h', e4, z1, z2, z3, z4⟩ := ih (acc ++ [u]) i3 h3 (by rw [List.length_append, List.length_singleton]; omega) hs' s0 s1
      rw [List.length_append, List.length_singleton] at e4
      refine ⟨t', i', h', Ev.step (fun k => by rw [spec_l02List.l0, if_pos (by omega), wa1 acc.length (by omega)]) (Ev.bind e2 (ev_const e3 (ev_pos (show acc.length < 8796093022208 by omega) e4))), z1, z2, z3, z4⟩
  obtain ⟨t, i', h', e2, z⟩ := key n.toNat [] i1 h1 (by rw [List.length_nil]; omega) (fun x hx => by simp at hx) p0 p1
  refine ⟨t, i', h', ?_, z⟩
  unfold spec_l02List.f
  exact ev_const e1 e2
theorem toList_inj {s t : ByteArray} (h : s.toList = t.toList) : s = t := L_inj (by rw [← toList_L, ← toList_L, h])
theorem sameTexts_ok (l : List ByteArray) (h : l.length ≤ 1048580) : Ev (fun k => laws_sameTexts.f k l l) true := by
  unfold laws_sameTexts.f
  refine ev_pos rfl ?_
  have key : ∀ d i : Nat, i + d = l.length → Ev (fun k => laws_sameTexts.l0 k l l (i : Int)) true := by
    intro d
    induction d with
    | zero => intro i hi; exact Ev.step (f := fun _ => some true) (fun k => by rw [laws_sameTexts.l0, if_neg (by omega)]) (Ev.now _)
    | succ d ih => intro i hi; exact Ev.step (fun k => by rw [laws_sameTexts.l0, if_pos (by omega), if_pos (by omega), if_pos (by omega), if_pos rfl, wa1 i (by omega)]) (ih (i + 1) (by omega))
  exact key l.length 0 (by omega)
theorem has_in (l : List ByteArray) (s : ByteArray) (h : l.length ≤ 1048580) (hs : s ∈ l) : Ev (fun k => laws_has.f k l s) true := by
  unfold laws_has.f
  have key : ∀ d i : Nat, i + d = l.length → s ∈ l.drop i → Ev (fun k => laws_has.l0 k l s (i : Int)) true := by
    intro d
    induction d with
    | zero => intro i hi hm; rw [List.drop_of_length_le (by omega)] at hm; simp at hm
    | succ d ih =>
      intro i hi hm
      have hlt : i < l.length := by omega
      have es : rdOf ByteArray.empty l (i : Int) = l.getD i ByteArray.empty := rfl
      rw [drop_getD l i ByteArray.empty hlt] at hm
      by_cases he : (l.getD i ByteArray.empty).toList = s.toList
      · exact Ev.step (f := fun _ => some true) (fun k => by rw [laws_has.l0, if_pos (by omega), if_pos (by omega), es, if_pos he]) (Ev.now _)
      · refine Ev.step (fun k => by rw [laws_has.l0, if_pos (by omega), if_pos (by omega), es, if_neg he, wa1 i (by omega)]) (ih (i + 1) (by omega) ?_)
        rcases List.mem_cons.1 hm with hm | hm
        · exact absurd (by rw [hm]) he
        · exact hm
  exact key l.length 0 (by omega) (by rw [List.drop_zero]; exact hs)
theorem has_not (l : List ByteArray) (s : ByteArray) (h : l.length ≤ 1048580) (hs : s ∉ l) : Ev (fun k => laws_has.f k l s) false := by
  unfold laws_has.f
  have key : ∀ d i : Nat, i + d = l.length → Ev (fun k => laws_has.l0 k l s (i : Int)) false := by
    intro d
    induction d with
    | zero => intro i hi; exact Ev.step (f := fun _ => some false) (fun k => by rw [laws_has.l0, if_neg (by omega)]) (Ev.now _)
    | succ d ih =>
      intro i hi
      have hlt : i < l.length := by omega
      have es : rdOf ByteArray.empty l (i : Int) = l.getD i ByteArray.empty := rfl
      have he : ¬ (l.getD i ByteArray.empty).toList = s.toList := fun he => hs (by rw [← toList_inj he]; exact getD_mem l i _ hlt)
      exact Ev.step (fun k => by rw [laws_has.l0, if_pos (by omega), if_pos (by omega), es, if_neg he, wa1 i (by omega)]) (ih (i + 1) (by omega))
  exact key l.length 0 (by omega)
end Go.Proofs.YtcfeihimmboghaaGreatDoor.U

end
