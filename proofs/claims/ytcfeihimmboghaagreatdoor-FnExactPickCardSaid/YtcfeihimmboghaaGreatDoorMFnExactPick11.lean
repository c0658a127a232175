/- A part of the proof that the law FnExactPick answers true at every input that its row speaks of. Conditions: the row's own. -/
import Derived.Test.YtcfeihimmboghaaGreatDoorMFnExactPick2
import Derived.Test.YtcfeihimmboghaaGreatDoorKFnExactPick2
import Derived.Test.YtcfeihimmboghaaGreatDoorMFnExactPick10
import Derived.Test.YtcfeihimmboghaaGreatDoorMFnExactPick9
import Derived.Test.YtcfeihimmboghaaGreatDoorMFnExactPick8
import Derived.Test.YtcfeihimmboghaaGreatDoorMFnExactPick0
section
namespace Go.Proofs.YtcfeihimmboghaaGreatDoor.U
open Go Go.RowKit Go.Proofs.YtcfeihimmboghaaGreatDoorW.PrintWords Go.Proofs.YtcfeihimmboghaaGreatDoor.G
set_option linter.unusedVariables false
set_option linter.unusedSimpArgs false
theorem isVersion_ev (s : ByteArray) (hs : s.size ≤ 1048576) : Ev (fun k => impl_isVersion.f k s) (isVer (L s)) := by
  unfold impl_isVersion.f isVer
  exact Ev.bind (impl_ReadVersion_ev s hs) (Ev.now _)
theorem pre_ev (l : List ByteArray) (hl : l.length ≤ 1048576) (hs : ∀ x ∈ l, x.size ≤ 1048576) : Ev (fun k => impl_SortPre.f k l) (l.filter fun s => isVer (L s)) := by
  unfold impl_SortPre.f
  have key : ∀ d i (acc : List ByteArray), i + d = l.length → acc.length ≤ i → Ev (fun k => impl_SortPre.l0 k acc l (l.length : Int) (i : Int)) (acc ++ (l.drop i).filter fun s => isVer (L s)) := by
    intro d
    induction d with
    | zero =>
      intro i acc hi ha
      rw [List.drop_of_length_le (by omega), List.filter_nil, List.append_nil]
      exact Ev.step (f := fun _ => some acc) (fun k => by rw [impl_SortPre.l0, if_neg (by omega)]) (Ev.now _)
    | succ d ih =>
      intro i acc hi ha
      have hlt : i < l.length := by omega
      have hm := hs _ (getD_mem l i ByteArray.empty hlt)
      have ee : rdOf ByteArray.empty l (i : Int) = l.getD i ByteArray.empty := rfl
      rw [drop_getD l i ByteArray.empty hlt]
      refine Ev.step (fun k => by rw [impl_SortPre.l0, if_pos (by omega), if_pos (by omega), if_pos (by omega), ee, wa1 i (by omega)]) ?_
      refine Ev.bind (isVersion_ev _ hm) ?_
      by_cases h : isVer (L (l.getD i ByteArray.empty)) = true
      · rw [List.filter_cons_of_pos (p := fun s => isVer (L s)) h]
        refine ev_pos h (ev_pos (by omega) ?_)
        have := ih (i + 1) (acc ++ [l.getD i ByteArray.empty]) (by omega) (by rw [List.length_append, List.length_singleton]; omega)
        rw [List.append_assoc, List.singleton_append] at this
        exact this
      · rw [List.filter_cons_of_neg (p := fun s => isVer (L s)) h]
        exact ev_neg h (ih (i + 1) acc (by omega) (by omega))
  have := key l.length 0 [] (by omega) (by simp)
  rw [List.drop_zero, List.nil_append] at this
  exact this
end Go.Proofs.YtcfeihimmboghaaGreatDoor.U

end
section
namespace Go.Proofs.YtcfeihimmboghaaGreatDoor.VI
open Go Go.RowKit Go.Sort Go.Lib Go.Proofs Go.Proofs.YtcfeihimmboghaaGreatDoor.G Go.Proofs.YtcfeihimmboghaaGreatDoorW.PrintWords
set_option maxRecDepth 100000
set_option linter.unusedVariables false
set_option linter.unusedSimpArgs false
theorem val_get [Inhabited Ver] (s : List Ver) (j : Nat) (hj : j < s.length) : (s.toArray[j]!).1 = (s.map Subtype.val).toArray[j]! := by
  rw [getElem!_pos _ j (by simpa using hj), getElem!_pos _ j (by simpa using hj)]
  simp
theorem putRow_val [Inhabited Ver] (w : World) (g : Nat) (s : List Ver) : putRow encV w g 0 s.toArray = putRow encStr w g 0 (s.map Subtype.val).toArray := by
  unfold putRow
  congr 1
  funext c
  unfold putCells
  congr 1
  funext k x
  simp only [List.size_toArray, List.length_map, Nat.zero_le, true_and, Nat.zero_add, Nat.sub_zero]
  split
  · rename_i h
    simp only [encV, val_get s k h]
  · rfl
theorem holds_val [Inhabited Ver] {w : World} {g : Nat} {s : List Ver} (h : Holds encStr w g 0 (s.map Subtype.val).toArray) : Holds encV w g 0 s.toArray := by
  intro j hj
  have hj' : j < s.length := by simpa using hj
  obtain ⟨h1, h2⟩ := h j (by simpa using hj')
  refine ⟨?_, h2⟩
  rw [h1]
  simp only [encV, val_get s j hj']
theorem sorted_val (l : List (List UInt8)) (hv : ∀ x ∈ l, U.isVer x = true) (s : List Ver) (hs : s.map Subtype.val = l) :
    Lib.compact ((s.mergeSort fun x y => !(ltOf cfV) y x).map Subtype.val) = U.sorted U.cmpS l := by
  have hperm := List.mergeSort_perm s fun x y => !(ltOf cfV) y x
  have hmem : ∀ x, x ∈ (s.mergeSort fun x y => !(ltOf cfV) y x).map Subtype.val ↔ x ∈ l := fun x => by
    rw [← hs]
    simp only [List.mem_map]
    exact ⟨fun ⟨a, h1, h2⟩ => ⟨a, hperm.mem_iff.1 h1, h2⟩, fun ⟨a, h1, h2⟩ => ⟨a, hperm.mem_iff.2 h1, h2⟩⟩
  have hinj : ∀ x ∈ l, ∀ y ∈ l, U.cmpS x y = 0 → x = y := fun x hx y hy h => U.cmpS_inj (hv x hx) (hv y hy) h
  have hswo := cf_keyed.swo
  have hpw := List.pairwise_mergeSort (le := fun x y => !(ltOf cfV) y x) (fun a b c h1 h2 => by
      simp only [Bool.not_eq_true'] at h1 h2 ⊢
      exact hswo.ntrans c b a h2 h1) (fun a b => by
      cases h : ltOf cfV b a
      · rfl
      · have h2 : ltOf cfV a b = false := by
          cases h3 : ltOf cfV a b
          · rfl
          · have := hswo.trans a b a h3 h
            rw [hswo.irrefl] at this; cases this
        simp [h2]) s
  obtain ⟨c1, c2⟩ := U.compact_is U.cmpS_keyed ((s.mergeSort fun x y => !(ltOf cfV) y x).map Subtype.val) (fun i j hij hj => by
      have hj' : j < (s.mergeSort fun x y => !(ltOf cfV) y x).length := by simpa using hj
      have h1 := List.pairwise_iff_getElem.1 hpw i j (by omega) hj' hij
      rw [Bool.not_eq_true'] at h1
      have h7 := of_decide_eq_false h1
      rw [getElem!_pos _ j (by simpa using hj'), getElem!_pos _ i (by rw [List.size_toArray, List.length_map]; omega)]
      simp only [List.getElem_toArray, List.getElem_map]
      exact h7) (fun x hx y hy h => hinj x ((hmem x).1 hx) y ((hmem y).1 hy) h)
  obtain ⟨s1, s2⟩ := U.sorted_is U.cmpS_keyed l hinj
  exact U.strict_uniq U.cmpS_keyed _ _ c1 s1 fun x => by rw [c2, hmem, s2]
theorem str_enc (b : ByteArray) : Value.string b = encStr (U.L b) := by
  unfold encStr U.L
  simp
theorem row_end [Inhabited Ver] {w w1 : World} {B g cap n : Nat} {os : Array Obj} {cur : Array Value} {l : List (List UInt8)} {s : List Ver} (hv : ∀ x ∈ l, U.isVer x = true) (hs : s.map Subtype.val = l) (hg : B ≤ g) (hb : w.heap[g]? = some (.cells cur 9 (0, 0))) (h1 : l.length ≤ cap) (h2 : cap ≤ maxLen) (h3 : cur.size = cap * 1)
    (e1 : w1 = sortWorld encV w g 0 n (s.mergeSort fun x y => !(ltOf cfV) y x).toArray os) :
    ∃ zs : List (List UInt8), zs.length = l.length ∧ Lib.compact zs = U.sorted U.cmpS l ∧ (Lib.compact zs).length ≤ zs.length ∧ Holds encStr w1 g 0 zs.toArray ∧
      (∀ (w2 : World) (q : Nat), w2 = putRow encStr (Sort.ahead w1 q) g 0 (Lib.compact zs ++ List.replicate (zs.length - (Lib.compact zs).length) []).toArray → w2.ownsRow B 9 1 (.slice (some ⟨g, 0, none⟩) (Lib.compact zs).length cap) (Lib.compact zs).length ((Lib.compact zs).map encStr)) := by
  let zs := (s.mergeSort fun x y => !(ltOf cfV) y x).map Subtype.val
  have hzl : zs.length = l.length := by simp only [zs, List.length_map, List.length_mergeSort]; rw [← hs, List.length_map]
  have hcl : (Lib.compact zs).length ≤ zs.length := by
    unfold Lib.compact Lib.compactUpTo
    rw [List.length_map]
    exact Nat.le_trans (List.length_filter_le _ _) (by simp)
  have hw1 : w1 = grow (putRow encStr (Sort.ahead w n) g 0 zs.toArray) os := by rw [e1]; simp only [sortWorld, putRow_val]; rfl
  have hb1 := heap_sorted (w := w) (g := g) (n := n) (os := os) zs.toArray hb
  rw [← hw1] at hb1
  refine ⟨zs, hzl, sorted_val l hv s hs, hcl, holds_of_block hb1 (take_putCells cur zs (by omega)), fun w2 q e2 => ?_⟩
  let ts := Lib.compact zs ++ List.replicate (zs.length - (Lib.compact zs).length) []
  have htl : ts.length = zs.length := by simp only [ts, List.length_append, List.length_replicate]; omega
  have hb2 := heap_sorted (w := w1) (g := g) (n := q) (os := #[]) ts.toArray hb1
  rw [grow_empty] at hb2
  have e2' : w2 = putRow encStr (Sort.ahead w1 q) g 0 ts.toArray := e2
  rw [← e2'] at hb2
  have hsz1 : (putCells encStr 0 zs.toArray cur).size = cap * 1 := by simp [putCells, h3]
  have ht := take_putCells (putCells encStr 0 zs.toArray cur) ts (by omega)
  refine ⟨by simp, .inr ⟨g, cap, _, rfl, hg, hb2, by omega, h2, by simp [putCells, h3], ?_⟩⟩
  rw [Nat.mul_one]
  have h5 := congrArg (List.take (Lib.compact zs).length) ht
  rw [List.take_take, Nat.min_eq_left (by omega)] at h5
  rw [h5, ← List.map_take]
  congr 1
  simp only [ts]
  exact List.take_left
end Go.Proofs.YtcfeihimmboghaaGreatDoor.VI

end
section
namespace Go.Proofs.YtcfeihimmboghaaGreatDoor.VI
open Go Go.RowKit Go.Proofs.YtcfeihimmboghaaGreatDoor.G Go.Proofs.YtcfeihimmboghaaGreatDoorW.PrintWords
set_option maxRecDepth 100000
set_option linter.unusedVariables false
set_option linter.unusedSimpArgs false
theorem impl_SortVersions.giv {W : World} (hE : Glob FactE W) (hM : Glob FactM W) (hT : Glob FactT W) : ∀ vs r, impl_SortVersions.gv vs = some r → CallOk1 Tryz.prog W.heap.size (fun w => Below W.heap.size W w) 71 vs r := by
  intro vs r h
  unfold impl_SortVersions.gv at h
  split at h
  case h_2 => cases h
  rename_i q0
  obtain ⟨l0, hq0, h2⟩ := obind_some h
  obtain rfl := unS_inv _ _ hq0
  obtain ⟨q, hq, rfl⟩ := Option.map_eq_some_iff.1 h2
  refine giv_ok ⟨_, Tryz.func71, by kernel_rfl, by kernel_rfl⟩ rfl fun w ms pd hw hd => ?_
  obtain ⟨m0, ms0, rfl, h0, hd⟩ := drs_cons hd
  obtain rfl := drs_nil hd
  unfold impl_SortVersions.f at hq
  by_cases hsm : l0.length ≤ 1048576 ∧ (∀ x ∈ l0, x.size ≤ 1048576)
  case neg => rw [if_neg hsm] at hq; cases hq
  rw [if_pos hsm] at hq
  obtain rfl := Option.some.inj hq
  obtain ⟨k0, hk⟩ := U.pre_ev l0 hsm.1 hsm.2
  have hpre := hk k0 (Nat.le_refl _)
  have hL : (l0.filter fun s => U.isVer (U.L s)).map U.L = (l0.map U.L).filter U.isVer := by rw [List.filter_map]; rfl
  have hlen : (l0.filter fun s => U.isVer (U.L s)).length ≤ 1048576 := Nat.le_trans (List.length_filter_le _ _) hsm.1
  have hvr : ∀ x ∈ (l0.filter fun s => U.isVer (U.L s)).map U.L, U.isVer x = true ∧ x.length ≤ 1048576 := by
    intro x hx
    obtain ⟨b, hb, rfl⟩ := List.mem_map.1 hx
    obtain ⟨hb1, hb2⟩ := List.mem_filter.1 hb
    exact ⟨hb2, by have h8 := hsm.2 b hb1; have h9 := U.size_L b; omega⟩
  refine calls_of_wp Tryz.func71 (show Tryz.f71.body = some code20 by kernel_rfl) (pre_wp hE hM hT hw h0 hpre fun G' env' a' w1 hs' h3 h24 => ?_)
  have hsl := get_slot hs' 3
  rw [h3] at hsl
  obtain ⟨us, ho, hr, hz, hu1, hul, hgo⟩ := (hsl : OwnR G' w1 (3, 0) 9 1 _ _)
  rw [hs'.B] at ho
  obtain ⟨T, D⟩ := a'
  have hdf : D = [] := hs'.df
  subst hdf
  obtain ⟨x0, x1, x2, x3, x4, x5, x6, x7, x8, x9, x10, x11, x12, x13, x14, x15, x16, x17, x18, x19, x20, x21, x22, x23, rfl⟩ := arr24 (T := T) h24
  have ho' : w1.ownsRow w.heap.size 9 1 x3 ((l0.filter fun s => U.isVer (U.L s)).map VV.str).length us := ho
  clear ho hgo
  have hus : us = ((l0.filter fun s => U.isVer (U.L s)).map U.L).map encStr := by
    have e : ((l0.filter fun s => U.isVer (U.L s)).map VV.str).flatMap VV.cells = ((l0.filter fun s => U.isVer (U.L s)).map Value.string).map VV.s := by
      generalize (l0.filter fun s => U.isVer (U.L s)) = l
      induction l with
      | nil => rfl
      | cons x l ih => rw [List.map_cons, List.flatMap_cons, ih]; rfl
    rw [e] at hr
    rw [drs_s _ hr, List.map_map]
    exact List.map_congr_left fun b _ => str_enc b
  rw [List.length_map] at ho'
  have hbw : Below w.heap.size w w1 := ⟨hs'.fr.os, hs'.fr.tape, hs'.fr.output, hs'.fr.size, fun k hk => hs'.fr.block k hk (by simp)⟩
  have hgw : Below W.heap.size W w1 := hs'.gw
  rw [← hL]
  generalize hvs : (l0.filter fun s => U.isVer (U.L s)) = vs at *
  clear hvs hpre hk hs' h3 h24 hr hz hu1 hul
  have enc_map : ∀ l : List (List UInt8), (l.map U.S).map Value.string = l.map encStr := fun l => by rw [List.map_map]; rfl
  by_cases h0l : vs = []
  ·
    subst h0l
    obtain ⟨A, c, rfl⟩ : ∃ A c, x3 = .slice A 0 c := by
      rcases ho'.2 with ⟨rfl, _⟩ | ⟨g, cap, cur, rfl, _⟩
      · exact ⟨_, _, rfl⟩
      · exact ⟨_, _, rfl⟩
    refine tail_wp (P1 := fun a b => b = a) (Tryz.slices_SortFunc_none (α := Int) A c _ w1) (fun w2 h2 => ⟨.slice A 0 c, ?_⟩)
    subst h2
    refine (Tryz.slices_Compact_string_empty A c w2).mono fun e w' ⟨h5, h6⟩ => ⟨h5, ?_⟩
    subst h6
    have hus0 : us = [] := by rw [hus]; rfl
    subst hus0
    exact ⟨hbw, resOf_ow (mk := Value.string) (xs := ([] : List ByteArray)) (fun _ => rfl) (Nat.zero_le _) ho'⟩
  ·
    rcases ho'.2 with ⟨_, h5⟩ | ⟨g, cap, cur, rfl, hg, hb, hc1, hc2, hc3, hc4⟩
    · exact absurd (List.eq_nil_of_length_eq_zero h5) h0l
    have hmp : ((vs.map U.L).attach.map fun x => (⟨x.1, hvr x.1 x.2⟩ : Ver)).map Subtype.val = vs.map U.L := by
      rw [List.map_map]
      exact List.attach_map_subtype_val _
    generalize hds : ((vs.map U.L).attach.map fun x => (⟨x.1, hvr x.1 x.2⟩ : Ver)) = s at hmp
    have hsl : s.length = vs.length := by have := congrArg List.length hmp; simpa using this
    haveI : Inhabited Ver := ⟨s.head (by intro h; rw [h] at hsl; exact h0l (List.eq_nil_of_length_eq_zero hsl.symm))⟩
    have hgl : g < w1.heap.size := (Array.getElem?_eq_some_iff.1 hb).1
    have hH : Go.Sort.Holds encV w1 g 0 s.toArray := holds_val (by
      rw [hmp]
      refine holds_of_block hb ?_
      rw [← hus, ← hc4, List.length_map, Nat.mul_one])
    have C1 := sort_calls hE hM hT hgw (cap := cap) (by have := hw.size; omega) hgl s.toArray hH (by rw [List.size_toArray]; omega)
    rw [List.size_toArray, hsl] at C1
    refine tail_wp (P1 := fun a b => ∃ n os, b = sortWorld encV a g 0 n (s.mergeSort fun x y => !(ltOf cfV) y x).toArray os) C1 (fun w2 h2 => ?_)
    obtain ⟨n, os, h2⟩ := h2
    obtain ⟨zs, hz1, hz2, hz3, hz4, hz5⟩ := row_end (w := w1) (w1 := w2) (B := w.heap.size) (g := g) (cap := cap) (n := n) (os := os) (cur := cur) (l := vs.map U.L) (s := s) (fun x hx => (hvr x hx).1) hmp hg hb (by rw [List.length_map]; exact hc1) hc2 hc3 h2
    rw [List.length_map] at hz1
    refine ⟨.slice (some ⟨g, 0, none⟩) (Lib.compact zs).length cap, ?_⟩
    have C2 := Tryz.slices_Compact_string g 0 cap zs w2 hz4 (by omega) (by omega)
    rw [hz1] at C2
    refine C2.mono fun e w3 ⟨h6, q, h7⟩ => ⟨h6, ?_⟩
    rw [← hz1] at h7
    have hown := hz5 w3 q h7
    have hb2 : Below w.heap.size w w2 := by rw [h2]; exact below_sort (W := w) hbw hg
    have hb3 : Below w.heap.size w w3 := by
      rw [h7, ← Go.Sort.grow_empty (Go.Sort.putRow _ _ _ _ _)]
      exact below_sort (W := w) (enc := encStr) (os := #[]) hb2 hg
    refine ⟨hb3, resOf_ow (mk := Value.string) (fun _ => rfl) ?_ ?_⟩
    · rw [List.length_map, ← hz2]; simp only [maxLen]; omega
    · rw [enc_map, List.length_map, ← hz2]; exact hown
theorem given_ok {W : World} (hE : Glob FactE W) (hM : Glob FactM W) (hT : Glob FactT W) : GivenOk Tryz.prog W.heap.size (fun w => Below W.heap.size W w) Gv := by
  intro f g vs r hg hr
  unfold Gv at hg
  split at hg
  · cases hg; exact impl_SortVersions.giv hE hM hT vs r hr
  · exact given_ok0 hE hM hT _ g vs r hg hr
end Go.Proofs.YtcfeihimmboghaaGreatDoor.VI

end
section
namespace Go.Proofs.YtcfeihimmboghaaGreatDoor.VI
open Go Go.RowKit Go.Proofs.YtcfeihimmboghaaGreatDoor.G Go.Proofs.YtcfeihimmboghaaGreatDoorW.PrintWords
set_option maxRecDepth 100000
set_option maxHeartbeats 16000000
attribute [local irreducible] bite obind vget
theorem impl_RangeOk.vi {k m : Nat} {Gv : FuncId → Option (List VV → Option (VV × List VV))} (hG : Base Gv) (hm : k + 9 ≤ m) (l0 : List (S86)) : Im (fun r => (.bool r, [])) (impl_RangeOk.f k l0) (callv Tryz.prog ti keep Gv m 20 [.sl (l0.map e86)]) := by
  obtain ⟨m, rfl⟩ : ∃ m', m = m' + 1 := ⟨m - 1, by omega⟩
  rw [show callv Tryz.prog ti keep Gv (m + 1) 20 _ = _ from callv_enter ((hG 20 (by decide)).trans rfl) Tryz.func20 (by kernel_rfl) rfl rfl]
  unfold impl_RangeOk.f
  repeat' first
    | (with_reducible first | exact Im.none | refine Im.ite (fun h => ?_) (fun h => ?_) | refine Im.sbind ?_)
    | ((conv => arg 3; whnf); first
      | ((with_reducible refine Im.fin ?_); exact zr)
      | ((with_reducible refine Im.anyo ?_ ?_); (next => kernel_rfl))
      | ((with_reducible refine Im.bite_t ?_ ?_); (next => exact zq))
      | ((with_reducible refine Im.bite_f ?_ ?_); (next => exact zq))
      | ((with_reducible refine Im.bite_t ?_ ?_); (next => exact zd))
      | ((with_reducible refine Im.must ?_ ?_); (next => exact zd))
      | ((with_reducible refine Im.bite_f ?_ ?_); (next => exact zd))
      | (with_reducible refine Im.byl ?_)
      | ((with_reducible refine Im.vget ByteArray.empty ?_ ?_ ?_); (next => exact zd); (next => exact zd))
      | ((with_reducible refine Im.vget z86 ?_ ?_ ?_); (next => exact zd); (next => exact zd))
      | ((with_reducible refine Im.vget z133 ?_ ?_ ?_); (next => exact zd); (next => exact zd))
      | ((with_reducible refine Im.vget (0 : Int) ?_ ?_ ?_); (next => exact zd); (next => exact zd))
      | ((with_reducible refine Im.vget false ?_ ?_ ?_); (next => exact zd); (next => exact zd))
      | ((with_reducible refine Im.call (impl_isVersion.vi hG ?_ _) ?_ (fun r hr => ?_)); (next => omega); (next => exact zr))
      | ((with_reducible refine Im.call (impl_within.vi hG ?_ _ _ _) ?_ (fun r hr => ?_)); (next => omega); (next => exact zr))
      | ((with_reducible refine Im.loop (S := fun s : List (S86) × List (S86) × Int × Int => [.sl (s.1.map e86), .un, .un, .un, .un, .sl (s.2.1.map e86), .int s.2.2.1, .int s.2.2.2, .un, .un, .un, .un, .un, .un, .un, .un, .un, .un, .un, .un, .un, .un, .un, .un, .un, .un, .un, .un, .un, .un, .un, .un, .un, .un, .un]) (L := fun k s => impl_RangeOk.l0 k s.1 s.2.1 s.2.2.1 s.2.2.2) _ ?_ ?_ _ _ ⟨_, _, _, _⟩ _ (Nat.le_refl _) zo ?_)
         (next => intro s; rfl)
         (next =>
           intro k1 M1 ⟨x0, x5, x6, x7⟩ hk1 hM1 ih1
           conv => arg 2; simp only [impl_RangeOk.l0]
           repeat' first
             | (with_reducible first | exact Im.none | refine Im.ite (fun h => ?_) (fun h => ?_) | refine Im.sbind ?_)
             | ((conv => arg 3; whnf); first
               | ((with_reducible refine Im.fin ?_); exact zr)
               | ((with_reducible refine Im.anyo ?_ ?_); (next => kernel_rfl))
               | ((with_reducible refine Im.bite_t ?_ ?_); (next => exact zq))
               | ((with_reducible refine Im.bite_f ?_ ?_); (next => exact zq))
               | ((with_reducible refine Im.bite_t ?_ ?_); (next => exact zd))
               | ((with_reducible refine Im.must ?_ ?_); (next => exact zd))
               | ((with_reducible refine Im.bite_f ?_ ?_); (next => exact zd))
               | (with_reducible refine Im.byl ?_)
               | ((with_reducible refine Im.vget ByteArray.empty ?_ ?_ ?_); (next => exact zd); (next => exact zd))
               | ((with_reducible refine Im.vget z86 ?_ ?_ ?_); (next => exact zd); (next => exact zd))
               | ((with_reducible refine Im.vget z133 ?_ ?_ ?_); (next => exact zd); (next => exact zd))
               | ((with_reducible refine Im.vget (0 : Int) ?_ ?_ ?_); (next => exact zd); (next => exact zd))
               | ((with_reducible refine Im.vget false ?_ ?_ ?_); (next => exact zd); (next => exact zd))
               | ((with_reducible refine Im.call (impl_isVersion.vi hG ?_ _) ?_ (fun r hr => ?_)); (next => omega); (next => exact zr))
               | ((with_reducible refine Im.call (impl_within.vi hG ?_ _ _ _) ?_ (fun r hr => ?_)); (next => omega); (next => exact zr))
               | ((with_reducible refine ih1 _ ⟨_, _, _, _⟩ _ ?_ ?_); (next => exact zo); exact zr)
               | exact zm | exact zx | fail)
           all_goals skip)
         exact zr)
      | exact zm | exact zx | fail)
  all_goals skip
theorem impl_In.vi {k m : Nat} {Gv : FuncId → Option (List VV → Option (VV × List VV))} (hG : Base Gv) (hm : k + 10 ≤ m) (a0 : ByteArray) (l1 : List (S86)) : Im (fun r => (.bool r, [])) (impl_In.f k a0 l1) (callv Tryz.prog ti keep Gv m 26 [.str a0, .sl (l1.map e86)]) := by
  obtain ⟨m, rfl⟩ : ∃ m', m = m' + 1 := ⟨m - 1, by omega⟩
  rw [show callv Tryz.prog ti keep Gv (m + 1) 26 _ = _ from callv_enter ((hG 26 (by decide)).trans rfl) Tryz.func26 (by kernel_rfl) rfl rfl]
  unfold impl_In.f
  repeat' first
    | ((with_reducible refine Im.nat (fun k => impl_In.j0 k _ _ _ _ _ _ _) _ ?_ (fun kj hkj => ?_)); (next => rfl); (conv => arg 2; simp only [impl_In.j0, Bool.false_eq_true, reduceIte]))
    | (with_reducible first | exact Im.none | refine Im.ite (fun h => ?_) (fun h => ?_) | refine Im.sbind ?_)
    | ((conv => arg 3; whnf); first
      | ((with_reducible refine Im.fin ?_); exact zr)
      | ((with_reducible refine Im.anyo ?_ ?_); (next => kernel_rfl))
      | ((with_reducible refine Im.bite_t ?_ ?_); (next => exact zq))
      | ((with_reducible refine Im.bite_f ?_ ?_); (next => exact zq))
      | ((with_reducible refine Im.bite_t ?_ ?_); (next => exact zd))
      | ((with_reducible refine Im.must ?_ ?_); (next => exact zd))
      | ((with_reducible refine Im.bite_f ?_ ?_); (next => exact zd))
      | (with_reducible refine Im.byl ?_)
      | ((with_reducible refine Im.vget ByteArray.empty ?_ ?_ ?_); (next => exact zd); (next => exact zd))
      | ((with_reducible refine Im.vget z86 ?_ ?_ ?_); (next => exact zd); (next => exact zd))
      | ((with_reducible refine Im.vget z133 ?_ ?_ ?_); (next => exact zd); (next => exact zd))
      | ((with_reducible refine Im.vget (0 : Int) ?_ ?_ ?_); (next => exact zd); (next => exact zd))
      | ((with_reducible refine Im.vget false ?_ ?_ ?_); (next => exact zd); (next => exact zd))
      | ((with_reducible refine Im.call (impl_RangeOk.vi hG ?_ _) ?_ (fun r hr => ?_)); (next => omega); (next => exact zr))
      | ((with_reducible refine Im.call (impl_ReadVersion.vi hG ?_ _) ?_ (fun r hr => ?_)); (next => omega); (next => exact zr))
      | ((with_reducible refine Im.call (impl_compareTexts.vi hG ?_ _ _) ?_ (fun r hr => ?_)); (next => omega); (next => exact zr))
      | ((with_reducible refine Im.loop (S := fun s : ByteArray × List (S86) × Int × Int × Int × Int × Int × List ByteArray => [.str s.1, .un, .un, .un, .un, .bx [.int s.2.2.2.2.1, .int s.2.2.2.2.2.1, .int s.2.2.2.2.2.2.1, .sl (s.2.2.2.2.2.2.2.map VV.str)], .un, .un, .un, .un, .un, .un, .un, .un, .un, .un, .un, .un, .un, .un, .un, .un, .un, .sl (s.2.1.map e86), .int s.2.2.1, .int s.2.2.2.1, .un, .un, .un, .un, .un, .un, .un, .un, .un, .un, .un, .un, .un, .un, .un, .un, .un, .un, .un, .un, .un, .un, .un, .un, .un, .un, .un, .un, .un, .un, .un, .un, .un, .un, .un, .un, .un, .un, .un, .un, .un, .un, .un, .un, .un, .un, .un, .un, .un, .un, .un, .un, .un, .un, .un, .un, .un, .un, .un, .un, .un, .un, .un]) (L := fun k s => impl_In.l0 k s.1 s.2.1 s.2.2.1 s.2.2.2.1 s.2.2.2.2.1 s.2.2.2.2.2.1 s.2.2.2.2.2.2.1 s.2.2.2.2.2.2.2) _ ?_ ?_ _ _ ⟨_, _, _, _, _, _, _, _⟩ _ (Nat.le_refl _) zo ?_)
         (next => intro s; rfl)
         (next =>
           intro k1 M1 ⟨x0, x23, x24, x25, x383000, x383001, x383002, x383003⟩ hk1 hM1 ih1
           conv => arg 2; simp only [impl_In.l0]
           repeat' first
             | ((with_reducible refine Im.nat (fun k => impl_In.j2 k _ _ _ _ _ _ _ _ _ _ _) _ ?_ (fun kj hkj => ?_)); (next => rfl); (conv => arg 2; simp only [impl_In.j2, Bool.false_eq_true, reduceIte]))
             | (with_reducible first | exact Im.none | refine Im.ite (fun h => ?_) (fun h => ?_) | refine Im.sbind ?_)
             | ((conv => arg 3; whnf); first
               | ((with_reducible refine Im.fin ?_); exact zr)
               | ((with_reducible refine Im.anyo ?_ ?_); (next => kernel_rfl))
               | ((with_reducible refine Im.bite_t ?_ ?_); (next => exact zq))
               | ((with_reducible refine Im.bite_f ?_ ?_); (next => exact zq))
               | ((with_reducible refine Im.bite_t ?_ ?_); (next => exact zd))
               | ((with_reducible refine Im.must ?_ ?_); (next => exact zd))
               | ((with_reducible refine Im.bite_f ?_ ?_); (next => exact zd))
               | (with_reducible refine Im.byl ?_)
               | ((with_reducible refine Im.vget ByteArray.empty ?_ ?_ ?_); (next => exact zd); (next => exact zd))
               | ((with_reducible refine Im.vget z86 ?_ ?_ ?_); (next => exact zd); (next => exact zd))
               | ((with_reducible refine Im.vget z133 ?_ ?_ ?_); (next => exact zd); (next => exact zd))
               | ((with_reducible refine Im.vget (0 : Int) ?_ ?_ ?_); (next => exact zd); (next => exact zd))
               | ((with_reducible refine Im.vget false ?_ ?_ ?_); (next => exact zd); (next => exact zd))
               | ((with_reducible refine Im.call (impl_RangeOk.vi hG ?_ _) ?_ (fun r hr => ?_)); (next => omega); (next => exact zr))
               | ((with_reducible refine Im.call (impl_ReadVersion.vi hG ?_ _) ?_ (fun r hr => ?_)); (next => omega); (next => exact zr))
               | ((with_reducible refine Im.call (impl_compareTexts.vi hG ?_ _ _) ?_ (fun r hr => ?_)); (next => omega); (next => exact zr))
               | ((with_reducible refine ih1 _ ⟨_, _, _, _, _, _, _, _⟩ _ ?_ ?_); (next => exact zo); exact zr)
               | exact zm | exact zx | fail)
           all_goals skip)
         exact zr)
      | exact zm | exact zx | fail)
  all_goals skip
end Go.Proofs.YtcfeihimmboghaaGreatDoor.VI

end
section
namespace Go.Proofs.YtcfeihimmboghaaGreatDoor.VI
open Go Go.RowKit Go.Proofs.YtcfeihimmboghaaGreatDoor.G Go.Proofs.YtcfeihimmboghaaGreatDoorW.PrintWords
set_option maxRecDepth 100000
set_option maxHeartbeats 16000000
set_option linter.unusedVariables false
theorem impl_SortVersions.vi {m : Nat} {Gv : FuncId → Option (List VV → Option (VV × List VV))} (hG : Base Gv) (hL71 : Gv 71 = some impl_SortVersions.gv) (hm : 1 ≤ m) (l0 : List ByteArray) : Im (fun r => (.ow 9 1 (r.map VV.str), [])) (impl_SortVersions.f l0) (callv Tryz.prog ti keep Gv m 71 [.sl (l0.map VV.str)]) := by
  obtain ⟨m, rfl⟩ : ∃ m', m = m' + 1 := ⟨m - 1, by omega⟩
  rw [show callv Tryz.prog ti keep Gv (m + 1) 71 _ = _ from callv_given hL71]
  intro r h
  show obind (unS (l0.map VV.str)) _ = _
  rw [unS_map]
  show (impl_SortVersions.f l0).map _ = _
  rw [h]
  rfl
end Go.Proofs.YtcfeihimmboghaaGreatDoor.VI

end
section
namespace Go.Proofs.YtcfeihimmboghaaGreatDoor.VI
open Go Go.RowKit Go.Proofs.YtcfeihimmboghaaGreatDoor.G Go.Proofs.YtcfeihimmboghaaGreatDoorW.PrintWords
set_option maxRecDepth 100000
set_option maxHeartbeats 16000000
attribute [local irreducible] bite obind vget
theorem impl_Pick.vi {k m : Nat} {Gv : FuncId → Option (List VV → Option (VV × List VV))} (hG : Base Gv) (hL71 : Gv 71 = some impl_SortVersions.gv) (hm : k + 11 ≤ m) (l0 : List ByteArray) (l1 : List (S86)) : Im (fun r => (.str r, [])) (impl_Pick.f k l0 l1) (callv Tryz.prog ti keep Gv m 82 [.sl (l0.map VV.str), .sl (l1.map e86)]) := by
  obtain ⟨m, rfl⟩ : ∃ m', m = m' + 1 := ⟨m - 1, by omega⟩
  rw [show callv Tryz.prog ti keep Gv (m + 1) 82 _ = _ from callv_enter ((hG 82 (by decide)).trans rfl) Tryz.func82 (by kernel_rfl) rfl rfl]
  unfold impl_Pick.f
  repeat' first
    | (with_reducible first | exact Im.none | refine Im.ite (fun h => ?_) (fun h => ?_) | refine Im.sbind ?_)
    | ((conv => arg 3; whnf); first
      | ((with_reducible refine Im.fin ?_); exact zr)
      | ((with_reducible refine Im.anyo ?_ ?_); (next => kernel_rfl))
      | ((with_reducible refine Im.bite_t ?_ ?_); (next => exact zq))
      | ((with_reducible refine Im.bite_f ?_ ?_); (next => exact zq))
      | ((with_reducible refine Im.bite_t ?_ ?_); (next => exact zd))
      | ((with_reducible refine Im.must ?_ ?_); (next => exact zd))
      | ((with_reducible refine Im.bite_f ?_ ?_); (next => exact zd))
      | (with_reducible refine Im.byl ?_)
      | ((with_reducible refine Im.vget ByteArray.empty ?_ ?_ ?_); (next => exact zd); (next => exact zd))
      | ((with_reducible refine Im.vget z86 ?_ ?_ ?_); (next => exact zd); (next => exact zd))
      | ((with_reducible refine Im.vget z133 ?_ ?_ ?_); (next => exact zd); (next => exact zd))
      | ((with_reducible refine Im.vget (0 : Int) ?_ ?_ ?_); (next => exact zd); (next => exact zd))
      | ((with_reducible refine Im.vget false ?_ ?_ ?_); (next => exact zd); (next => exact zd))
      | ((with_reducible refine Im.call (impl_In.vi hG ?_ _ _) ?_ (fun r hr => ?_)); (next => omega); (next => exact zr))
      | ((with_reducible refine Im.call (impl_SortVersions.vi hG hL71 ?_ _) ?_ (fun r hr => ?_)); (next => omega); (next => exact zr))
      | ((with_reducible refine Im.loop (S := fun s : List (S86) × List ByteArray × Int => [.un, .sl (s.1.map e86), .un, .un, .un, .ow 9 1 (s.2.1.map VV.str), .int s.2.2, .un, .un, .un, .un, .un, .un, .un, .un, .un, .un, .un, .un, .un, .un, .un, .un, .un, .un, .un]) (L := fun k s => impl_Pick.l0 k s.1 s.2.1 s.2.2) _ ?_ ?_ _ _ ⟨_, _, _⟩ _ (Nat.le_refl _) zo ?_)
         (next => intro s; rfl)
         (next =>
           intro k1 M1 ⟨x1, x5, x6⟩ hk1 hM1 ih1
           conv => arg 2; simp only [impl_Pick.l0]
           repeat' first
             | (with_reducible first | exact Im.none | refine Im.ite (fun h => ?_) (fun h => ?_) | refine Im.sbind ?_)
             | ((conv => arg 3; whnf); first
               | ((with_reducible refine Im.fin ?_); exact zr)
               | ((with_reducible refine Im.anyo ?_ ?_); (next => kernel_rfl))
               | ((with_reducible refine Im.bite_t ?_ ?_); (next => exact zq))
               | ((with_reducible refine Im.bite_f ?_ ?_); (next => exact zq))
               | ((with_reducible refine Im.bite_t ?_ ?_); (next => exact zd))
               | ((with_reducible refine Im.must ?_ ?_); (next => exact zd))
               | ((with_reducible refine Im.bite_f ?_ ?_); (next => exact zd))
               | (with_reducible refine Im.byl ?_)
               | ((with_reducible refine Im.vget ByteArray.empty ?_ ?_ ?_); (next => exact zd); (next => exact zd))
               | ((with_reducible refine Im.vget z86 ?_ ?_ ?_); (next => exact zd); (next => exact zd))
               | ((with_reducible refine Im.vget z133 ?_ ?_ ?_); (next => exact zd); (next => exact zd))
               | ((with_reducible refine Im.vget (0 : Int) ?_ ?_ ?_); (next => exact zd); (next => exact zd))
               | ((with_reducible refine Im.vget false ?_ ?_ ?_); (next => exact zd); (next => exact zd))
               | ((with_reducible refine Im.call (impl_In.vi hG ?_ _ _) ?_ (fun r hr => ?_)); (next => omega); (next => exact zr))
               | ((with_reducible refine Im.call (impl_SortVersions.vi hG hL71 ?_ _) ?_ (fun r hr => ?_)); (next => omega); (next => exact zr))
               | ((with_reducible refine ih1 _ ⟨_, _, _⟩ _ ?_ ?_); (next => exact zo); exact zr)
               | exact zm | exact zx | fail)
           all_goals skip)
         exact zr)
      | exact zm | exact zx | fail)
  all_goals skip
theorem laws_eqBound.vi {m : Nat} {Gv : FuncId → Option (List VV → Option (VV × List VV))} (hG : Base Gv) (hm : 1 ≤ m) (a0_0 : ByteArray) (a0_1 : ByteArray) (a1_0 : ByteArray) (a1_1 : ByteArray) : Im (fun r => (.bool r, [])) (laws_eqBound.f a0_0 a0_1 a1_0 a1_1) (callv Tryz.prog ti keep Gv m 159 [.ag [.str a0_0, .str a0_1], .ag [.str a1_0, .str a1_1]]) := by
  obtain ⟨m, rfl⟩ : ∃ m', m = m' + 1 := ⟨m - 1, by omega⟩
  rw [show callv Tryz.prog ti keep Gv (m + 1) 159 _ = _ from callv_enter ((hG 159 (by decide)).trans rfl) Tryz.func159 (by kernel_rfl) rfl rfl]
  unfold laws_eqBound.f
  repeat' first
    | (with_reducible first | exact Im.none | refine Im.ite (fun h => ?_) (fun h => ?_) | refine Im.sbind ?_)
    | ((conv => arg 3; whnf); first
      | ((with_reducible refine Im.fin ?_); exact zr)
      | ((with_reducible refine Im.anyo ?_ ?_); (next => kernel_rfl))
      | ((with_reducible refine Im.bite_t ?_ ?_); (next => exact zq))
      | ((with_reducible refine Im.bite_f ?_ ?_); (next => exact zq))
      | ((with_reducible refine Im.bite_t ?_ ?_); (next => exact zd))
      | ((with_reducible refine Im.must ?_ ?_); (next => exact zd))
      | ((with_reducible refine Im.bite_f ?_ ?_); (next => exact zd))
      | (with_reducible refine Im.byl ?_)
      | ((with_reducible refine Im.vget ByteArray.empty ?_ ?_ ?_); (next => exact zd); (next => exact zd))
      | ((with_reducible refine Im.vget z86 ?_ ?_ ?_); (next => exact zd); (next => exact zd))
      | ((with_reducible refine Im.vget z133 ?_ ?_ ?_); (next => exact zd); (next => exact zd))
      | ((with_reducible refine Im.vget (0 : Int) ?_ ?_ ?_); (next => exact zd); (next => exact zd))
      | ((with_reducible refine Im.vget false ?_ ?_ ?_); (next => exact zd); (next => exact zd))
      | exact zm | exact zx | fail)
  all_goals skip
theorem laws_eqBoundS.vi {k m : Nat} {Gv : FuncId → Option (List VV → Option (VV × List VV))} (hG : Base Gv) (hm : k + 2 ≤ m) (l0 : List (S86)) (l1 : List (S86)) : Im (fun r => (.bool r, [])) (laws_eqBoundS.f k l0 l1) (callv Tryz.prog ti keep Gv m 83 [.sl (l0.map e86), .sl (l1.map e86)]) := by
  obtain ⟨m, rfl⟩ : ∃ m', m = m' + 1 := ⟨m - 1, by omega⟩
  rw [show callv Tryz.prog ti keep Gv (m + 1) 83 _ = _ from callv_enter ((hG 83 (by decide)).trans rfl) Tryz.func83 (by kernel_rfl) rfl rfl]
  unfold laws_eqBoundS.f
  repeat' first
    | (with_reducible first | exact Im.none | refine Im.ite (fun h => ?_) (fun h => ?_) | refine Im.sbind ?_)
    | ((conv => arg 3; whnf); first
      | ((with_reducible refine Im.fin ?_); exact zr)
      | ((with_reducible refine Im.anyo ?_ ?_); (next => kernel_rfl))
      | ((with_reducible refine Im.bite_t ?_ ?_); (next => exact zq))
      | ((with_reducible refine Im.bite_f ?_ ?_); (next => exact zq))
      | ((with_reducible refine Im.bite_t ?_ ?_); (next => exact zd))
      | ((with_reducible refine Im.must ?_ ?_); (next => exact zd))
      | ((with_reducible refine Im.bite_f ?_ ?_); (next => exact zd))
      | (with_reducible refine Im.byl ?_)
      | ((with_reducible refine Im.vget ByteArray.empty ?_ ?_ ?_); (next => exact zd); (next => exact zd))
      | ((with_reducible refine Im.vget z86 ?_ ?_ ?_); (next => exact zd); (next => exact zd))
      | ((with_reducible refine Im.vget z133 ?_ ?_ ?_); (next => exact zd); (next => exact zd))
      | ((with_reducible refine Im.vget (0 : Int) ?_ ?_ ?_); (next => exact zd); (next => exact zd))
      | ((with_reducible refine Im.vget false ?_ ?_ ?_); (next => exact zd); (next => exact zd))
      | ((with_reducible refine Im.call (laws_eqBound.vi hG ?_ _ _ _ _) ?_ (fun r hr => ?_)); (next => omega); (next => exact zr))
      | ((with_reducible refine Im.loop (S := fun s : List (S86) × List (S86) × Int => [.sl (s.1.map e86), .sl (s.2.1.map e86), .un, .un, .un, .int s.2.2, .un, .un, .un, .un, .un, .un, .un, .un, .un, .un, .un, .un, .un, .un, .un, .un, .un, .un, .un, .un, .un]) (L := fun k s => laws_eqBoundS.l0 k s.1 s.2.1 s.2.2) _ ?_ ?_ _ _ ⟨_, _, _⟩ _ (Nat.le_refl _) zo ?_)
         (next => intro s; rfl)
         (next =>
           intro k1 M1 ⟨x0, x1, x5⟩ hk1 hM1 ih1
           conv => arg 2; simp only [laws_eqBoundS.l0]
           repeat' first
             | (with_reducible first | exact Im.none | refine Im.ite (fun h => ?_) (fun h => ?_) | refine Im.sbind ?_)
             | ((conv => arg 3; whnf); first
               | ((with_reducible refine Im.fin ?_); exact zr)
               | ((with_reducible refine Im.anyo ?_ ?_); (next => kernel_rfl))
               | ((with_reducible refine Im.bite_t ?_ ?_); (next => exact zq))
               | ((with_reducible refine Im.bite_f ?_ ?_); (next => exact zq))
               | ((with_reducible refine Im.bite_t ?_ ?_); (next => exact zd))
               | ((with_reducible refine Im.must ?_ ?_); (next => exact zd))
               | ((with_reducible refine Im.bite_f ?_ ?_); (next => exact zd))
               | (with_reducible refine Im.byl ?_)
               | ((with_reducible refine Im.vget ByteArray.empty ?_ ?_ ?_); (next => exact zd); (next => exact zd))
               | ((with_reducible refine Im.vget z86 ?_ ?_ ?_); (next => exact zd); (next => exact zd))
               | ((with_reducible refine Im.vget z133 ?_ ?_ ?_); (next => exact zd); (next => exact zd))
               | ((with_reducible refine Im.vget (0 : Int) ?_ ?_ ?_); (next => exact zd); (next => exact zd))
               | ((with_reducible refine Im.vget false ?_ ?_ ?_); (next => exact zd); (next => exact zd))
               | ((with_reducible refine Im.call (laws_eqBound.vi hG ?_ _ _ _ _) ?_ (fun r hr => ?_)); (next => omega); (next => exact zr))
               | ((with_reducible refine ih1 _ ⟨_, _, _⟩ _ ?_ ?_); (next => exact zo); exact zr)
               | exact zm | exact zx | fail)
           all_goals skip)
         exact zr)
      | exact zm | exact zx | fail)
  all_goals skip
theorem laws_eqStringS.vi {k m : Nat} {Gv : FuncId → Option (List VV → Option (VV × List VV))} (hG : Base Gv) (hm : k + 1 ≤ m) (l0 : List ByteArray) (l1 : List ByteArray) : Im (fun r => (.bool r, [])) (laws_eqStringS.f k l0 l1) (callv Tryz.prog ti keep Gv m 63 [.sl (l0.map VV.str), .sl (l1.map VV.str)]) := by
  obtain ⟨m, rfl⟩ : ∃ m', m = m' + 1 := ⟨m - 1, by omega⟩
  rw [show callv Tryz.prog ti keep Gv (m + 1) 63 _ = _ from callv_enter ((hG 63 (by decide)).trans rfl) Tryz.func63 (by kernel_rfl) rfl rfl]
  unfold laws_eqStringS.f
  repeat' first
    | (with_reducible first | exact Im.none | refine Im.ite (fun h => ?_) (fun h => ?_) | refine Im.sbind ?_)
    | ((conv => arg 3; whnf); first
      | ((with_reducible refine Im.fin ?_); exact zr)
      | ((with_reducible refine Im.anyo ?_ ?_); (next => kernel_rfl))
      | ((with_reducible refine Im.bite_t ?_ ?_); (next => exact zq))
      | ((with_reducible refine Im.bite_f ?_ ?_); (next => exact zq))
      | ((with_reducible refine Im.bite_t ?_ ?_); (next => exact zd))
      | ((with_reducible refine Im.must ?_ ?_); (next => exact zd))
      | ((with_reducible refine Im.bite_f ?_ ?_); (next => exact zd))
      | (with_reducible refine Im.byl ?_)
      | ((with_reducible refine Im.vget ByteArray.empty ?_ ?_ ?_); (next => exact zd); (next => exact zd))
      | ((with_reducible refine Im.vget z86 ?_ ?_ ?_); (next => exact zd); (next => exact zd))
      | ((with_reducible refine Im.vget z133 ?_ ?_ ?_); (next => exact zd); (next => exact zd))
      | ((with_reducible refine Im.vget (0 : Int) ?_ ?_ ?_); (next => exact zd); (next => exact zd))
      | ((with_reducible refine Im.vget false ?_ ?_ ?_); (next => exact zd); (next => exact zd))
      | ((with_reducible refine Im.loop (S := fun s : List ByteArray × List ByteArray × Int => [.sl (s.1.map VV.str), .sl (s.2.1.map VV.str), .un, .un, .un, .int s.2.2, .un, .un, .un, .un, .un, .un, .un, .un, .un, .un, .un, .un, .un, .un, .un, .un, .un, .un, .un, .un]) (L := fun k s => laws_eqStringS.l0 k s.1 s.2.1 s.2.2) _ ?_ ?_ _ _ ⟨_, _, _⟩ _ (Nat.le_refl _) zo ?_)
         (next => intro s; rfl)
         (next =>
           intro k1 M1 ⟨x0, x1, x5⟩ hk1 hM1 ih1
           conv => arg 2; simp only [laws_eqStringS.l0]
           repeat' first
             | (with_reducible first | exact Im.none | refine Im.ite (fun h => ?_) (fun h => ?_) | refine Im.sbind ?_)
             | ((conv => arg 3; whnf); first
               | ((with_reducible refine Im.fin ?_); exact zr)
               | ((with_reducible refine Im.anyo ?_ ?_); (next => kernel_rfl))
               | ((with_reducible refine Im.bite_t ?_ ?_); (next => exact zq))
               | ((with_reducible refine Im.bite_f ?_ ?_); (next => exact zq))
               | ((with_reducible refine Im.bite_t ?_ ?_); (next => exact zd))
               | ((with_reducible refine Im.must ?_ ?_); (next => exact zd))
               | ((with_reducible refine Im.bite_f ?_ ?_); (next => exact zd))
               | (with_reducible refine Im.byl ?_)
               | ((with_reducible refine Im.vget ByteArray.empty ?_ ?_ ?_); (next => exact zd); (next => exact zd))
               | ((with_reducible refine Im.vget z86 ?_ ?_ ?_); (next => exact zd); (next => exact zd))
               | ((with_reducible refine Im.vget z133 ?_ ?_ ?_); (next => exact zd); (next => exact zd))
               | ((with_reducible refine Im.vget (0 : Int) ?_ ?_ ?_); (next => exact zd); (next => exact zd))
               | ((with_reducible refine Im.vget false ?_ ?_ ?_); (next => exact zd); (next => exact zd))
               | ((with_reducible refine ih1 _ ⟨_, _, _⟩ _ ?_ ?_); (next => exact zo); exact zr)
               | exact zm | exact zx | fail)
           all_goals skip)
         exact zr)
      | exact zm | exact zx | fail)
  all_goals skip
theorem laws_szBound.vi {m : Nat} {Gv : FuncId → Option (List VV → Option (VV × List VV))} (hG : Base Gv) (hm : 1 ≤ m) (a0_0 : ByteArray) (a0_1 : ByteArray) (a1 : Int) : Im (fun r => (.int r, [])) (laws_szBound.f a0_0 a0_1 a1) (callv Tryz.prog ti keep Gv m 157 [.ag [.str a0_0, .str a0_1], .int a1]) := by
  obtain ⟨m, rfl⟩ : ∃ m', m = m' + 1 := ⟨m - 1, by omega⟩
  rw [show callv Tryz.prog ti keep Gv (m + 1) 157 _ = _ from callv_enter ((hG 157 (by decide)).trans rfl) Tryz.func157 (by kernel_rfl) rfl rfl]
  unfold laws_szBound.f
  repeat' first
    | (with_reducible first | exact Im.none | refine Im.ite (fun h => ?_) (fun h => ?_) | refine Im.sbind ?_)
    | ((conv => arg 3; whnf); first
      | ((with_reducible refine Im.fin ?_); exact zr)
      | ((with_reducible refine Im.anyo ?_ ?_); (next => kernel_rfl))
      | ((with_reducible refine Im.bite_t ?_ ?_); (next => exact zq))
      | ((with_reducible refine Im.bite_f ?_ ?_); (next => exact zq))
      | ((with_reducible refine Im.bite_t ?_ ?_); (next => exact zd))
      | ((with_reducible refine Im.must ?_ ?_); (next => exact zd))
      | ((with_reducible refine Im.bite_f ?_ ?_); (next => exact zd))
      | (with_reducible refine Im.byl ?_)
      | ((with_reducible refine Im.vget ByteArray.empty ?_ ?_ ?_); (next => exact zd); (next => exact zd))
      | ((with_reducible refine Im.vget z86 ?_ ?_ ?_); (next => exact zd); (next => exact zd))
      | ((with_reducible refine Im.vget z133 ?_ ?_ ?_); (next => exact zd); (next => exact zd))
      | ((with_reducible refine Im.vget (0 : Int) ?_ ?_ ?_); (next => exact zd); (next => exact zd))
      | ((with_reducible refine Im.vget false ?_ ?_ ?_); (next => exact zd); (next => exact zd))
      | exact zm | exact zx | fail)
  all_goals skip
theorem laws_szBoundS.vi {k m : Nat} {Gv : FuncId → Option (List VV → Option (VV × List VV))} (hG : Base Gv) (hm : k + 2 ≤ m) (l0 : List (S133)) (a1 : Int) : Im (fun r => (.int r, [])) (laws_szBoundS.f k l0 a1) (callv Tryz.prog ti keep Gv m 79 [.sl (l0.map e133), .int a1]) := by
  obtain ⟨m, rfl⟩ : ∃ m', m = m' + 1 := ⟨m - 1, by omega⟩
  rw [show callv Tryz.prog ti keep Gv (m + 1) 79 _ = _ from callv_enter ((hG 79 (by decide)).trans rfl) Tryz.func79 (by kernel_rfl) rfl rfl]
  unfold laws_szBoundS.f
  repeat' first
    | (with_reducible first | exact Im.none | refine Im.ite (fun h => ?_) (fun h => ?_) | refine Im.sbind ?_)
    | ((conv => arg 3; whnf); first
      | ((with_reducible refine Im.fin ?_); exact zr)
      | ((with_reducible refine Im.anyo ?_ ?_); (next => kernel_rfl))
      | ((with_reducible refine Im.bite_t ?_ ?_); (next => exact zq))
      | ((with_reducible refine Im.bite_f ?_ ?_); (next => exact zq))
      | ((with_reducible refine Im.bite_t ?_ ?_); (next => exact zd))
      | ((with_reducible refine Im.must ?_ ?_); (next => exact zd))
      | ((with_reducible refine Im.bite_f ?_ ?_); (next => exact zd))
      | (with_reducible refine Im.byl ?_)
      | ((with_reducible refine Im.vget ByteArray.empty ?_ ?_ ?_); (next => exact zd); (next => exact zd))
      | ((with_reducible refine Im.vget z86 ?_ ?_ ?_); (next => exact zd); (next => exact zd))
      | ((with_reducible refine Im.vget z133 ?_ ?_ ?_); (next => exact zd); (next => exact zd))
      | ((with_reducible refine Im.vget (0 : Int) ?_ ?_ ?_); (next => exact zd); (next => exact zd))
      | ((with_reducible refine Im.vget false ?_ ?_ ?_); (next => exact zd); (next => exact zd))
      | ((with_reducible refine Im.call (laws_szBound.vi hG ?_ _ _ _) ?_ (fun r hr => ?_)); (next => omega); (next => exact zr))
      | ((with_reducible refine Im.loop (S := fun s : List (S133) × Int × Int => [.sl (s.1.map e133), .int s.2.1, .un, .un, .un, .int s.2.2, .un, .un, .un, .un, .un, .un, .un, .un, .un, .un, .un, .un, .un, .un, .un, .un, .un, .un, .un, .un, .un]) (L := fun k s => laws_szBoundS.l0 k s.1 s.2.1 s.2.2) _ ?_ ?_ _ _ ⟨_, _, _⟩ _ (Nat.le_refl _) zo ?_)
         (next => intro s; rfl)
         (next =>
           intro k1 M1 ⟨x0, x1, x5⟩ hk1 hM1 ih1
           conv => arg 2; simp only [laws_szBoundS.l0]
           repeat' first
             | (with_reducible first | exact Im.none | refine Im.ite (fun h => ?_) (fun h => ?_) | refine Im.sbind ?_)
             | ((conv => arg 3; whnf); first
               | ((with_reducible refine Im.fin ?_); exact zr)
               | ((with_reducible refine Im.anyo ?_ ?_); (next => kernel_rfl))
               | ((with_reducible refine Im.bite_t ?_ ?_); (next => exact zq))
               | ((with_reducible refine Im.bite_f ?_ ?_); (next => exact zq))
               | ((with_reducible refine Im.bite_t ?_ ?_); (next => exact zd))
               | ((with_reducible refine Im.must ?_ ?_); (next => exact zd))
               | ((with_reducible refine Im.bite_f ?_ ?_); (next => exact zd))
               | (with_reducible refine Im.byl ?_)
               | ((with_reducible refine Im.vget ByteArray.empty ?_ ?_ ?_); (next => exact zd); (next => exact zd))
               | ((with_reducible refine Im.vget z86 ?_ ?_ ?_); (next => exact zd); (next => exact zd))
               | ((with_reducible refine Im.vget z133 ?_ ?_ ?_); (next => exact zd); (next => exact zd))
               | ((with_reducible refine Im.vget (0 : Int) ?_ ?_ ?_); (next => exact zd); (next => exact zd))
               | ((with_reducible refine Im.vget false ?_ ?_ ?_); (next => exact zd); (next => exact zd))
               | ((with_reducible refine Im.call (laws_szBound.vi hG ?_ _ _ _) ?_ (fun r hr => ?_)); (next => omega); (next => exact zr))
               | ((with_reducible refine ih1 _ ⟨_, _, _⟩ _ ?_ ?_); (next => exact zo); exact zr)
               | exact zm | exact zx | fail)
           all_goals skip)
         exact zr)
      | exact zm | exact zx | fail)
  all_goals skip
theorem laws_szStringS.vi {k m : Nat} {Gv : FuncId → Option (List VV → Option (VV × List VV))} (hG : Base Gv) (hm : k + 1 ≤ m) (l0 : List ByteArray) (a1 : Int) : Im (fun r => (.int r, [])) (laws_szStringS.f k l0 a1) (callv Tryz.prog ti keep Gv m 68 [.sl (l0.map VV.str), .int a1]) := by
  obtain ⟨m, rfl⟩ : ∃ m', m = m' + 1 := ⟨m - 1, by omega⟩
  rw [show callv Tryz.prog ti keep Gv (m + 1) 68 _ = _ from callv_enter ((hG 68 (by decide)).trans rfl) Tryz.func68 (by kernel_rfl) rfl rfl]
  unfold laws_szStringS.f
  repeat' first
    | (with_reducible first | exact Im.none | refine Im.ite (fun h => ?_) (fun h => ?_) | refine Im.sbind ?_)
    | ((conv => arg 3; whnf); first
      | ((with_reducible refine Im.fin ?_); exact zr)
      | ((with_reducible refine Im.anyo ?_ ?_); (next => kernel_rfl))
      | ((with_reducible refine Im.bite_t ?_ ?_); (next => exact zq))
      | ((with_reducible refine Im.bite_f ?_ ?_); (next => exact zq))
      | ((with_reducible refine Im.bite_t ?_ ?_); (next => exact zd))
      | ((with_reducible refine Im.must ?_ ?_); (next => exact zd))
      | ((with_reducible refine Im.bite_f ?_ ?_); (next => exact zd))
      | (with_reducible refine Im.byl ?_)
      | ((with_reducible refine Im.vget ByteArray.empty ?_ ?_ ?_); (next => exact zd); (next => exact zd))
      | ((with_reducible refine Im.vget z86 ?_ ?_ ?_); (next => exact zd); (next => exact zd))
      | ((with_reducible refine Im.vget z133 ?_ ?_ ?_); (next => exact zd); (next => exact zd))
      | ((with_reducible refine Im.vget (0 : Int) ?_ ?_ ?_); (next => exact zd); (next => exact zd))
      | ((with_reducible refine Im.vget false ?_ ?_ ?_); (next => exact zd); (next => exact zd))
      | ((with_reducible refine Im.loop (S := fun s : List ByteArray × Int × Int => [.sl (s.1.map VV.str), .int s.2.1, .un, .un, .un, .int s.2.2, .un, .un, .un, .un, .un, .un, .un, .un, .un, .un, .un, .un, .un, .un, .un, .un, .un, .un, .un, .un, .un, .un]) (L := fun k s => laws_szStringS.l0 k s.1 s.2.1 s.2.2) _ ?_ ?_ _ _ ⟨_, _, _⟩ _ (Nat.le_refl _) zo ?_)
         (next => intro s; rfl)
         (next =>
           intro k1 M1 ⟨x0, x1, x5⟩ hk1 hM1 ih1
           conv => arg 2; simp only [laws_szStringS.l0]
           repeat' first
             | (with_reducible first | exact Im.none | refine Im.ite (fun h => ?_) (fun h => ?_) | refine Im.sbind ?_)
             | ((conv => arg 3; whnf); first
               | ((with_reducible refine Im.fin ?_); exact zr)
               | ((with_reducible refine Im.anyo ?_ ?_); (next => kernel_rfl))
               | ((with_reducible refine Im.bite_t ?_ ?_); (next => exact zq))
               | ((with_reducible refine Im.bite_f ?_ ?_); (next => exact zq))
               | ((with_reducible refine Im.bite_t ?_ ?_); (next => exact zd))
               | ((with_reducible refine Im.must ?_ ?_); (next => exact zd))
               | ((with_reducible refine Im.bite_f ?_ ?_); (next => exact zd))
               | (with_reducible refine Im.byl ?_)
               | ((with_reducible refine Im.vget ByteArray.empty ?_ ?_ ?_); (next => exact zd); (next => exact zd))
               | ((with_reducible refine Im.vget z86 ?_ ?_ ?_); (next => exact zd); (next => exact zd))
               | ((with_reducible refine Im.vget z133 ?_ ?_ ?_); (next => exact zd); (next => exact zd))
               | ((with_reducible refine Im.vget (0 : Int) ?_ ?_ ?_); (next => exact zd); (next => exact zd))
               | ((with_reducible refine Im.vget false ?_ ?_ ?_); (next => exact zd); (next => exact zd))
               | ((with_reducible refine ih1 _ ⟨_, _, _⟩ _ ?_ ?_); (next => exact zo); exact zr)
               | exact zm | exact zx | fail)
           all_goals skip)
         exact zr)
      | exact zm | exact zx | fail)
  all_goals skip
theorem laws_toBound.vi {m : Nat} {Gv : FuncId → Option (List VV → Option (VV × List VV))} (hG : Base Gv) (hm : 1 ≤ m) (a0_0 : ByteArray) (a0_1 : ByteArray) : Im (fun r => (.ag [.str r.1, .str r.2], [])) (laws_toBound.f a0_0 a0_1) (callv Tryz.prog ti keep Gv m 158 [.ag [.str a0_0, .str a0_1]]) := by
  obtain ⟨m, rfl⟩ : ∃ m', m = m' + 1 := ⟨m - 1, by omega⟩
  rw [show callv Tryz.prog ti keep Gv (m + 1) 158 _ = _ from callv_enter ((hG 158 (by decide)).trans rfl) Tryz.func158 (by kernel_rfl) rfl rfl]
  unfold laws_toBound.f
  repeat' first
    | (with_reducible first | exact Im.none | refine Im.ite (fun h => ?_) (fun h => ?_) | refine Im.sbind ?_)
    | ((conv => arg 3; whnf); first
      | ((with_reducible refine Im.fin ?_); exact zr)
      | ((with_reducible refine Im.anyo ?_ ?_); (next => kernel_rfl))
      | ((with_reducible refine Im.bite_t ?_ ?_); (next => exact zq))
      | ((with_reducible refine Im.bite_f ?_ ?_); (next => exact zq))
      | ((with_reducible refine Im.bite_t ?_ ?_); (next => exact zd))
      | ((with_reducible refine Im.must ?_ ?_); (next => exact zd))
      | ((with_reducible refine Im.bite_f ?_ ?_); (next => exact zd))
      | (with_reducible refine Im.byl ?_)
      | ((with_reducible refine Im.vget ByteArray.empty ?_ ?_ ?_); (next => exact zd); (next => exact zd))
      | ((with_reducible refine Im.vget z86 ?_ ?_ ?_); (next => exact zd); (next => exact zd))
      | ((with_reducible refine Im.vget z133 ?_ ?_ ?_); (next => exact zd); (next => exact zd))
      | ((with_reducible refine Im.vget (0 : Int) ?_ ?_ ?_); (next => exact zd); (next => exact zd))
      | ((with_reducible refine Im.vget false ?_ ?_ ?_); (next => exact zd); (next => exact zd))
      | exact zm | exact zx | fail)
  all_goals skip
theorem laws_toBoundS.vi {k m : Nat} {Gv : FuncId → Option (List VV → Option (VV × List VV))} (hG : Base Gv) (hm : k + 2 ≤ m) (l0 : List (S133)) : Im (fun r => (.ow 86 2 (r.map e86), [])) (laws_toBoundS.f k l0) (callv Tryz.prog ti keep Gv m 81 [.sl (l0.map e133)]) := by
  obtain ⟨m, rfl⟩ : ∃ m', m = m' + 1 := ⟨m - 1, by omega⟩
  rw [show callv Tryz.prog ti keep Gv (m + 1) 81 _ = _ from callv_enter ((hG 81 (by decide)).trans rfl) Tryz.func81 (by kernel_rfl) rfl rfl]
  unfold laws_toBoundS.f
  repeat' first
    | (with_reducible first | exact Im.none | refine Im.ite (fun h => ?_) (fun h => ?_) | refine Im.sbind ?_)
    | ((conv => arg 3; whnf); first
      | ((with_reducible refine Im.fin ?_); exact zr)
      | ((with_reducible refine Im.anyo ?_ ?_); (next => kernel_rfl))
      | ((with_reducible refine Im.bite_t ?_ ?_); (next => exact zq))
      | ((with_reducible refine Im.bite_f ?_ ?_); (next => exact zq))
      | ((with_reducible refine Im.bite_t ?_ ?_); (next => exact zd))
      | ((with_reducible refine Im.must ?_ ?_); (next => exact zd))
      | ((with_reducible refine Im.bite_f ?_ ?_); (next => exact zd))
      | (with_reducible refine Im.byl ?_)
      | ((with_reducible refine Im.vget ByteArray.empty ?_ ?_ ?_); (next => exact zd); (next => exact zd))
      | ((with_reducible refine Im.vget z86 ?_ ?_ ?_); (next => exact zd); (next => exact zd))
      | ((with_reducible refine Im.vget z133 ?_ ?_ ?_); (next => exact zd); (next => exact zd))
      | ((with_reducible refine Im.vget (0 : Int) ?_ ?_ ?_); (next => exact zd); (next => exact zd))
      | ((with_reducible refine Im.vget false ?_ ?_ ?_); (next => exact zd); (next => exact zd))
      | ((with_reducible refine Im.call (laws_toBound.vi hG ?_ _ _) ?_ (fun r hr => ?_)); (next => omega); (next => exact zr))
      | ((with_reducible refine Im.loop (S := fun s : List (S133) × List (S86) × Int => [.sl (s.1.map e133), .un, .un, .sr 7 s.2.1.length, .int s.2.2, .un, .un, .mr 86 2 (s.2.1.map e86), .un, .un, .un, .un, .un, .un, .un, .un, .un, .un, .un, .un, .un, .un, .un]) (L := fun k s => laws_toBoundS.l0 k s.1 s.2.1 s.2.2) _ ?_ ?_ _ _ ⟨_, _, _⟩ _ (Nat.le_refl _) zo ?_)
         (next => intro s; rfl)
         (next =>
           intro k1 M1 ⟨x0, x3, x4⟩ hk1 hM1 ih1
           conv => arg 2; simp only [laws_toBoundS.l0]
           repeat' first
             | (with_reducible first | exact Im.none | refine Im.ite (fun h => ?_) (fun h => ?_) | refine Im.sbind ?_)
             | ((conv => arg 3; whnf); first
               | ((with_reducible refine Im.fin ?_); exact zr)
               | ((with_reducible refine Im.anyo ?_ ?_); (next => kernel_rfl))
               | ((with_reducible refine Im.bite_t ?_ ?_); (next => exact zq))
               | ((with_reducible refine Im.bite_f ?_ ?_); (next => exact zq))
               | ((with_reducible refine Im.bite_t ?_ ?_); (next => exact zd))
               | ((with_reducible refine Im.must ?_ ?_); (next => exact zd))
               | ((with_reducible refine Im.bite_f ?_ ?_); (next => exact zd))
               | (with_reducible refine Im.byl ?_)
               | ((with_reducible refine Im.vget ByteArray.empty ?_ ?_ ?_); (next => exact zd); (next => exact zd))
               | ((with_reducible refine Im.vget z86 ?_ ?_ ?_); (next => exact zd); (next => exact zd))
               | ((with_reducible refine Im.vget z133 ?_ ?_ ?_); (next => exact zd); (next => exact zd))
               | ((with_reducible refine Im.vget (0 : Int) ?_ ?_ ?_); (next => exact zd); (next => exact zd))
               | ((with_reducible refine Im.vget false ?_ ?_ ?_); (next => exact zd); (next => exact zd))
               | ((with_reducible refine Im.call (laws_toBound.vi hG ?_ _ _) ?_ (fun r hr => ?_)); (next => omega); (next => exact zr))
               | ((with_reducible refine ih1 _ ⟨_, _, _⟩ _ ?_ ?_); (next => exact zo); exact zr)
               | exact zm | exact zx | fail)
           all_goals skip)
         exact zr)
      | exact zm | exact zx | fail)
  all_goals skip
end Go.Proofs.YtcfeihimmboghaaGreatDoor.VI

end
