/- A part of the proof that the law FnPick answers true at every input that its row speaks of. Conditions: the row's own. -/
import Derived.Test.YtoidompkofomjaaGreatDoorMFnPick8
import Derived.Test.YtoidompkofomjaaGreatDoorMFnPick7
import Derived.Test.YtoidompkofomjaaGreatDoorMFnPick3
import Derived.Sort.OwnSorted
import Derived.WalkKit
import Derived.Test.YtoidompkofomjaaGreatDoorMFnPick6
import Derived.Test.YtoidompkofomjaaGreatDoorKFnPick1
import Derived.Test.YtoidompkofomjaaGreatDoorMFnPick2
import Derived.Test.YtoidompkofomjaaGreatDoorKFnPick0
import Derived.Test.YtoidompkofomjaaGreatDoorRows
import Derived.Test.YtoidompkofomjaaGreatDoorOp
import Derived.Test.YtoidompkofomjaaGreatDoorCards
import Derived.Test.YtoidompkofomjaaGreatDoorTie
import Derived.Test.YtoidompkofomjaaGreatDoorLaid
import Derived.Test.YtoidompkofomjaaGreatDoorFacts
import Derived.ProofKit
import Derived.OpenShut
import Derived.ShutString
import Derived.ChangeOld
import Derived.Below
import Derived.SizedLaws
import Derived.Carry
import Derived.Deep.DeepHandedRow
import Derived.Deep.DeepWitnessRowRef
section
namespace Go.Proofs.YtoidompkofomjaaGreatDoor.VI
open Go Go.RowKit Go.Sort Go.Lib Go.Proofs Go.Proofs.YtoidompkofomjaaGreatDoor.G Go.Proofs.YtoidompkofomjaaGreatDoorW.PrintWords
set_option maxRecDepth 100000
set_option linter.unusedVariables false
set_option linter.unusedSimpArgs false
theorem below_grow {w w' : World} (h : Below w.heap.size w w') (hd : w.drawn ≤ w'.drawn) : ∃ q os', w' = grow (w.drewN q) os' := by
  have hh : w'.heap = w.heap ++ w'.heap.extract w.heap.size w'.heap.size := by
    apply Array.ext_getElem?
    intro k
    by_cases hk : k < w.heap.size
    · rw [Array.getElem?_append_left hk]; exact h.block k hk
    · rw [Array.getElem?_append_right (by omega), Array.getElem?_extract]
      have := h.size
      split
      · congr 1; omega
      · rw [Array.getElem?_eq_none (by omega)]
  refine ⟨w'.drawn - w.drawn, w'.heap.extract w.heap.size w'.heap.size, ?_⟩
  have e1 := h.os; have e2 := h.tape; have e3 := h.output
  obtain ⟨a1, a2, a3, a4, a5⟩ := w
  obtain ⟨b1, b2, b3, b4, b5⟩ := w'
  simp only at e1 e2 e3 hh hd
  subst e1; subst e2; subst e3
  simp only [grow, World.drewN]
  congr 1
  omega
abbrev Ver := {s : List UInt8 // U.isVer s = true ∧ s.length ≤ 1048576}
def cfV (x y : Ver) : Int := U.cmpS x.1 y.1
def encV (x : Ver) : Value := encStr x.1
section
variable {W : World}
theorem cmp_calls (hE : Glob FactE W) (hM : Glob FactM W) (hT : Glob FactT W) {w : World} (hw : Below W.heap.size W w) (s t : ByteArray) (hs : s.size ≤ 1048576) (ht : t.size ≤ 1048576) :
    Calls Tryz.prog 23 #[.string s, .string t] w fun e w' => e = .returned (.int .i64 (U.cmpS (U.L s) (U.L t))) ∧ ∃ q os', w' = grow (w.drewN q) os' := by
  obtain ⟨k0, hk⟩ := U.impl_compareTexts_ev s t hs ht
  have gws : ∀ a b, Below W.heap.size W a → Below W.heap.size a b → Below W.heap.size W b := fun a b h1 h2 => h1.trans h2
  have hok := callv_ok (P := Tryz.prog) (NG := W.heap.size) (GW := fun a => Below W.heap.size W a) VI.hti gws (keep := keep) (Gv := Gv0) (given_ok0 hE hM hT) (fun C hC hc => any_sound (by kernel_rfl) (by rw [hC]; exact VI.hti) gws hc) (k0 + 20)
  have h1 := CallOk1.calls (hok 23 _ _ rfl (impl_compareTexts.vi (k := k0) (m := k0 + 20) base0 (by omega) s t _ (hk k0 (Nat.le_refl _)))) hw hw.size (.cons _ _ _ _ (.s (.string s)) (.cons _ _ _ _ (.s (.string t)) .nil))
  refine (U.calls_drawn h1).mono fun e w' ⟨⟨he, hb⟩, hd⟩ => ⟨he, below_grow hb (hd _ he)⟩
theorem below_sort {α : Type} [Inhabited α] {enc : α → Value} {w : World} {blk n : Nat} {d : Array α} {os : Array Obj} (hw : Below W.heap.size W w) (hb : W.heap.size ≤ blk) : Below W.heap.size W (sortWorld enc w blk 0 n d os) := by
  refine ⟨hw.os, hw.tape, hw.output, ?_, fun k hk => ?_⟩
  · have := hw.size
    simp only [sortWorld, Go.Sort.size_grow, size_putRow, heap_ahead]
    omega
  · rw [← hw.block k hk]
    have h1 := hw.size
    simp only [sortWorld]
    rw [Go.Sort.heap_grow_old _ _ (by simp only [size_putRow, heap_ahead]; omega)]
    have : blk ≠ k := by omega
    simp [putRow, mapBlock, Sort.ahead, Array.getElem?_modify, this]
theorem cmp_lays [Inhabited Ver] (hE : Glob FactE W) (hM : Glob FactM W) (hT : Glob FactT W) {w : World} (hw : Below W.heap.size W w) {blk : Nat} (hb : W.heap.size ≤ blk) (size : Nat) : CmpLays1 Tryz.prog 23 #[] encV cfV blk 0 size w := by
  intro m os dk hs x y
  have h := cmp_calls hE hM hT (below_sort (enc := encV) (n := m) (d := dk) (os := os) hw hb) ⟨x.1.toArray⟩ ⟨y.1.toArray⟩ (by have := x.2.2; simpa [ByteArray.size] using this) (by have := y.2.2; simpa [ByteArray.size] using this)
  refine (show Calls Tryz.prog 23 (#[encV x, encV y] ++ #[]) (sortWorld encV w blk 0 m dk os) _ from h).mono fun e w' ⟨he, q, os', hq⟩ => ⟨?_, q, os', hq⟩
  rw [he]
  simp only [cfV]
  rw [show U.L ⟨x.1.toArray⟩ = x.1 from by simp [U.L], show U.L ⟨y.1.toArray⟩ = y.1 from by simp [U.L]]
theorem eg41 (args : Array Value) (w : World) : (callFunc 23 args).run Tryz.prog w = .ok (.enter 23 args) w := by
  obtain ⟨fn, hf, hn, hb⟩ : FnOk Tryz.prog 23 := ⟨_, Tryz.func23, by kernel_rfl, by kernel_rfl⟩
  obtain ⟨c, hc⟩ := Option.isSome_iff_exists.1 hb
  have h1 : fn.name ≠ "runtime.NumGoroutine" := by simpa using hn
  simp [callFunc, hf, h1, hc]
theorem cf_keyed : U.Keyed cfV (fun x => U.verK x.1) := fun x y => U.cmpS_keyed x.1 y.1
theorem sort_calls [Inhabited Ver] (hE : Glob FactE W) (hM : Glob FactM W) (hT : Glob FactT W) {w : World} (hw : Below W.heap.size W w) {blk cap : Nat} (hb : W.heap.size ≤ blk) (hblk : blk < w.heap.size) (d : Array Ver) (hH : Holds encV w blk 0 d) (hsz : d.size ≤ 1048576) :
    Calls Tryz.prog 38 #[.slice (some ⟨blk, 0, none⟩) d.size cap, .func (.func 23) #[] #[]] w fun e w' => e = .returned (.tuple #[]) ∧ ∃ n os, w' = sortWorld encV w blk 0 n (d.toList.mergeSort fun x y => !(ltOf cfV) y x).toArray os :=
  Tryz.slices_SortFunc_total encV (fun _ => rfl) cfV (cf_keyed.swo) 23 #[] blk 0 cap d w eg41 (cmp_lays hE hM hT hw hb d.size) hH hblk (by omega) (fun x y h1 h2 => by
    have h3 : cfV x y = 0 := by
      have e1 : ¬ cfV x y < 0 := by simpa [ltOf] using h1
      have e2 : ¬ cfV y x < 0 := by simpa [ltOf] using h2
      have := cf_keyed.anti x y
      omega
    exact Subtype.ext (U.cmpS_inj x.2.1 y.2.1 h3))
end
section
variable {W : World}
theorem pre_wp (hE : Glob FactE W) (hM : Glob FactM W) (hT : Glob FactT W) {w : World} (hw : Below W.heap.size W w) {pd : Nat → Nat → Prop} {m0 : Value} {l0 : List ByteArray} (h0 : DR pd w (.sl (l0.map VV.str)) m0) {k : Nat} {r : List ByteArray} (h : impl_SortPre.f k l0 = some r) {Q : Exit → Act → World → Prop}
    (next : ∀ G' env' a' w', Sim W.heap.size (fun a => Below W.heap.size W a) [] w pd G' env' a' w' → get env' 3 = .ow 9 1 (r.map VV.str) → a'.tmps.size = 24 → (sR (sR (sR code20))).wp Tryz.prog Q a' w') :
    code20.wp Tryz.prog Q { tmps := #[m0] ++ Array.replicate (Tryz.f19.ntmps - (#[m0] : Array Value).size) undef, defers := [] } w := by
  have gws : ∀ a b, Below W.heap.size W a → Below W.heap.size a b → Below W.heap.size W b := fun a b h1 h2 => h1.trans h2
  have hA : ∀ C : Cx, C.ti = ti → CallOk Tryz.prog W.heap.size (fun a => Below W.heap.size W a) C.call → AnyOk Tryz.prog W.heap.size (fun a => Below W.heap.size W a) C := fun C hC hc => any_sound (by kernel_rfl) (by rw [hC]; exact VI.hti) gws hc
  have ih := callv_ok (P := Tryz.prog) (NG := W.heap.size) (GW := fun a => Below W.heap.size W a) VI.hti gws (keep := keep) (Gv := Gv0) (given_ok0 hE hM hT) hA (k + 20)
  let C : Cx := ⟨ti, callv Tryz.prog ti keep Gv0 (k + 20), k + 20⟩
  have hrun : pre3 C (keep 19) (start Tryz.f19 [.sl (l0.map VV.str)]) = some (.ow 9 1 (r.map VV.str)) := impl_SortPre.run (k := k) (m := k + 20) (by omega) l0 r h
  let G0 : Gh := ⟨pd, pd, fun _ => 0, fun _ => none, w.heap.size⟩
  have hs0 : Sim W.heap.size (fun a => Below W.heap.size W a) [] w pd G0 (start Tryz.f19 [.sl (l0.map VV.str)]) { tmps := #[m0] ++ Array.replicate (Tryz.f19.ntmps - (#[m0] : Array Value).size) undef, defers := [] } w := by
    refine { size := (by simp [start]), slot := ?_, df := rfl, fr := Fr.refl _ _ _, gw := hw, ng := hw.size, ngio := (by simp), own := (fun g p h => by cases h), ownp := (fun g k h => absurd rfl h), dv := (fun _ _ h => h), B := rfl, old := (fun g k _ h => h) }
    intro t v u hv hu
    cases t with
    | zero =>
      simp [start] at hv hu
      subst hv; subst hu
      exact h0
    | succ t =>
      rw [start, List.getElem?_append_right (by simp)] at hv
      have := List.eq_of_mem_replicate (List.mem_of_getElem? hv)
      subst this
      exact SlotR.un
  have hc : code20 = (sL code20).seq ((sL (sR code20)).seq ((sL (sR (sR code20))).seq (sR (sR (sR code20))))) := by kernel_rfl
  rw [hc]
  refine wp_seq (run_sound (C := C) VI.hti gws ih (hA C rfl ih) (keep 19) (sL code20) 0 G0 _ _ w _ _ hs0 hrun fun e G' env' a' w' hs' h' => ?_)
  cases e with
  | normal =>
    refine wp_seq (run_sound (C := C) VI.hti gws ih (hA C rfl ih) (keep 19) (sL (sR code20)) 0 G' _ _ w' _ _ hs' h' fun e G' env' a' w' hs' h' => ?_)
    cases e with
    | normal =>
      refine wp_seq (run_sound (C := C) VI.hti gws ih (hA C rfl ih) (keep 19) (sL (sR (sR code20))) 0 G' _ _ w' _ _ hs' h' fun e G' env' a' w' hs' h' => ?_)
      cases e with
      | normal =>
        obtain ⟨hb, h5⟩ := must_some h'
        exact next G' env' a' w' hs' (Option.some.inj h5) (by rw [← hs'.size]; exact Nat.eq_of_beq_eq_true hb)
      | _ => cases h'
    | _ => cases h'
  | _ => cases h'
end
end Go.Proofs.YtoidompkofomjaaGreatDoor.VI

end
section
namespace Go.Proofs.YtoidompkofomjaaGreatDoor.VI
open Go Go.RowKit Go.Sort Go.Lib Go.Proofs Go.Proofs.YtoidompkofomjaaGreatDoor.G Go.Proofs.YtoidompkofomjaaGreatDoorW.PrintWords
set_option maxRecDepth 100000
set_option maxHeartbeats 4000000
set_option linter.unusedVariables false
set_option linter.unusedSimpArgs false
theorem arr24 {T : Array Value} (h : T.size = 24) : ∃ x0 x1 x2 x3 x4 x5 x6 x7 x8 x9 x10 x11 x12 x13 x14 x15 x16 x17 x18 x19 x20 x21 x22 x23, T = #[x0, x1, x2, x3, x4, x5, x6, x7, x8, x9, x10, x11, x12, x13, x14, x15, x16, x17, x18, x19, x20, x21, x22, x23] := by
  obtain ⟨l⟩ := T
  simp only [List.size_toArray] at h
  match l, h with
  | [x0, x1, x2, x3, x4, x5, x6, x7, x8, x9, x10, x11, x12, x13, x14, x15, x16, x17, x18, x19, x20, x21, x22, x23], _ => exact ⟨_, _, _, _, _, _, _, _, _, _, _, _, _, _, _, _, _, _, _, _, _, _, _, _, rfl⟩
section
variable {W : World}
theorem tail_wp {P1 : World → World → Prop} {x0 x1 x2 x3 x4 x5 x6 x7 x8 x9 x10 x11 x12 x13 x14 x15 x16 x17 x18 x19 x20 x21 x22 x23 : Value} {w : World} {R : Value → World → Prop}
    (C1 : Calls Tryz.prog 38 #[x3, .func (.func 23) #[] #[]] w fun e w' => e = .returned (.tuple #[]) ∧ P1 w w') (C2 : ∀ w1, P1 w w1 → ∃ v, Calls Tryz.prog 39 #[x3] w1 fun e w' => e = .returned v ∧ R v w') :
    (sR (sR (sR code20))).wp Tryz.prog (bodyPost Tryz.prog Tryz.f19 fun e w' => ∃ v, e = .returned v ∧ R v w') { tmps := #[x0, x1, x2, x3, x4, x5, x6, x7, x8, x9, x10, x11, x12, x13, x14, x15, x16, x17, x18, x19, x20, x21, x22, x23], defers := [] } w := by
  simp only [code20, sR, Tryz.f19]
  go_wp2_with (first | (go_at_call 38; (with_reducible refine C1.mono ?_); rintro e w1 ⟨rfl, h1⟩; obtain ⟨v, C2'⟩ := C2 _ h1) | (go_at_call 39; (with_reducible refine C2'.mono ?_); rintro e w2 ⟨rfl, h2⟩))
  go_ret
  exact ⟨_, rfl, h2⟩
end
end Go.Proofs.YtoidompkofomjaaGreatDoor.VI

end
section
namespace Go.Proofs.YtoidompkofomjaaGreatDoor.VI
open Go Go.RowKit Go.Sort Go.Lib Go.Proofs Go.Proofs.YtoidompkofomjaaGreatDoor.G Go.Proofs.YtoidompkofomjaaGreatDoorW.PrintWords
set_option maxRecDepth 100000
set_option linter.unusedVariables false
set_option linter.unusedSimpArgs false
theorem val_get [Inhabited Ver] (s : List Ver) (j : Nat) (hj : j < s.length) : (s.toArray[j]!).1 = (s.map Subtype.val).toArray[j]! := by
  rw [getElem!_pos _ j (by simpa using hj), getElem!_pos _ j (by simpa using hj)]
  simp
theorem putRow_val [Inhabited Ver] (w : World) (g : Nat) (s : List Ver) : putRow encV w g 0 s.toArray = putRow encStr w g 0 (s.map Subtype.val).toArray := by
  unfold putRow
  congr 1
  funext c
  unfold putCells
  congr 1
  funext k x
  simp only [List.size_toArray, List.length_map, Nat.zero_le, true_and, Nat.zero_add, Nat.sub_zero]
  split
  · rename_i h
    simp only [encV, val_get s k h]
  · rfl
theorem holds_val [Inhabited Ver] {w : World} {g : Nat} {s : List Ver} (h : Holds encStr w g 0 (s.map Subtype.val).toArray) : Holds encV w g 0 s.toArray := by
  intro j hj
  have hj' : j < s.length := by simpa using hj
  obtain ⟨h1, h2⟩ := h j (by simpa using hj')
  refine ⟨?_, h2⟩
  rw [h1]
  simp only [encV, val_get s j hj']
theorem sorted_val (l : List (List UInt8)) (hv : ∀ x ∈ l, U.isVer x = true) (s : List Ver) (hs : s.map Subtype.val = l) :
    Lib.compact ((s.mergeSort fun x y => !(ltOf cfV) y x).map Subtype.val) = U.sorted U.cmpS l := by
  have hperm := List.mergeSort_perm s fun x y => !(ltOf cfV) y x
  have hmem : ∀ x, x ∈ (s.mergeSort fun x y => !(ltOf cfV) y x).map Subtype.val ↔ x ∈ l := fun x => by
    rw [← hs]
    simp only [List.mem_map]
    exact ⟨fun ⟨a, h1, h2⟩ => ⟨a, hperm.mem_iff.1 h1, h2⟩, fun ⟨a, h1, h2⟩ => ⟨a, hperm.mem_iff.2 h1, h2⟩⟩
  have hinj : ∀ x ∈ l, ∀ y ∈ l, U.cmpS x y = 0 → x = y := fun x hx y hy h => U.cmpS_inj (hv x hx) (hv y hy) h
  have hswo := cf_keyed.swo
  have hpw := List.pairwise_mergeSort (le := fun x y => !(ltOf cfV) y x) (fun a b c h1 h2 => by
      simp only [Bool.not_eq_true'] at h1 h2 ⊢
      exact hswo.ntrans c b a h2 h1) (fun a b => by
      cases h : ltOf cfV b a
      · rfl
      · have h2 : ltOf cfV a b = false := by
          cases h3 : ltOf cfV a b
          · rfl
          · have := hswo.trans a b a h3 h
            rw [hswo.irrefl] at this; cases this
        simp [h2]) s
  obtain ⟨c1, c2⟩ := U.compact_is U.cmpS_keyed ((s.mergeSort fun x y => !(ltOf cfV) y x).map Subtype.val) (fun i j hij hj => by
      have hj' : j < (s.mergeSort fun x y => !(ltOf cfV) y x).length := by simpa using hj
      have h1 := List.pairwise_iff_getElem.1 hpw i j (by omega) hj' hij
      rw [Bool.not_eq_true'] at h1
      have h7 := of_decide_eq_false h1
      rw [getElem!_pos _ j (by simpa using hj'), getElem!_pos _ i (by rw [List.size_toArray, List.length_map]; omega)]
      simp only [List.getElem_toArray, List.getElem_map]
      exact h7) (fun x hx y hy h => hinj x ((hmem x).1 hx) y ((hmem y).1 hy) h)
  obtain ⟨s1, s2⟩ := U.sorted_is U.cmpS_keyed l hinj
  exact U.strict_uniq U.cmpS_keyed _ _ c1 s1 fun x => by rw [c2, hmem, s2]
theorem str_enc (b : ByteArray) : Value.string b = encStr (U.L b) := by
  unfold encStr U.L
  simp
theorem row_end [Inhabited Ver] {w w1 : World} {B g cap n : Nat} {os : Array Obj} {cur : Array Value} {l : List (List UInt8)} {s : List Ver} (hv : ∀ x ∈ l, U.isVer x = true) (hs : s.map Subtype.val = l) (hg : B ≤ g) (hb : w.heap[g]? = some (.cells cur 9 (0, 0))) (h1 : l.length ≤ cap) (h2 : cap ≤ maxLen) (h3 : cur.size = cap * 1)
    (e1 : w1 = sortWorld encV w g 0 n (s.mergeSort fun x y => !(ltOf cfV) y x).toArray os) :
    ∃ zs : List (List UInt8), zs.length = l.length ∧ Lib.compact zs = U.sorted U.cmpS l ∧ (Lib.compact zs).length ≤ zs.length ∧ Holds encStr w1 g 0 zs.toArray ∧
      (∀ (w2 : World) (q : Nat), w2 = putRow encStr (Sort.ahead w1 q) g 0 (Lib.compact zs ++ List.replicate (zs.length - (Lib.compact zs).length) []).toArray → w2.ownsRow B 9 1 (.slice (some ⟨g, 0, none⟩) (Lib.compact zs).length cap) (Lib.compact zs).length ((Lib.compact zs).map encStr)) := by
  let zs := (s.mergeSort fun x y => !(ltOf cfV) y x).map Subtype.val
  have hzl : zs.length = l.length := by simp only [zs, List.length_map, List.length_mergeSort]; rw [← hs, List.length_map]
  have hcl : (Lib.compact zs).length ≤ zs.length := by
    unfold Lib.compact Lib.compactUpTo
    rw [List.length_map]
    exact Nat.le_trans (List.length_filter_le _ _) (by simp)
  have hw1 : w1 = grow (putRow encStr (Sort.ahead w n) g 0 zs.toArray) os := by rw [e1]; simp only [sortWorld, putRow_val]; rfl
  have hb1 := heap_sorted (w := w) (g := g) (n := n) (os := os) zs.toArray hb
  rw [← hw1] at hb1
  refine ⟨zs, hzl, sorted_val l hv s hs, hcl, holds_of_block hb1 (take_putCells cur zs (by omega)), fun w2 q e2 => ?_⟩
  let ts := Lib.compact zs ++ List.replicate (zs.length - (Lib.compact zs).length) []
  have htl : ts.length = zs.length := by simp only [ts, List.length_append, List.length_replicate]; omega
  have hb2 := heap_sorted (w := w1) (g := g) (n := q) (os := #[]) ts.toArray hb1
  rw [grow_empty] at hb2
  have e2' : w2 = putRow encStr (Sort.ahead w1 q) g 0 ts.toArray := e2
  rw [← e2'] at hb2
  have hsz1 : (putCells encStr 0 zs.toArray cur).size = cap * 1 := by simp [putCells, h3]
  have ht := take_putCells (putCells encStr 0 zs.toArray cur) ts (by omega)
  refine ⟨by simp, .inr ⟨g, cap, _, rfl, hg, hb2, by omega, h2, by simp [putCells, h3], ?_⟩⟩
  rw [Nat.mul_one]
  have h5 := congrArg (List.take (Lib.compact zs).length) ht
  rw [List.take_take, Nat.min_eq_left (by omega)] at h5
  rw [h5, ← List.map_take]
  congr 1
  simp only [ts]
  exact List.take_left
end Go.Proofs.YtoidompkofomjaaGreatDoor.VI

end
section
namespace Go.Proofs.YtoidompkofomjaaGreatDoor.VI
open Go Go.RowKit Go.Proofs.YtoidompkofomjaaGreatDoor.G Go.Proofs.YtoidompkofomjaaGreatDoorW.PrintWords
set_option maxRecDepth 100000
set_option linter.unusedVariables false
set_option linter.unusedSimpArgs false
theorem spec_DrawPick.giv {W : World} (hE : Glob FactE W) (hM : Glob FactM W) (hT : Glob FactT W) : ∀ vs r, spec_DrawPick.gv vs = some r → CallOk1 Tryz.prog W.heap.size (fun w => Below W.heap.size W w) 5 vs r := by
  intro vs r h
  unfold spec_DrawPick.gv at h
  split at h
  case h_2 => cases h
  rename_i q0
  obtain ⟨l0, hq0, h2⟩ := obind_some h
  obtain rfl := byL_map _ _ hq0
  obtain ⟨q, hq, rfl⟩ := Option.map_eq_some_iff.1 h2
  obtain ⟨k, hk⟩ := limF_inv hq
  refine giv_ok ⟨_, Tryz.func5, by kernel_rfl, by kernel_rfl⟩ rfl fun w ms pd hw hd => ?_
  obtain ⟨m0, ms0, rfl, h0, hd⟩ := drs_cons hd
  obtain rfl := drs_nil hd
  obtain ⟨A0, c0, rfl, hc0, hr0⟩ := c_of_dr (mk := Value.int .u8) (h1 := fun _ => rfl) h0
  refine (spec_DrawPick.calls (l0 := l0) (r1 := q.1) (r2 := q.2) (w := w) (h := hk) (k := k) (hGE := Glob.below hE hw) (hGM := Glob.below hM hw) (hGT := Glob.below hT hw) (A0 := A0) (c0 := c0) (hr0 := hr0) (hc0 := hc0)).mono fun e w' he => ?_
  obtain ⟨v0, v1, rfl, hR0, hR1, hb⟩ := he
  exact ⟨_, rfl, hb, resOf_tus (.cons _ _ _ _ (dr_new (kv_string : KV Kd.string (fun x => (VV.str x).cells)) hR0 (fun y _ x hx => by simp [VV.cells, VV.str] at hx; exact ⟨_, hx⟩)) (.cons _ _ _ _ (dr_new kv45 hR1 (fun y _ x hx => by simp [e45, VV.cells, VV.str, VV.int, VV.bool] at hx; rcases hx with rfl | rfl <;> exact ⟨_, rfl⟩)) .nil))⟩
theorem spec_DrawHoles.giv {W : World} (hE : Glob FactE W) (hM : Glob FactM W) (hT : Glob FactT W) : ∀ vs r, spec_DrawHoles.gv vs = some r → CallOk1 Tryz.prog W.heap.size (fun w => Below W.heap.size W w) 7 vs r := by
  intro vs r h
  unfold spec_DrawHoles.gv at h
  split at h
  case h_2 => cases h
  rename_i q0
  obtain ⟨l0, hq0, h2⟩ := obind_some h
  obtain rfl := byL_map _ _ hq0
  obtain ⟨q, hq, rfl⟩ := Option.map_eq_some_iff.1 h2
  obtain ⟨k, hk⟩ := limF_inv hq
  refine giv_ok ⟨_, Tryz.func7, by kernel_rfl, by kernel_rfl⟩ rfl fun w ms pd hw hd => ?_
  obtain ⟨m0, ms0, rfl, h0, hd⟩ := drs_cons hd
  obtain rfl := drs_nil hd
  obtain ⟨A0, c0, rfl, hc0, hr0⟩ := c_of_dr (mk := Value.int .u8) (h1 := fun _ => rfl) h0
  refine (spec_DrawHoles.calls (l0 := l0) (r1 := q.1) (r2 := q.2) (w := w) (h := hk) (k := k) (hGE := Glob.below hE hw) (hGM := Glob.below hM hw) (hGT := Glob.below hT hw) (A0 := A0) (c0 := c0) (hr0 := hr0) (hc0 := hc0)).mono fun e w' he => ?_
  obtain ⟨v0, v1, rfl, hR0, hR1, hb⟩ := he
  exact ⟨_, rfl, hb, resOf_tus (.cons _ _ _ _ (dr_new (kv_string : KV Kd.string (fun x => (VV.str x).cells)) hR0 (fun y _ x hx => by simp [VV.cells, VV.str] at hx; exact ⟨_, hx⟩)) (.cons _ _ _ _ (dr_new kv45 hR1 (fun y _ x hx => by simp [e45, VV.cells, VV.str, VV.int, VV.bool] at hx; rcases hx with rfl | rfl <;> exact ⟨_, rfl⟩)) .nil))⟩
theorem impl_SortVersions.giv {W : World} (hE : Glob FactE W) (hM : Glob FactM W) (hT : Glob FactT W) : ∀ vs r, impl_SortVersions.gv vs = some r → CallOk1 Tryz.prog W.heap.size (fun w => Below W.heap.size W w) 19 vs r := by
  intro vs r h
  unfold impl_SortVersions.gv at h
  split at h
  case h_2 => cases h
  rename_i q0
  obtain ⟨l0, hq0, h2⟩ := obind_some h
  obtain rfl := unS_inv _ _ hq0
  obtain ⟨q, hq, rfl⟩ := Option.map_eq_some_iff.1 h2
  refine giv_ok ⟨_, Tryz.func19, by kernel_rfl, by kernel_rfl⟩ rfl fun w ms pd hw hd => ?_
  obtain ⟨m0, ms0, rfl, h0, hd⟩ := drs_cons hd
  obtain rfl := drs_nil hd
  unfold impl_SortVersions.f at hq
  by_cases hsm : l0.length ≤ 1048576 ∧ (∀ x ∈ l0, x.size ≤ 1048576)
  case neg => rw [if_neg hsm] at hq; cases hq
  rw [if_pos hsm] at hq
  obtain rfl := Option.some.inj hq
  obtain ⟨k0, hk⟩ := U.pre_ev l0 hsm.1 hsm.2
  have hpre := hk k0 (Nat.le_refl _)
  have hL : (l0.filter fun s => U.isVer (U.L s)).map U.L = (l0.map U.L).filter U.isVer := by rw [List.filter_map]; rfl
  have hlen : (l0.filter fun s => U.isVer (U.L s)).length ≤ 1048576 := Nat.le_trans (List.length_filter_le _ _) hsm.1
  have hvr : ∀ x ∈ (l0.filter fun s => U.isVer (U.L s)).map U.L, U.isVer x = true ∧ x.length ≤ 1048576 := by
    intro x hx
    obtain ⟨b, hb, rfl⟩ := List.mem_map.1 hx
    obtain ⟨hb1, hb2⟩ := List.mem_filter.1 hb
    exact ⟨hb2, by have h8 := hsm.2 b hb1; have h9 := U.size_L b; omega⟩
  refine calls_of_wp Tryz.func19 (show Tryz.f19.body = some code20 by kernel_rfl) (pre_wp hE hM hT hw h0 hpre fun G' env' a' w1 hs' h3 h24 => ?_)
  have hsl := get_slot hs' 3
  rw [h3] at hsl
  obtain ⟨us, ho, hr, hz, hu1, hul, hgo⟩ := (hsl : OwnR G' w1 (3, 0) 9 1 _ _)
  rw [hs'.B] at ho
  obtain ⟨T, D⟩ := a'
  have hdf : D = [] := hs'.df
  subst hdf
  obtain ⟨x0, x1, x2, x3, x4, x5, x6, x7, x8, x9, x10, x11, x12, x13, x14, x15, x16, x17, x18, x19, x20, x21, x22, x23, rfl⟩ := arr24 (T := T) h24
  have ho' : w1.ownsRow w.heap.size 9 1 x3 ((l0.filter fun s => U.isVer (U.L s)).map VV.str).length us := ho
  clear ho hgo
  have hus : us = ((l0.filter fun s => U.isVer (U.L s)).map U.L).map encStr := by
    have e : ((l0.filter fun s => U.isVer (U.L s)).map VV.str).flatMap VV.cells = ((l0.filter fun s => U.isVer (U.L s)).map Value.string).map VV.s := by
      generalize (l0.filter fun s => U.isVer (U.L s)) = l
      induction l with
      | nil => rfl
      | cons x l ih => rw [List.map_cons, List.flatMap_cons, ih]; rfl
    rw [e] at hr
    rw [drs_s _ hr, List.map_map]
    exact List.map_congr_left fun b _ => str_enc b
  rw [List.length_map] at ho'
  have hbw : Below w.heap.size w w1 := ⟨hs'.fr.os, hs'.fr.tape, hs'.fr.output, hs'.fr.size, fun k hk => hs'.fr.block k hk (by simp)⟩
  have hgw : Below W.heap.size W w1 := hs'.gw
  rw [← hL]
  generalize hvs : (l0.filter fun s => U.isVer (U.L s)) = vs at *
  clear hvs hpre hk hs' h3 h24 hr hz hu1 hul
  have enc_map : ∀ l : List (List UInt8), (l.map U.S).map Value.string = l.map encStr := fun l => by rw [List.map_map]; rfl
  by_cases h0l : vs = []
  ·
    subst h0l
    obtain ⟨A, c, rfl⟩ : ∃ A c, x3 = .slice A 0 c := by
      rcases ho'.2 with ⟨rfl, _⟩ | ⟨g, cap, cur, rfl, _⟩
      · exact ⟨_, _, rfl⟩
      · exact ⟨_, _, rfl⟩
    refine tail_wp (P1 := fun a b => b = a) (Tryz.slices_SortFunc_none (α := Int) A c _ w1) (fun w2 h2 => ⟨.slice A 0 c, ?_⟩)
    subst h2
    refine (Tryz.slices_Compact_string_empty A c w2).mono fun e w' ⟨h5, h6⟩ => ⟨h5, ?_⟩
    subst h6
    have hus0 : us = [] := by rw [hus]; rfl
    subst hus0
    exact ⟨hbw, resOf_ow (mk := Value.string) (xs := ([] : List ByteArray)) (fun _ => rfl) (Nat.zero_le _) ho'⟩
  ·
    rcases ho'.2 with ⟨_, h5⟩ | ⟨g, cap, cur, rfl, hg, hb, hc1, hc2, hc3, hc4⟩
    · exact absurd (List.eq_nil_of_length_eq_zero h5) h0l
    have hmp : ((vs.map U.L).attach.map fun x => (⟨x.1, hvr x.1 x.2⟩ : Ver)).map Subtype.val = vs.map U.L := by
      rw [List.map_map]
      exact List.attach_map_subtype_val _
    generalize hds : ((vs.map U.L).attach.map fun x => (⟨x.1, hvr x.1 x.2⟩ : Ver)) = s at hmp
    have hsl : s.length = vs.length := by have := congrArg List.length hmp; simpa using this
    haveI : Inhabited Ver := ⟨s.head (by intro h; rw [h] at hsl; exact h0l (List.eq_nil_of_length_eq_zero hsl.symm))⟩
    have hgl : g < w1.heap.size := (Array.getElem?_eq_some_iff.1 hb).1
    have hH : Go.Sort.Holds encV w1 g 0 s.toArray := holds_val (by
      rw [hmp]
      refine holds_of_block hb ?_
      rw [← hus, ← hc4, List.length_map, Nat.mul_one])
    have C1 := sort_calls hE hM hT hgw (cap := cap) (by have := hw.size; omega) hgl s.toArray hH (by rw [List.size_toArray]; omega)
    rw [List.size_toArray, hsl] at C1
    refine tail_wp (P1 := fun a b => ∃ n os, b = sortWorld encV a g 0 n (s.mergeSort fun x y => !(ltOf cfV) y x).toArray os) C1 (fun w2 h2 => ?_)
    obtain ⟨n, os, h2⟩ := h2
    obtain ⟨zs, hz1, hz2, hz3, hz4, hz5⟩ := row_end (w := w1) (w1 := w2) (B := w.heap.size) (g := g) (cap := cap) (n := n) (os := os) (cur := cur) (l := vs.map U.L) (s := s) (fun x hx => (hvr x hx).1) hmp hg hb (by rw [List.length_map]; exact hc1) hc2 hc3 h2
    rw [List.length_map] at hz1
    refine ⟨.slice (some ⟨g, 0, none⟩) (Lib.compact zs).length cap, ?_⟩
    have C2 := Tryz.slices_Compact_string g 0 cap zs w2 hz4 (by omega) (by omega)
    rw [hz1] at C2
    refine C2.mono fun e w3 ⟨h6, q, h7⟩ => ⟨h6, ?_⟩
    rw [← hz1] at h7
    have hown := hz5 w3 q h7
    have hb2 : Below w.heap.size w w2 := by rw [h2]; exact below_sort (W := w) hbw hg
    have hb3 : Below w.heap.size w w3 := by
      rw [h7, ← Go.Sort.grow_empty (Go.Sort.putRow _ _ _ _ _)]
      exact below_sort (W := w) (enc := encStr) (os := #[]) hb2 hg
    refine ⟨hb3, resOf_ow (mk := Value.string) (fun _ => rfl) ?_ ?_⟩
    · rw [List.length_map, ← hz2]; simp only [maxLen]; omega
    · rw [enc_map, List.length_map, ← hz2]; exact hown
theorem given_ok {W : World} (hE : Glob FactE W) (hM : Glob FactM W) (hT : Glob FactT W) : GivenOk Tryz.prog W.heap.size (fun w => Below W.heap.size W w) Gv := by
  intro f g vs r hg hr
  unfold Gv at hg
  split at hg
  · cases hg; exact spec_DrawPick.giv hE hM hT vs r hr
  · cases hg; exact spec_DrawHoles.giv hE hM hT vs r hr
  · cases hg; exact impl_SortVersions.giv hE hM hT vs r hr
  · exact given_ok0 hE hM hT _ g vs r hg hr
end Go.Proofs.YtoidompkofomjaaGreatDoor.VI

end
section
namespace Go.Proofs.YtoidompkofomjaaGreatDoor.VI
open Go Go.RowKit Go.Proofs.YtoidompkofomjaaGreatDoor.G Go.Proofs.YtoidompkofomjaaGreatDoorW.PrintWords
set_option maxRecDepth 100000
set_option maxHeartbeats 16000000
set_option linter.unusedVariables false
set_option linter.unusedSimpArgs false
attribute [local irreducible] bite obind vget
theorem spec_l03Takes.vi {k m : Nat} {Gv : FuncId → Option (List VV → Option (VV × List VV))} (hG : Base Gv) (hm : k + 7 ≤ m) (a0_0 : ByteArray) (a0_1 : ByteArray) (a1_0 : Int) (a1_1 : Int) (a1_2 : Int) (l1_3 : List ByteArray) : Im (fun r => (.bool r, [])) (spec_l03Takes.f k a0_0 a0_1 a1_0 a1_1 a1_2 l1_3) (callv Tryz.prog ti keep Gv m 43 [.ag [.str a0_0, .str a0_1], .ag [.int a1_0, .int a1_1, .int a1_2, .sl (l1_3.map VV.str)]]) := by
  obtain ⟨m, rfl⟩ : ∃ m', m = m' + 1 := ⟨m - 1, by omega⟩
  rw [show callv Tryz.prog ti keep Gv (m + 1) 43 _ = _ from callv_enter ((hG 43 (by decide) (by decide) (by decide)).trans rfl) Tryz.func43 (by kernel_rfl) rfl rfl]
  unfold spec_l03Takes.f
  conv => arg 3; whnf
  refine Im.call (spec_ReadVersion.vi hG ?_ _) ?_ (fun r1 hr1 => ?_)
  (next => omega)
  (next => exact zr)
  rcases r1 with ⟨a, b, c, p, f⟩
  conv => arg 3; whnf
  refine Im.call (spec_ReadVersion.vi hG ?_ _) ?_ (fun r2 hr2 => ?_)
  (next => omega)
  (next => exact zr)
  rcases r2 with ⟨a', b', c', p', f'⟩
  cases f <;> cases f'
  all_goals (conv => arg 2; simp only [Bool.false_eq_true, reduceIte])
  all_goals dsimp only
  repeat' first
    | ((with_reducible apply Im.vopc); (case h => (intro K'; (conv => lhs; whnf); done))) | (with_reducible first | exact Im.none | refine Im.ite (fun h => ?_) (fun h => ?_) | refine Im.sbind ?_)
    | ((conv => arg 3; whnf); first
      | ((with_reducible refine Im.fin ?_); exact zr) | ((with_reducible refine Im.anyo ?_ ?_); (next => kernel_rfl)) | ((with_reducible refine Im.bite_t ?_ ?_); (next => exact zq)) | ((with_reducible refine Im.bite_f ?_ ?_); (next => exact zq)) | ((with_reducible refine Im.bite_t ?_ ?_); (next => exact zd)) | ((with_reducible refine Im.must ?_ ?_); (next => exact zd)) | ((with_reducible refine Im.bite_f ?_ ?_); (next => exact zd)) | (with_reducible refine Im.byl ?_) | ((with_reducible refine Im.vget ByteArray.empty ?_ ?_ ?_); (next => exact zd); (next => exact zd)) | ((with_reducible refine Im.vget z45 ?_ ?_ ?_); (next => exact zd); (next => exact zd)) | ((with_reducible refine Im.vget (0 : Int) ?_ ?_ ?_); (next => exact zd); (next => exact zd)) | ((with_reducible refine Im.vget false ?_ ?_ ?_); (next => exact zd); (next => exact zd)) | ((with_reducible refine Im.call (spec_CompareVersion.vi hG ?_ _ _ _ _ _ _ _ _) ?_ (fun r hr => ?_)); (next => omega); (next => exact zr)) | ((with_reducible refine Im.call (spec_ReadVersion.vi hG ?_ _) ?_ (fun r hr => ?_)); (next => omega); (next => exact zr))
      | exact zm | exact zx | fail)
  all_goals skip
end Go.Proofs.YtoidompkofomjaaGreatDoor.VI

end
section
namespace Go.Proofs.YtoidompkofomjaaGreatDoor.VI
open Go Go.RowKit Go.Proofs.YtoidompkofomjaaGreatDoor.G Go.Proofs.YtoidompkofomjaaGreatDoorW.PrintWords
set_option maxRecDepth 100000
set_option maxHeartbeats 16000000
attribute [local irreducible] bite obind vget
theorem spec_In.vi {k m : Nat} {Gv : FuncId → Option (List VV → Option (VV × List VV))} (hG : Base Gv) (hm : k + 9 ≤ m) (a0 : ByteArray) (l1 : List (S45)) : Im (fun r => (.bool r, [])) (spec_In.f k a0 l1) (callv Tryz.prog ti keep Gv m 21 [.str a0, .sl (l1.map e45)]) := by
  obtain ⟨m, rfl⟩ : ∃ m', m = m' + 1 := ⟨m - 1, by omega⟩
  rw [show callv Tryz.prog ti keep Gv (m + 1) 21 _ = _ from callv_enter ((hG 21 (by decide) (by decide) (by decide)).trans rfl) Tryz.func21 (by kernel_rfl) rfl rfl]
  unfold spec_In.f
  repeat' first
    | (with_reducible first | exact Im.none | refine Im.ite (fun h => ?_) (fun h => ?_) | refine Im.sbind ?_)
    | ((conv => arg 3; whnf); first
      | ((with_reducible refine Im.fin ?_); exact zr) | ((with_reducible refine Im.anyo ?_ ?_); (next => kernel_rfl)) | ((with_reducible refine Im.bite_t ?_ ?_); (next => exact zq)) | ((with_reducible refine Im.bite_f ?_ ?_); (next => exact zq)) | ((with_reducible refine Im.bite_t ?_ ?_); (next => exact zd)) | ((with_reducible refine Im.must ?_ ?_); (next => exact zd)) | ((with_reducible refine Im.bite_f ?_ ?_); (next => exact zd)) | (with_reducible refine Im.byl ?_) | ((with_reducible refine Im.vget ByteArray.empty ?_ ?_ ?_); (next => exact zd); (next => exact zd)) | ((with_reducible refine Im.vget z45 ?_ ?_ ?_); (next => exact zd); (next => exact zd)) | ((with_reducible refine Im.vget (0 : Int) ?_ ?_ ?_); (next => exact zd); (next => exact zd)) | ((with_reducible refine Im.vget false ?_ ?_ ?_); (next => exact zd); (next => exact zd)) | ((with_reducible refine Im.call (spec_RangeOk.vi hG ?_ _) ?_ (fun r hr => ?_)); (next => omega); (next => exact zr)) | ((with_reducible refine Im.call (spec_ReadVersion.vi hG ?_ _) ?_ (fun r hr => ?_)); (next => omega); (next => exact zr)) | ((with_reducible refine Im.call (spec_l03Takes.vi hG ?_ _ _ _ _ _ _) ?_ (fun r hr => ?_)); (next => omega); (next => exact zr))
      | ((with_reducible refine Im.loop (S := fun s : List (S45) × Bool × Int × Int × Int × Int × List ByteArray => [.un, .sl (s.1.map e45), .un, .un, .un, .bx [.int s.2.2.2.1, .int s.2.2.2.2.1, .int s.2.2.2.2.2.1, .sl (s.2.2.2.2.2.2.map VV.str)], .bool s.2.1, .int s.2.2.1, .un, .un, .un, .un, .un, .un, .un, .un, .un, .un, .un, .un, .un, .un, .un, .un, .un, .un, .un, .un, .un, .un, .un, .un]) (L := fun k s => spec_In.l0 k s.1 s.2.1 s.2.2.1 s.2.2.2.1 s.2.2.2.2.1 s.2.2.2.2.2.1 s.2.2.2.2.2.2) _ ?_ ?_ _ _ ⟨_, _, _, _, _, _, _⟩ _ (Nat.le_refl _) zo ?_)
         (next => intro s; rfl)
         (next =>
           intro k1 M1 ⟨x1, x6, x7, x726000, x726001, x726002, x726003⟩ hk1 hM1 ih1
           conv => arg 2; simp only [spec_In.l0]
           repeat' first
             | (with_reducible first | exact Im.none | refine Im.ite (fun h => ?_) (fun h => ?_) | refine Im.sbind ?_)
             | ((conv => arg 3; whnf); first
               | ((with_reducible refine Im.fin ?_); exact zr) | ((with_reducible refine Im.anyo ?_ ?_); (next => kernel_rfl)) | ((with_reducible refine Im.bite_t ?_ ?_); (next => exact zq)) | ((with_reducible refine Im.bite_f ?_ ?_); (next => exact zq)) | ((with_reducible refine Im.bite_t ?_ ?_); (next => exact zd)) | ((with_reducible refine Im.must ?_ ?_); (next => exact zd)) | ((with_reducible refine Im.bite_f ?_ ?_); (next => exact zd)) | (with_reducible refine Im.byl ?_) | ((with_reducible refine Im.vget ByteArray.empty ?_ ?_ ?_); (next => exact zd); (next => exact zd)) | ((with_reducible refine Im.vget z45 ?_ ?_ ?_); (next => exact zd); (next => exact zd)) | ((with_reducible refine Im.vget (0 : Int) ?_ ?_ ?_); (next => exact zd); (next => exact zd)) | ((with_reducible refine Im.vget false ?_ ?_ ?_); (next => exact zd); (next => exact zd)) | ((with_reducible refine Im.call (spec_RangeOk.vi hG ?_ _) ?_ (fun r hr => ?_)); (next => omega); (next => exact zr)) | ((with_reducible refine Im.call (spec_ReadVersion.vi hG ?_ _) ?_ (fun r hr => ?_)); (next => omega); (next => exact zr)) | ((with_reducible refine Im.call (spec_l03Takes.vi hG ?_ _ _ _ _ _ _) ?_ (fun r hr => ?_)); (next => omega); (next => exact zr)) | ((with_reducible refine ih1 _ ⟨_, _, _, _, _, _, _⟩ _ ?_ ?_); (next => exact zo); exact zr)
               | exact zm | exact zx | fail)
           all_goals skip)
         exact zr)
      | exact zm | exact zx | fail)
  all_goals skip
theorem spec_Holes.vi {k m : Nat} {Gv : FuncId → Option (List VV → Option (VV × List VV))} (hG : Base Gv) (hm : k + 10 ≤ m) (l0 : List ByteArray) (l1 : List (S45)) : Im (fun r => (.ow 9 1 (r.map VV.str), [])) (spec_Holes.f k l0 l1) (callv Tryz.prog ti keep Gv m 11 [.sl (l0.map VV.str), .sl (l1.map e45)]) := by
  obtain ⟨m, rfl⟩ : ∃ m', m = m' + 1 := ⟨m - 1, by omega⟩
  rw [show callv Tryz.prog ti keep Gv (m + 1) 11 _ = _ from callv_enter ((hG 11 (by decide) (by decide) (by decide)).trans rfl) Tryz.func11 (by kernel_rfl) rfl rfl]
  unfold spec_Holes.f
  repeat' first
    | (with_reducible first | exact Im.none | refine Im.ite (fun h => ?_) (fun h => ?_) | refine Im.sbind ?_)
    | ((conv => arg 3; whnf); first
      | ((with_reducible refine Im.fin ?_); exact zr) | ((with_reducible refine Im.anyo ?_ ?_); (next => kernel_rfl)) | ((with_reducible refine Im.bite_t ?_ ?_); (next => exact zq)) | ((with_reducible refine Im.bite_f ?_ ?_); (next => exact zq)) | ((with_reducible refine Im.bite_t ?_ ?_); (next => exact zd)) | ((with_reducible refine Im.must ?_ ?_); (next => exact zd)) | ((with_reducible refine Im.bite_f ?_ ?_); (next => exact zd)) | (with_reducible refine Im.byl ?_) | ((with_reducible refine Im.vget ByteArray.empty ?_ ?_ ?_); (next => exact zd); (next => exact zd)) | ((with_reducible refine Im.vget z45 ?_ ?_ ?_); (next => exact zd); (next => exact zd)) | ((with_reducible refine Im.vget (0 : Int) ?_ ?_ ?_); (next => exact zd); (next => exact zd)) | ((with_reducible refine Im.vget false ?_ ?_ ?_); (next => exact zd); (next => exact zd)) | ((with_reducible refine Im.call (spec_In.vi hG ?_ _ _) ?_ (fun r hr => ?_)); (next => omega); (next => exact zr)) | ((with_reducible refine Im.call (spec_SortVersions.vi hG ?_ _) ?_ (fun r hr => ?_)); (next => omega); (next => exact zr))
      | ((with_reducible refine Im.loop (S := fun s : List (S45) × List ByteArray × Int × Int × Int => [.un, .sl (s.1.map e45), .un, .un, .un, .ow 9 1 (s.2.1.map VV.str), .int s.2.2.1, .int s.2.2.2.1, .int s.2.2.2.2, .un, .un, .un, .un, .un, .un, .un, .un, .un, .un, .un, .un, .un, .un, .un, .un, .un, .un, .un, .un, .un, .un, .un, .un, .un, .un, .un, .un, .un, .un, .un, .un, .un, .un, .un, .un, .un, .un, .un, .un, .un, .un, .un, .un, .un]) (L := fun k s => spec_Holes.l0 k s.1 s.2.1 s.2.2.1 s.2.2.2.1 s.2.2.2.2) _ ?_ ?_ _ _ ⟨_, _, _, _, _⟩ _ (Nat.le_refl _) zo ?_)
         (next => intro s; rfl)
         (next =>
           intro k1 M1 ⟨x1, x5, x6, x7, x8⟩ hk1 hM1 ih1
           conv => arg 2; simp only [spec_Holes.l0]
           repeat' first
             | (with_reducible first | exact Im.none | refine Im.ite (fun h => ?_) (fun h => ?_) | refine Im.sbind ?_)
             | ((conv => arg 3; whnf); first
               | ((with_reducible refine Im.fin ?_); exact zr) | ((with_reducible refine Im.anyo ?_ ?_); (next => kernel_rfl)) | ((with_reducible refine Im.bite_t ?_ ?_); (next => exact zq)) | ((with_reducible refine Im.bite_f ?_ ?_); (next => exact zq)) | ((with_reducible refine Im.bite_t ?_ ?_); (next => exact zd)) | ((with_reducible refine Im.must ?_ ?_); (next => exact zd)) | ((with_reducible refine Im.bite_f ?_ ?_); (next => exact zd)) | (with_reducible refine Im.byl ?_) | ((with_reducible refine Im.vget ByteArray.empty ?_ ?_ ?_); (next => exact zd); (next => exact zd)) | ((with_reducible refine Im.vget z45 ?_ ?_ ?_); (next => exact zd); (next => exact zd)) | ((with_reducible refine Im.vget (0 : Int) ?_ ?_ ?_); (next => exact zd); (next => exact zd)) | ((with_reducible refine Im.vget false ?_ ?_ ?_); (next => exact zd); (next => exact zd)) | ((with_reducible refine Im.call (spec_In.vi hG ?_ _ _) ?_ (fun r hr => ?_)); (next => omega); (next => exact zr)) | ((with_reducible refine Im.call (spec_SortVersions.vi hG ?_ _) ?_ (fun r hr => ?_)); (next => omega); (next => exact zr)) | ((with_reducible refine ih1 _ ⟨_, _, _, _, _⟩ _ ?_ ?_); (next => exact zo); exact zr)
               | ((with_reducible refine Im.loop (S := fun s : List (S45) × List ByteArray × Int × List ByteArray × Int => [.un, .sl (s.1.map e45), .un, .un, .un, .ow 9 1 (s.2.1.map VV.str), .un, .int s.2.2.1, .un, .ow 9 1 (s.2.2.2.1.map VV.str), .int s.2.2.2.2, .un, .un, .un, .un, .un, .un, .un, .un, .un, .un, .un, .un, .un, .un, .un, .un, .un, .un, .un, .un, .un, .un, .un, .un, .un, .un, .un, .un, .un, .un, .un, .un, .un, .un, .un, .un, .un, .un, .un, .un, .un, .un, .un]) (L := fun k s => spec_Holes.l1 k s.1 s.2.1 s.2.2.1 s.2.2.2.1 s.2.2.2.2) _ ?_ ?_ _ _ ⟨_, _, _, _, _⟩ _ (Nat.le_refl _) zo ?_)
                  (next => intro s; rfl)
                  (next =>
                    intro k2 M2 ⟨x1, x5, x7, x9, x10⟩ hk2 hM2 ih2
                    conv => arg 2; simp only [spec_Holes.l1]
                    repeat' first
                      | (with_reducible first | exact Im.none | refine Im.ite (fun h => ?_) (fun h => ?_) | refine Im.sbind ?_)
                      | ((conv => arg 3; whnf); first
                        | ((with_reducible refine Im.fin ?_); exact zr) | ((with_reducible refine Im.anyo ?_ ?_); (next => kernel_rfl)) | ((with_reducible refine Im.bite_t ?_ ?_); (next => exact zq)) | ((with_reducible refine Im.bite_f ?_ ?_); (next => exact zq)) | ((with_reducible refine Im.bite_t ?_ ?_); (next => exact zd)) | ((with_reducible refine Im.must ?_ ?_); (next => exact zd)) | ((with_reducible refine Im.bite_f ?_ ?_); (next => exact zd)) | (with_reducible refine Im.byl ?_) | ((with_reducible refine Im.vget ByteArray.empty ?_ ?_ ?_); (next => exact zd); (next => exact zd)) | ((with_reducible refine Im.vget z45 ?_ ?_ ?_); (next => exact zd); (next => exact zd)) | ((with_reducible refine Im.vget (0 : Int) ?_ ?_ ?_); (next => exact zd); (next => exact zd)) | ((with_reducible refine Im.vget false ?_ ?_ ?_); (next => exact zd); (next => exact zd)) | ((with_reducible refine Im.call (spec_In.vi hG ?_ _ _) ?_ (fun r hr => ?_)); (next => omega); (next => exact zr)) | ((with_reducible refine Im.call (spec_SortVersions.vi hG ?_ _) ?_ (fun r hr => ?_)); (next => omega); (next => exact zr)) | ((with_reducible refine ih2 _ ⟨_, _, _, _, _⟩ _ ?_ ?_); (next => exact zo); exact zr)
                        | exact zm | exact zx | fail)
                    all_goals skip)
                  exact zr)
               | exact zm | exact zx | fail)
           all_goals skip)
         exact zr)
      | exact zm | exact zx | fail)
  all_goals skip
theorem spec_Pick.vi {k m : Nat} {Gv : FuncId → Option (List VV → Option (VV × List VV))} (hG : Base Gv) (hm : k + 10 ≤ m) (l0 : List ByteArray) (l1 : List (S45)) : Im (fun r => (.str r, [])) (spec_Pick.f k l0 l1) (callv Tryz.prog ti keep Gv m 9 [.sl (l0.map VV.str), .sl (l1.map e45)]) := by
  obtain ⟨m, rfl⟩ : ∃ m', m = m' + 1 := ⟨m - 1, by omega⟩
  rw [show callv Tryz.prog ti keep Gv (m + 1) 9 _ = _ from callv_enter ((hG 9 (by decide) (by decide) (by decide)).trans rfl) Tryz.func9 (by kernel_rfl) rfl rfl]
  unfold spec_Pick.f
  repeat' first
    | (with_reducible first | exact Im.none | refine Im.ite (fun h => ?_) (fun h => ?_) | refine Im.sbind ?_)
    | ((conv => arg 3; whnf); first
      | ((with_reducible refine Im.fin ?_); exact zr) | ((with_reducible refine Im.anyo ?_ ?_); (next => kernel_rfl)) | ((with_reducible refine Im.bite_t ?_ ?_); (next => exact zq)) | ((with_reducible refine Im.bite_f ?_ ?_); (next => exact zq)) | ((with_reducible refine Im.bite_t ?_ ?_); (next => exact zd)) | ((with_reducible refine Im.must ?_ ?_); (next => exact zd)) | ((with_reducible refine Im.bite_f ?_ ?_); (next => exact zd)) | (with_reducible refine Im.byl ?_) | ((with_reducible refine Im.vget ByteArray.empty ?_ ?_ ?_); (next => exact zd); (next => exact zd)) | ((with_reducible refine Im.vget z45 ?_ ?_ ?_); (next => exact zd); (next => exact zd)) | ((with_reducible refine Im.vget (0 : Int) ?_ ?_ ?_); (next => exact zd); (next => exact zd)) | ((with_reducible refine Im.vget false ?_ ?_ ?_); (next => exact zd); (next => exact zd)) | ((with_reducible refine Im.call (spec_In.vi hG ?_ _ _) ?_ (fun r hr => ?_)); (next => omega); (next => exact zr)) | ((with_reducible refine Im.call (spec_SortVersions.vi hG ?_ _) ?_ (fun r hr => ?_)); (next => omega); (next => exact zr))
      | ((with_reducible refine Im.loop (S := fun s : List (S45) × List ByteArray × ByteArray × Int => [.un, .sl (s.1.map e45), .un, .un, .un, .ow 9 1 (s.2.1.map VV.str), .str s.2.2.1, .int s.2.2.2, .un, .un, .un, .un, .un, .un, .un, .un, .un, .un, .un, .un, .un, .un, .un, .un, .un, .un, .un]) (L := fun k s => spec_Pick.l0 k s.1 s.2.1 s.2.2.1 s.2.2.2) _ ?_ ?_ _ _ ⟨_, _, _, _⟩ _ (Nat.le_refl _) zo ?_)
         (next => intro s; rfl)
         (next =>
           intro k1 M1 ⟨x1, x5, x6, x7⟩ hk1 hM1 ih1
           conv => arg 2; simp only [spec_Pick.l0]
           repeat' first
             | (with_reducible first | exact Im.none | refine Im.ite (fun h => ?_) (fun h => ?_) | refine Im.sbind ?_)
             | ((conv => arg 3; whnf); first
               | ((with_reducible refine Im.fin ?_); exact zr) | ((with_reducible refine Im.anyo ?_ ?_); (next => kernel_rfl)) | ((with_reducible refine Im.bite_t ?_ ?_); (next => exact zq)) | ((with_reducible refine Im.bite_f ?_ ?_); (next => exact zq)) | ((with_reducible refine Im.bite_t ?_ ?_); (next => exact zd)) | ((with_reducible refine Im.must ?_ ?_); (next => exact zd)) | ((with_reducible refine Im.bite_f ?_ ?_); (next => exact zd)) | (with_reducible refine Im.byl ?_) | ((with_reducible refine Im.vget ByteArray.empty ?_ ?_ ?_); (next => exact zd); (next => exact zd)) | ((with_reducible refine Im.vget z45 ?_ ?_ ?_); (next => exact zd); (next => exact zd)) | ((with_reducible refine Im.vget (0 : Int) ?_ ?_ ?_); (next => exact zd); (next => exact zd)) | ((with_reducible refine Im.vget false ?_ ?_ ?_); (next => exact zd); (next => exact zd)) | ((with_reducible refine Im.call (spec_In.vi hG ?_ _ _) ?_ (fun r hr => ?_)); (next => omega); (next => exact zr)) | ((with_reducible refine Im.call (spec_SortVersions.vi hG ?_ _) ?_ (fun r hr => ?_)); (next => omega); (next => exact zr)) | ((with_reducible refine ih1 _ ⟨_, _, _, _⟩ _ ?_ ?_); (next => exact zo); exact zr)
               | exact zm | exact zx | fail)
           all_goals skip)
         exact zr)
      | exact zm | exact zx | fail)
  all_goals skip
end Go.Proofs.YtoidompkofomjaaGreatDoor.VI

end
section
namespace Go.Proofs.YtoidompkofomjaaGreatDoor.VI
open Go Go.RowKit Go.Proofs.YtoidompkofomjaaGreatDoor.G Go.Proofs.YtoidompkofomjaaGreatDoorW.PrintWords
set_option maxRecDepth 100000
set_option maxHeartbeats 16000000
set_option linter.unusedVariables false
set_option linter.unusedSimpArgs false
attribute [local irreducible] bite obind vget
theorem laws_FnPick.vi {k m : Nat} {Gv : FuncId → Option (List VV → Option (VV × List VV))} (hG : Base Gv) (hL5 : Gv 5 = some spec_DrawPick.gv) (hL7 : Gv 7 = some spec_DrawHoles.gv) (hL19 : Gv 19 = some impl_SortVersions.gv) (hm : k + 12 ≤ m) (l0 : List Int) : Im (fun r => (.bool r, [])) ((laws_FnPick.f k l0).bind keepT) (callv Tryz.prog ti keep Gv m 3 [.sl (l0.map VV.byte)]) := by
  obtain ⟨m, rfl⟩ : ∃ m', m = m' + 1 := ⟨m - 1, by omega⟩
  rw [show callv Tryz.prog ti keep Gv (m + 1) 3 _ = _ from callv_enter ((hG 3 (by decide) (by decide) (by decide)).trans rfl) Tryz.func3 (by kernel_rfl) rfl rfl]
  unfold laws_FnPick.f
  simp only [ite_bindT, bind_bindT, some_bindT, none_bindT, keepT_t, keepT_f, bne_iff_ne, ne_eq, ite_not]
  repeat' first
    | ((with_reducible apply Im.vopc); (case h => (intro K'; (conv => lhs; whnf); done))) | ((with_reducible refine Im.nat (fun k => (laws_FnPick.j0 k _ _ _ _ _ _ _).bind keepT) _ ?_ (fun kj hkj => ?_)); (next => rfl); (conv => arg 2; simp only [laws_FnPick.j0, Bool.false_eq_true, reduceIte, ite_bindT, bind_bindT, some_bindT, none_bindT, keepT_t, keepT_f, bne_iff_ne, ne_eq, ite_not])) | (with_reducible first | exact Im.none | refine Im.ite (fun h => ?_) (fun h => ?_) | refine Im.sbind ?_)
    | ((conv => arg 3; whnf); first
      | ((with_reducible refine Im.keepT ?_); exact zr) | ((with_reducible refine Im.fin ?_); exact zr) | ((with_reducible refine Im.anyo ?_ ?_); (next => kernel_rfl)) | ((with_reducible refine Im.bite_t ?_ ?_); (next => exact zq)) | ((with_reducible refine Im.bite_f ?_ ?_); (next => exact zq)) | ((with_reducible refine Im.bite_t ?_ ?_); (next => exact zd)) | ((with_reducible refine Im.must ?_ ?_); (next => exact zd)) | ((with_reducible refine Im.bite_f ?_ ?_); (next => exact zd)) | (with_reducible refine Im.byl ?_) | ((with_reducible refine Im.vget ByteArray.empty ?_ ?_ ?_); (next => exact zd); (next => exact zd)) | ((with_reducible refine Im.vget z45 ?_ ?_ ?_); (next => exact zd); (next => exact zd)) | ((with_reducible refine Im.vget (0 : Int) ?_ ?_ ?_); (next => exact zd); (next => exact zd)) | ((with_reducible refine Im.vget false ?_ ?_ ?_); (next => exact zd); (next => exact zd)) | ((with_reducible refine Im.call (impl_CompareVersion.vi hG ?_ _ _ _ _ _ _ _ _) ?_ (fun r hr => ?_)); (next => omega); (next => exact zr)) | ((with_reducible refine Im.call (impl_Holes.vi hG hL19 ?_ _ _) ?_ (fun r hr => ?_)); (next => omega); (next => exact zr)) | ((with_reducible refine Im.call (impl_In.vi hG ?_ _ _) ?_ (fun r hr => ?_)); (next => omega); (next => exact zr)) | ((with_reducible refine Im.call (impl_Pick.vi hG hL19 ?_ _ _) ?_ (fun r hr => ?_)); (next => omega); (next => exact zr)) | ((with_reducible refine Im.call (impl_ReadVersion.vi hG ?_ _) ?_ (fun r hr => ?_)); (next => omega); (next => exact zr)) | ((with_reducible refine Im.call (laws_big.vi hG ?_ _) ?_ (fun r hr => ?_)); (next => omega); (next => exact zr)) | ((with_reducible refine Im.call (laws_has.vi hG ?_ _ _) ?_ (fun r hr => ?_)); (next => omega); (next => exact zr)) | ((with_reducible refine Im.call (laws_sameTexts.vi hG ?_ _ _) ?_ (fun r hr => ?_)); (next => omega); (next => exact zr)) | ((with_reducible refine Im.call (spec_DrawHoles.vi hG hL7 ?_ _) ?_ (fun r hr => ?_)); (next => omega); (next => exact zr)) | ((with_reducible refine Im.call (spec_DrawPick.vi hG hL5 ?_ _) ?_ (fun r hr => ?_)); (next => omega); (next => exact zr)) | ((with_reducible refine Im.call (spec_Holes.vi hG ?_ _ _) ?_ (fun r hr => ?_)); (next => omega); (next => exact zr)) | ((with_reducible refine Im.call (spec_Pick.vi hG ?_ _ _) ?_ (fun r hr => ?_)); (next => omega); (next => exact zr))
      | ((with_reducible refine Im.loop (S := fun s : List ByteArray × List (S45) × ByteArray × List ByteArray × List (S45) × List ByteArray × Int × Int × Int × Int × List ByteArray => [.un, .un, .un, .sl (s.1.map VV.str), .sl (s.2.1.map e45), .str s.2.2.1, .sl (s.2.2.2.1.map VV.str), .sl (s.2.2.2.2.1.map e45), .ow 9 1 (s.2.2.2.2.2.1.map VV.str), .bx [.int s.2.2.2.2.2.2.2.1, .int s.2.2.2.2.2.2.2.2.1, .int s.2.2.2.2.2.2.2.2.2.1, .sl (s.2.2.2.2.2.2.2.2.2.2.map VV.str)], .un, .int s.2.2.2.2.2.2.1, .un, .un, .un, .un, .un, .un, .un, .un, .un, .un, .un, .un, .un, .un, .un, .un, .un, .un, .un, .un, .un, .un, .un, .un, .un, .un, .un, .un, .un, .un, .un, .un, .un, .un, .un, .un, .un, .un, .un, .un, .un, .un, .un, .un, .un, .un, .un, .un, .un, .un, .un, .un, .un, .un, .un, .un, .un, .un, .un, .un, .un, .un, .un, .un, .un, .un, .un, .un, .un, .un, .un, .un, .un, .un, .un, .un, .un, .un, .un, .un, .un, .un, .un, .un, .un, .un, .un, .un, .un, .un, .un, .un, .un, .un, .un, .un, .un, .un, .un, .un, .un, .un, .un, .un, .un, .un, .un, .un, .un]) (L := fun k s => (laws_FnPick.l0 k s.1 s.2.1 s.2.2.1 s.2.2.2.1 s.2.2.2.2.1 s.2.2.2.2.2.1 s.2.2.2.2.2.2.1 s.2.2.2.2.2.2.2.1 s.2.2.2.2.2.2.2.2.1 s.2.2.2.2.2.2.2.2.2.1 s.2.2.2.2.2.2.2.2.2.2).bind keepT) _ ?_ ?_ _ _ ⟨_, _, _, _, _, _, _, _, _, _, _⟩ _ (Nat.le_refl _) zo ?_)
         (next => intro s; rfl)
         (next =>
           intro k1 M1 ⟨x3, x4, x5, x6, x7, x8, x11, x784000, x784001, x784002, x784003⟩ hk1 hM1 ih1
           conv => arg 2; simp only [laws_FnPick.l0, ite_bindT, bind_bindT, some_bindT, none_bindT, keepT_t, keepT_f, bne_iff_ne, ne_eq, ite_not]
           repeat' first
             | ((with_reducible apply Im.vopc); (case h => (intro K'; (conv => lhs; whnf); done))) | (with_reducible first | exact Im.none | refine Im.ite (fun h => ?_) (fun h => ?_) | refine Im.sbind ?_)
             | ((conv => arg 3; whnf); first
               | ((with_reducible refine Im.keepT ?_); exact zr) | ((with_reducible refine Im.fin ?_); exact zr) | ((with_reducible refine Im.anyo ?_ ?_); (next => kernel_rfl)) | ((with_reducible refine Im.bite_t ?_ ?_); (next => exact zq)) | ((with_reducible refine Im.bite_f ?_ ?_); (next => exact zq)) | ((with_reducible refine Im.bite_t ?_ ?_); (next => exact zd)) | ((with_reducible refine Im.must ?_ ?_); (next => exact zd)) | ((with_reducible refine Im.bite_f ?_ ?_); (next => exact zd)) | (with_reducible refine Im.byl ?_) | ((with_reducible refine Im.vget ByteArray.empty ?_ ?_ ?_); (next => exact zd); (next => exact zd)) | ((with_reducible refine Im.vget z45 ?_ ?_ ?_); (next => exact zd); (next => exact zd)) | ((with_reducible refine Im.vget (0 : Int) ?_ ?_ ?_); (next => exact zd); (next => exact zd)) | ((with_reducible refine Im.vget false ?_ ?_ ?_); (next => exact zd); (next => exact zd)) | ((with_reducible refine Im.call (impl_CompareVersion.vi hG ?_ _ _ _ _ _ _ _ _) ?_ (fun r hr => ?_)); (next => omega); (next => exact zr)) | ((with_reducible refine Im.call (impl_Holes.vi hG hL19 ?_ _ _) ?_ (fun r hr => ?_)); (next => omega); (next => exact zr)) | ((with_reducible refine Im.call (impl_In.vi hG ?_ _ _) ?_ (fun r hr => ?_)); (next => omega); (next => exact zr)) | ((with_reducible refine Im.call (impl_Pick.vi hG hL19 ?_ _ _) ?_ (fun r hr => ?_)); (next => omega); (next => exact zr)) | ((with_reducible refine Im.call (impl_ReadVersion.vi hG ?_ _) ?_ (fun r hr => ?_)); (next => omega); (next => exact zr)) | ((with_reducible refine Im.call (laws_big.vi hG ?_ _) ?_ (fun r hr => ?_)); (next => omega); (next => exact zr)) | ((with_reducible refine Im.call (laws_has.vi hG ?_ _ _) ?_ (fun r hr => ?_)); (next => omega); (next => exact zr)) | ((with_reducible refine Im.call (laws_sameTexts.vi hG ?_ _ _) ?_ (fun r hr => ?_)); (next => omega); (next => exact zr)) | ((with_reducible refine Im.call (spec_DrawHoles.vi hG hL7 ?_ _) ?_ (fun r hr => ?_)); (next => omega); (next => exact zr)) | ((with_reducible refine Im.call (spec_DrawPick.vi hG hL5 ?_ _) ?_ (fun r hr => ?_)); (next => omega); (next => exact zr)) | ((with_reducible refine Im.call (spec_Holes.vi hG ?_ _ _) ?_ (fun r hr => ?_)); (next => omega); (next => exact zr)) | ((with_reducible refine Im.call (spec_Pick.vi hG ?_ _ _) ?_ (fun r hr => ?_)); (next => omega); (next => exact zr)) | ((with_reducible refine ih1 _ ⟨_, _, _, _, _, _, _, _, _, _, _⟩ _ ?_ ?_); (next => exact zo); exact zr)
               | ((with_reducible refine Im.loop (S := fun s : List ByteArray × List (S45) × List ByteArray × Int => [.un, .un, .un, .un, .un, .un, .sl (s.1.map VV.str), .sl (s.2.1.map e45), .ow 9 1 (s.2.2.1.map VV.str), .un, .un, .un, .un, .un, .int s.2.2.2, .un, .un, .un, .un, .un, .un, .un, .un, .un, .un, .un, .un, .un, .un, .un, .un, .un, .un, .un, .un, .un, .un, .un, .un, .un, .un, .un, .un, .un, .un, .un, .un, .un, .un, .un, .un, .un, .un, .un, .un, .un, .un, .un, .un, .un, .un, .un, .un, .un, .un, .un, .un, .un, .un, .un, .un, .un, .un, .un, .un, .un, .un, .un, .un, .un, .un, .un, .un, .un, .un, .un, .un, .un, .un, .un, .un, .un, .un, .un, .un, .un, .un, .un, .un, .un, .un, .un, .un, .un, .un, .un, .un, .un, .un, .un, .un, .un, .un, .un, .un, .un, .un, .un, .un, .un, .un]) (L := fun k s => (laws_FnPick.l1 k s.1 s.2.1 s.2.2.1 s.2.2.2).bind keepT) _ ?_ ?_ _ _ ⟨_, _, _, _⟩ _ (Nat.le_refl _) zo ?_)
                  (next => intro s; rfl)
                  (next =>
                    intro k2 M2 ⟨x6, x7, x8, x14⟩ hk2 hM2 ih2
                    conv => arg 2; simp only [laws_FnPick.l1, ite_bindT, bind_bindT, some_bindT, none_bindT, keepT_t, keepT_f, bne_iff_ne, ne_eq, ite_not]
                    repeat' first
                      | ((with_reducible apply Im.vopc); (case h => (intro K'; (conv => lhs; whnf); done))) | (with_reducible first | exact Im.none | refine Im.ite (fun h => ?_) (fun h => ?_) | refine Im.sbind ?_)
                      | ((conv => arg 3; whnf); first
                        | ((with_reducible refine Im.keepT ?_); exact zr) | ((with_reducible refine Im.fin ?_); exact zr) | ((with_reducible refine Im.anyo ?_ ?_); (next => kernel_rfl)) | ((with_reducible refine Im.bite_t ?_ ?_); (next => exact zq)) | ((with_reducible refine Im.bite_f ?_ ?_); (next => exact zq)) | ((with_reducible refine Im.bite_t ?_ ?_); (next => exact zd)) | ((with_reducible refine Im.must ?_ ?_); (next => exact zd)) | ((with_reducible refine Im.bite_f ?_ ?_); (next => exact zd)) | (with_reducible refine Im.byl ?_) | ((with_reducible refine Im.vget ByteArray.empty ?_ ?_ ?_); (next => exact zd); (next => exact zd)) | ((with_reducible refine Im.vget z45 ?_ ?_ ?_); (next => exact zd); (next => exact zd)) | ((with_reducible refine Im.vget (0 : Int) ?_ ?_ ?_); (next => exact zd); (next => exact zd)) | ((with_reducible refine Im.vget false ?_ ?_ ?_); (next => exact zd); (next => exact zd)) | ((with_reducible refine Im.call (impl_CompareVersion.vi hG ?_ _ _ _ _ _ _ _ _) ?_ (fun r hr => ?_)); (next => omega); (next => exact zr)) | ((with_reducible refine Im.call (impl_Holes.vi hG hL19 ?_ _ _) ?_ (fun r hr => ?_)); (next => omega); (next => exact zr)) | ((with_reducible refine Im.call (impl_In.vi hG ?_ _ _) ?_ (fun r hr => ?_)); (next => omega); (next => exact zr)) | ((with_reducible refine Im.call (impl_Pick.vi hG hL19 ?_ _ _) ?_ (fun r hr => ?_)); (next => omega); (next => exact zr)) | ((with_reducible refine Im.call (impl_ReadVersion.vi hG ?_ _) ?_ (fun r hr => ?_)); (next => omega); (next => exact zr)) | ((with_reducible refine Im.call (laws_big.vi hG ?_ _) ?_ (fun r hr => ?_)); (next => omega); (next => exact zr)) | ((with_reducible refine Im.call (laws_has.vi hG ?_ _ _) ?_ (fun r hr => ?_)); (next => omega); (next => exact zr)) | ((with_reducible refine Im.call (laws_sameTexts.vi hG ?_ _ _) ?_ (fun r hr => ?_)); (next => omega); (next => exact zr)) | ((with_reducible refine Im.call (spec_DrawHoles.vi hG hL7 ?_ _) ?_ (fun r hr => ?_)); (next => omega); (next => exact zr)) | ((with_reducible refine Im.call (spec_DrawPick.vi hG hL5 ?_ _) ?_ (fun r hr => ?_)); (next => omega); (next => exact zr)) | ((with_reducible refine Im.call (spec_Holes.vi hG ?_ _ _) ?_ (fun r hr => ?_)); (next => omega); (next => exact zr)) | ((with_reducible refine Im.call (spec_Pick.vi hG ?_ _ _) ?_ (fun r hr => ?_)); (next => omega); (next => exact zr)) | ((with_reducible refine ih2 _ ⟨_, _, _, _⟩ _ ?_ ?_); (next => exact zo); exact zr)
                        | exact zm | exact zx | fail)
                    all_goals skip)
                  exact zr)
               | exact zm | exact zx | fail)
           all_goals skip)
         exact zr)
      | exact zm | exact zx | fail)
  all_goals skip
end Go.Proofs.YtoidompkofomjaaGreatDoor.VI

end
section
namespace Go.Proofs.YtoidompkofomjaaGreatDoor.G
open Go Go.RowKit Go.Proofs.YtoidompkofomjaaGreatDoorW.PrintWords Go.Proofs.YtoidompkofomjaaGreatDoor.VI
set_option maxRecDepth 100000
set_option linter.unusedVariables false
set_option linter.unusedSimpArgs false
theorem laws_FnPick.calls (k : Nat) (A0 : Option Addr) (c0 : Nat) (l0 : List Int) (r : Bool) (w : World) (hr0 : Kd.C (Kd.int .u8) w A0 l0.length l0) (hc0 : l0.length ≤ c0) (hGE : Glob FactE w) (hGM : Glob FactM w) (hGT : Glob FactT w) (hr_ : r = true) (h : laws_FnPick.f k l0 = some r) :
  Calls Tryz.prog 3 #[.slice A0 l0.length c0] w fun e w' => e = .returned (.bool r) ∧ Below w.heap.size w w' := by
  have gws : ∀ a b, Below w.heap.size w a → Below w.heap.size a b → Below w.heap.size w b := fun a b h1 h2 => h1.trans h2
  have hok := callv_ok (P := Tryz.prog) (NG := w.heap.size) (GW := fun a => Below w.heap.size w a) VI.hti gws (keep := keep) (Gv := Gv) (given_ok hGE hGM hGT) (fun C hC hc => any_sound (by kernel_rfl) (by rw [hC]; exact VI.hti) gws hc) (k + 12)
  exact CallOk1.calls (hok 3 _ _ rfl (laws_FnPick.vi (k := k) (m := k + 12) base1 rfl rfl rfl (Nat.le_refl _) l0 _ (by rw [h, hr_]; rfl))) (Below.refl _ _) (Nat.le_refl _) (.cons _ _ _ _ (dr_row (enc := VV.byte) kv_byte hc0 hr0) .nil)
end Go.Proofs.YtoidompkofomjaaGreatDoor.G

end
section
namespace Go.Proofs.YtoidompkofomjaaGreatDoor.U
open Go Go.RowKit Go.Proofs.YtoidompkofomjaaGreatDoorW.PrintWords Go.Proofs.YtoidompkofomjaaGreatDoor.G
set_option linter.unusedVariables false
set_option linter.unusedSimpArgs false
theorem sorted_ver (l : List ByteArray) (hs : ∀ x ∈ l, x.size ≤ 1048576) : ∀ x ∈ (sorted cmpS ((l.map L).filter isVer)).map S, isVer (L x) = true ∧ x.size ≤ 1048576 := by
  intro x hx
  obtain ⟨y, hy, rfl⟩ := List.mem_map.1 hx
  have hm := ((sorted_is cmpS_keyed ((l.map L).filter isVer) (fun a ha b hb h => cmpS_inj (List.mem_filter.1 ha).2 (List.mem_filter.1 hb).2 h)).2 y).1 hy
  obtain ⟨h1, h2⟩ := List.mem_filter.1 hm
  obtain ⟨z, hz, rfl⟩ := List.mem_map.1 h1
  exact ⟨by rw [L_S]; exact h2, by rw [S_L]; exact hs z hz⟩
theorem sorted_len (l : List B) : (sorted cmpS l).length ≤ l.length := by
  have : ∀ (l o : List B), (l.foldl (fun out s => ins cmpS s out) o).length ≤ l.length + o.length := by
    intro l
    induction l with
    | nil => intro o; simp
    | cons s l ih =>
      intro o
      have h1 := ih (ins cmpS s o)
      have h2 := ins_len s o
      rw [List.foldl_cons, List.length_cons]; omega
  exact this l []
theorem sorted_small (l : List ByteArray) (hl : l.length ≤ 1048576) : ((sorted cmpS ((l.map L).filter isVer)).map S).length ≤ 1048577 := by
  have h1 := sorted_len ((l.map L).filter isVer)
  have h2 := List.length_filter_le isVer (l.map L)
  rw [List.length_map] at h2 ⊢; omega
def bestIn (r : List S45) (b : ByteArray) (l : List ByteArray) : ByteArray := l.foldl (fun b x => if inL (L x) r = true then x else b) b
theorem bestIn_snoc (r : List S45) (b x : ByteArray) (l : List ByteArray) : bestIn r b (l ++ [x]) = if inL (L x) r = true then x else bestIn r b l := by
  unfold bestIn
  rw [List.foldl_append]; rfl
theorem spec_pick_loop (r : List S45) (hr : r.length ≤ 1048576) (hrs : ∀ b ∈ r, b.f0.size ≤ 1048576 ∧ b.f1.size ≤ 1048576) (l : List ByteArray) (hl : l.length ≤ 1048577) (hs : ∀ x ∈ l, x.size ≤ 1048576) : ∀ d i (b : ByteArray), i + d = l.length →
    Ev (fun k => spec_Pick.l0 k r l b (i : Int)) (bestIn r b (l.drop i)) := by
  intro d
  induction d with
  | zero =>
    intro i b hi
    rw [List.drop_of_length_le (by omega)]
    exact Ev.step (f := fun _ => some b) (fun k => by rw [spec_Pick.l0, if_neg (show ¬ (i : Int) < (l.length : Int) by omega)]) (Ev.now _)
  | succ d ih =>
    intro i b hi
    have hlt : i < l.length := by omega
    have hm := hs _ (getD_mem l i ByteArray.empty hlt)
    have es : rdOf ByteArray.empty l (i : Int) = l.getD i ByteArray.empty := rfl
    rw [drop_getD l i ByteArray.empty hlt]
    refine Ev.step (fun k => by rw [spec_Pick.l0, if_pos (show (i : Int) < (l.length : Int) by omega), if_pos (show (0 : Int) ≤ (i : Int) by omega), es, wa1 i (by omega)]) ?_
    refine Ev.bind (spec_In_ev (l.getD i ByteArray.empty) r hm hr hrs) ?_
    by_cases h : inL (L (l.getD i ByteArray.empty)) r = true
    · have e : bestIn r b (l.getD i ByteArray.empty :: l.drop (i + 1)) = bestIn r (l.getD i ByteArray.empty) (l.drop (i + 1)) := by
        show bestIn r (if _ = true then _ else _) _ = _
        rw [if_pos h]
      rw [e]
      exact ev_pos h (ih (i + 1) _ (by omega))
    · have e : bestIn r b (l.getD i ByteArray.empty :: l.drop (i + 1)) = bestIn r b (l.drop (i + 1)) := by
        show bestIn r (if _ = true then _ else _) _ = _
        rw [if_neg h]
      rw [e]
      exact ev_neg h (ih (i + 1) _ (by omega))
theorem impl_pick_loop (r : List S45) (hr : r.length ≤ 1048576) (hrs : ∀ b ∈ r, b.f0.size ≤ 1048576 ∧ b.f1.size ≤ 1048576) (l : List ByteArray) (hl : l.length ≤ 1048577) (hs : ∀ x ∈ l, x.size ≤ 1048576) : ∀ n, n ≤ l.length →
    Ev (fun k => impl_Pick.l0 k r l ((n : Int) - 1)) (bestIn r ⟨#[]⟩ (l.take n)) := by
  intro n
  induction n with
  | zero =>
    intro _
    rw [List.take_zero]
    exact Ev.step (f := fun _ => some (⟨#[]⟩ : ByteArray)) (fun k => by rw [impl_Pick.l0, if_neg (by omega)]) (Ev.now _)
  | succ n ih =>
    intro hn
    have hlt : n < l.length := by omega
    have h2 := hs _ (getD_mem l n ByteArray.empty hlt)
    have es : rdOf ByteArray.empty l (n : Int) = l.getD n ByteArray.empty := rfl
    have e : ((n + 1 : Nat) : Int) - 1 = (n : Int) := by omega
    have ew : wrap64 ((n : Int) - 1) = (n : Int) - 1 := w64 (by omega) (by omega)
    have et : l.take (n + 1) = l.take n ++ [l.getD n ByteArray.empty] := by
      rw [List.take_succ_eq_append_getElem hlt, List.getD_eq_getElem?_getD, List.getElem?_eq_getElem hlt]; rfl
    rw [e, et, bestIn_snoc]
    refine Ev.step (fun k => by rw [impl_Pick.l0, if_pos (by omega), if_pos (by omega), if_pos (by omega), es, ew]) ?_
    refine Ev.bind (impl_In_ev _ r h2 hr hrs) ?_
    by_cases h : inL (L (l.getD n ByteArray.empty)) r = true
    · rw [if_pos h]; exact ev_pos h (Ev.now _)
    · rw [if_neg h]; exact ev_neg h (ih (by omega))
theorem spec_Pick_ev (l : List ByteArray) (hl : l.length ≤ 1048576) (hs : ∀ x ∈ l, x.size ≤ 1048576) (r : List S45) (hr : r.length ≤ 1048576) (hrs : ∀ b ∈ r, b.f0.size ≤ 1048576 ∧ b.f1.size ≤ 1048576) : Ev (fun k => spec_Pick.f k l r) (bestIn r ⟨#[]⟩ ((sorted cmpS ((l.map L).filter isVer)).map S)) := by
  unfold spec_Pick.f
  refine Ev.bind (spec_SortVersions_ev l hl hs) ?_
  have := spec_pick_loop r hr hrs _ (sorted_small l hl) (fun x hx => (sorted_ver l hs x hx).2) _ 0 ⟨#[]⟩ (Nat.zero_add _)
  rw [List.drop_zero] at this
  exact this
theorem impl_Pick_ev (l : List ByteArray) (hl : l.length ≤ 1048576) (hs : ∀ x ∈ l, x.size ≤ 1048576) (r : List S45) (hr : r.length ≤ 1048576) (hrs : ∀ b ∈ r, b.f0.size ≤ 1048576 ∧ b.f1.size ≤ 1048576) : Ev (fun k => impl_Pick.f k l r) (bestIn r ⟨#[]⟩ ((sorted cmpS ((l.map L).filter isVer)).map S)) := by
  unfold impl_Pick.f
  have hf : impl_SortVersions.f l = some ((sorted cmpS ((l.map L).filter isVer)).map S) := by unfold impl_SortVersions.f; rw [if_pos ⟨hl, hs⟩]
  rw [hf]
  have := impl_pick_loop r hr hrs _ (sorted_small l hl) (fun x hx => (sorted_ver l hs x hx).2) _ (Nat.le_refl _)
  rw [List.take_length] at this
  have ew : ∀ n : Nat, n ≤ 1048577 → wrap64 ((n : Int) - 1) = (n : Int) - 1 := fun n hn => w64 (by omega) (by omega)
  show Ev (fun k => impl_Pick.l0 k _ _ (wrap64 _)) _
  rw [ew _ (sorted_small l hl)]
  exact this
def hstep (r : List S45) (s : List ByteArray × List ByteArray × Bool) (x : ByteArray) : List ByteArray × List ByteArray × Bool :=
  if inL (L x) r = true then (s.1 ++ s.2.1, [], true) else if s.2.2 = true then (s.1, s.2.1 ++ [x], s.2.2) else s
def holesL (r : List S45) (l : List ByteArray) : List ByteArray := (l.foldl (hstep r) ([], [], false)).1
theorem hstep_in {r : List S45} {x : ByteArray} (h : inL (L x) r = true) (s : List ByteArray × List ByteArray × Bool) : hstep r s x = (s.1 ++ s.2.1, [], true) := by unfold hstep; rw [if_pos h]
theorem hstep_any {r : List S45} {x : ByteArray} (h : ¬ inL (L x) r = true) (o w : List ByteArray) : hstep r (o, w, true) x = (o, w ++ [x], true) := by unfold hstep; rw [if_neg h]; rfl
theorem hstep_no {r : List S45} {x : ByteArray} (h : ¬ inL (L x) r = true) (o w : List ByteArray) : hstep r (o, w, false) x = (o, w, false) := by unfold hstep; rw [if_neg h]; rfl
theorem impl_holes_loop (r : List S45) (hr : r.length ≤ 1048576) (hrs : ∀ b ∈ r, b.f0.size ≤ 1048576 ∧ b.f1.size ≤ 1048576) (l : List ByteArray) (hl : l.length ≤ 1048577) (hs : ∀ x ∈ l, x.size ≤ 1048576) : ∀ d i (o w : List ByteArray) (b : Bool), i + d = l.length → o.length + w.length ≤ i →
    Ev (fun k => impl_Holes.l0 k r o w b l (l.length : Int) (i : Int)) ((l.drop i).foldl (hstep r) (o, w, b)).1 := by
  intro d
  induction d with
  | zero =>
    intro i o w b hi _
    rw [List.drop_of_length_le (by omega)]
    exact Ev.step (f := fun _ => some o) (fun k => by rw [impl_Holes.l0, if_neg (show ¬ (i : Int) < (l.length : Int) by omega)]) (Ev.now _)
  | succ d ih =>
    intro i o w b hi how
    have hlt : i < l.length := by omega
    have hm := hs _ (getD_mem l i ByteArray.empty hlt)
    have es : rdOf ByteArray.empty l (i : Int) = l.getD i ByteArray.empty := rfl
    rw [drop_getD l i ByteArray.empty hlt, List.foldl_cons]
    refine Ev.step (fun k => by rw [impl_Holes.l0, if_pos (show (i : Int) < (l.length : Int) by omega), if_pos (show (0 : Int) ≤ (i : Int) by omega), if_pos (show (i : Int) < (l.length : Int) by omega), es, wa1 i (by omega)]) ?_
    refine Ev.bind (impl_In_ev (l.getD i ByteArray.empty) r hm hr hrs) ?_
    by_cases h : inL (L (l.getD i ByteArray.empty)) r = true
    · rw [hstep_in h]
      refine ev_pos h (ev_pos (by omega) ?_)
      exact ih (i + 1) _ _ _ (by omega) (by rw [List.length_append]; simpa using Nat.le_succ_of_le how)
    · refine ev_neg h ?_
      cases b with
      | true =>
        rw [hstep_any h]
        refine ev_pos rfl (ev_pos (by omega) ?_)
        exact ih (i + 1) _ _ _ (by omega) (by rw [List.length_append, List.length_singleton]; omega)
      | false =>
        rw [hstep_no h]
        exact ev_neg (by decide) (ih (i + 1) _ _ _ (by omega) (by omega))
def notIn (r : List S45) (x : ByteArray) : Bool := !inL (L x) r
theorem spec_holes_l1 (r : List S45) (hr : r.length ≤ 1048576) (hrs : ∀ b ∈ r, b.f0.size ≤ 1048576 ∧ b.f1.size ≤ 1048576) (l : List ByteArray) (hl : l.length ≤ 1048577) (hs : ∀ x ∈ l, x.size ≤ 1048576) : ∀ (m p q acc : List ByteArray), l = p ++ m ++ q → acc.length ≤ p.length →
    Ev (fun k => spec_Holes.l1 k r l ((p.length + m.length : Nat) : Int) acc (p.length : Int)) (acc ++ m.filter (notIn r)) := by
  intro m
  induction m with
  | nil =>
    intro p q acc e _
    rw [List.filter_nil, List.append_nil]
    exact Ev.step (f := fun _ => some acc) (fun k => by rw [spec_Holes.l1, if_neg (by rw [List.length_nil]; omega)]) (Ev.now _)
  | cons x m ih =>
    intro p q acc e ha
    have hle : p.length + (m.length + 1) ≤ l.length := by rw [e, List.length_append, List.length_append, List.length_cons]; omega
    have hx : l.getD p.length ByteArray.empty = x := by rw [e, List.append_assoc, List.getD_eq_getElem?_getD, List.getElem?_append_right (Nat.le_refl _), Nat.sub_self]; rfl
    have es : rdOf ByteArray.empty l (p.length : Int) = x := hx
    have hm : x.size ≤ 1048576 := hs _ (by rw [e]; simp)
    have ih' := fun acc' h => ih (p ++ [x]) q acc' (by rw [e]; simp) h
    rw [List.length_append, List.length_singleton, show p.length + 1 + m.length = p.length + (x :: m).length by rw [List.length_cons]; omega] at ih'
    refine Ev.step (fun k => by rw [spec_Holes.l1, if_pos (show (p.length : Int) < ((p.length + (x :: m).length : Nat) : Int) by rw [List.length_cons]; omega), if_pos (show (0 : Int) ≤ (p.length : Int) by omega), if_pos (show (p.length : Int) < (l.length : Int) by omega), es, wa1 p.length (by omega)]) ?_
    refine Ev.bind (spec_In_ev x r hm hr hrs) ?_
    by_cases h : inL (L x) r = true
    · have ef : (x :: m).filter (notIn r) = m.filter (notIn r) := by rw [List.filter_cons_of_neg]; unfold notIn; rw [h]; decide
      rw [ef]
      exact ev_pos h (ih' acc (by omega))
    · have ef : (x :: m).filter (notIn r) = x :: m.filter (notIn r) := by rw [List.filter_cons_of_pos]; unfold notIn; simpa using h
      rw [ef]
      refine ev_neg h (ev_pos (by omega) ?_)
      have := ih' (acc ++ [x]) (by rw [List.length_append, List.length_singleton]; omega)
      rw [List.append_assoc] at this
      exact this
def HInv (r : List S45) (l : List ByteArray) (i : Nat) (s : List ByteArray × List ByteArray × Bool) (f t : Int) : Prop :=
  (s = ([], [], false) ∧ f = (l.length : Int) ∧ t = -1) ∨
  ∃ (p m q : List ByteArray) (y : ByteArray), l.take i = p ++ m ++ y :: q ∧ f = (p.length : Int) ∧ t = ((p.length + m.length : Nat) : Int) ∧ inL (L y) r = true ∧ q.filter (notIn r) = q ∧ s = (m.filter (notIn r), q, true)
theorem spec_holes_loop (r : List S45) (hr : r.length ≤ 1048576) (hrs : ∀ b ∈ r, b.f0.size ≤ 1048576 ∧ b.f1.size ≤ 1048576) (l : List ByteArray) (hl : l.length ≤ 1048577) (hs : ∀ x ∈ l, x.size ≤ 1048576) : ∀ d i (s : List ByteArray × List ByteArray × Bool) (f t : Int), i + d = l.length → HInv r l i s f t →
    Ev (fun k => spec_Holes.l0 k r l f t (i : Int)) ((l.drop i).foldl (hstep r) s).1 := by
  intro d
  induction d with
  | zero =>
    intro i s f t hi hv
    rw [List.drop_of_length_le (by omega), List.foldl_nil]
    refine Ev.step (fun k => by rw [spec_Holes.l0, if_neg (show ¬ (i : Int) < (l.length : Int) by omega)]) ?_
    rcases hv with ⟨rfl, rfl, rfl⟩ | ⟨p, m, q, y, e, rfl, rfl, _, _, rfl⟩
    · exact Ev.step (f := fun _ => some ([] : List ByteArray)) (fun k => by rw [spec_Holes.l1, if_neg (by omega)]) (Ev.now _)
    · rw [List.take_of_length_le (by omega)] at e
      have := spec_holes_l1 r hr hrs l hl hs m p (y :: q) [] e (Nat.zero_le _)
      rw [List.nil_append] at this
      exact this
  | succ d ih =>
    intro i s f t hi hv
    have hlt : i < l.length := by omega
    have hm := hs _ (getD_mem l i ByteArray.empty hlt)
    have es : rdOf ByteArray.empty l (i : Int) = l.getD i ByteArray.empty := rfl
    have et : l.take (i + 1) = l.take i ++ [l.getD i ByteArray.empty] := by
      rw [List.take_succ_eq_append_getElem hlt, List.getD_eq_getElem?_getD, List.getElem?_eq_getElem hlt]; rfl
    have hti : (l.take i).length = i := by rw [List.length_take]; omega
    rw [drop_getD l i ByteArray.empty hlt, List.foldl_cons]
    refine Ev.step (fun k => by rw [spec_Holes.l0, if_pos (show (i : Int) < (l.length : Int) by omega), if_pos (show (0 : Int) ≤ (i : Int) by omega), es, wa1 i (by omega)]) ?_
    refine Ev.bind (spec_In_ev (l.getD i ByteArray.empty) r hm hr hrs) ?_
    generalize l.getD i ByteArray.empty = x at et ⊢
    by_cases h : inL (L x) r = true
    · rw [hstep_in h]
      refine ev_pos h ?_
      rcases hv with ⟨rfl, rfl, rfl⟩ | ⟨p, m, q, y, e, rfl, rfl, hy, hq, rfl⟩
      · refine ev_pos (by omega) (ih (i + 1) _ _ _ (by omega) (.inr ⟨l.take i, [], [], x, by rw [et, List.append_nil], by rw [hti], by rw [hti]; rfl, h, rfl, rfl⟩))
      · have hlen := congrArg List.length e
        rw [hti, List.length_append, List.length_append, List.length_cons] at hlen
        refine ev_neg (by omega) (ih (i + 1) _ _ _ (by omega) (.inr ⟨p, m ++ y :: q, [], x, by rw [et, e]; simp, rfl, ?_, h, rfl, ?_⟩))
        · rw [List.length_append, List.length_cons]; omega
        · have ef : (y :: q).filter (notIn r) = q := by rw [List.filter_cons_of_neg, hq]; unfold notIn; rw [hy]; decide
          rw [List.filter_append, ef]
    · refine ev_neg h ?_
      rcases hv with ⟨rfl, rfl, rfl⟩ | ⟨p, m, q, y, e, rfl, rfl, hy, hq, rfl⟩
      · rw [hstep_no h]
        exact ih (i + 1) _ _ _ (by omega) (.inl ⟨rfl, rfl, rfl⟩)
      · rw [hstep_any h]
        refine ih (i + 1) _ _ _ (by omega) (.inr ⟨p, m, q ++ [x], y, by rw [et, e]; simp, rfl, rfl, hy, ?_, rfl⟩)
        rw [List.filter_append, hq, List.filter_cons_of_pos (by unfold notIn; simpa using h), List.filter_nil]
theorem spec_Holes_ev (l : List ByteArray) (hl : l.length ≤ 1048576) (hs : ∀ x ∈ l, x.size ≤ 1048576) (r : List S45) (hr : r.length ≤ 1048576) (hrs : ∀ b ∈ r, b.f0.size ≤ 1048576 ∧ b.f1.size ≤ 1048576) : Ev (fun k => spec_Holes.f k l r) (holesL r ((sorted cmpS ((l.map L).filter isVer)).map S)) := by
  unfold spec_Holes.f
  refine Ev.bind (spec_SortVersions_ev l hl hs) ?_
  have := spec_holes_loop r hr hrs _ (sorted_small l hl) (fun x hx => (sorted_ver l hs x hx).2) _ 0 ([], [], false) _ _ (Nat.zero_add _) (.inl ⟨rfl, rfl, rfl⟩)
  rw [List.drop_zero] at this
  exact this
theorem impl_Holes_ev (l : List ByteArray) (hl : l.length ≤ 1048576) (hs : ∀ x ∈ l, x.size ≤ 1048576) (r : List S45) (hr : r.length ≤ 1048576) (hrs : ∀ b ∈ r, b.f0.size ≤ 1048576 ∧ b.f1.size ≤ 1048576) : Ev (fun k => impl_Holes.f k l r) (holesL r ((sorted cmpS ((l.map L).filter isVer)).map S)) := by
  unfold impl_Holes.f
  have hf : impl_SortVersions.f l = some ((sorted cmpS ((l.map L).filter isVer)).map S) := by unfold impl_SortVersions.f; rw [if_pos ⟨hl, hs⟩]
  rw [hf]
  have := impl_holes_loop r hr hrs _ (sorted_small l hl) (fun x hx => (sorted_ver l hs x hx).2) _ 0 [] [] false (Nat.zero_add _) (Nat.le_refl _)
  rw [List.drop_zero] at this
  exact this
theorem holesL_len (r : List S45) : ∀ (l : List ByteArray) (s : List ByteArray × List ByteArray × Bool), (l.foldl (hstep r) s).1.length ≤ s.1.length + s.2.1.length + l.length
  | [], s => by rw [List.foldl_nil, List.length_nil]; omega
  | x :: l, s => by
    rw [List.foldl_cons]
    have := holesL_len r l (hstep r s x)
    have h2 : (hstep r s x).1.length + (hstep r s x).2.1.length ≤ s.1.length + s.2.1.length + 1 := by
      unfold hstep
      split
      · show (s.1 ++ s.2.1).length + 0 ≤ _; rw [List.length_append]; omega
      · split
        · show s.1.length + (s.2.1 ++ [x]).length ≤ _; rw [List.length_append, List.length_singleton]; omega
        · omega
    rw [List.length_cons]; omega
end Go.Proofs.YtoidompkofomjaaGreatDoor.U

end
section
namespace Go.Proofs.YtoidompkofomjaaGreatDoor.Pure
open Go Go.RowKit Go.Proofs.YtoidompkofomjaaGreatDoorW.PrintWords Go.Proofs.YtoidompkofomjaaGreatDoor.G Go.Proofs.YtoidompkofomjaaGreatDoor.U
set_option linter.unusedVariables false
set_option linter.unusedSimpArgs false
theorem drawPick (l : List Int) (hl : l.length ≤ 1048576) : ∃ t r, Ev (fun k => spec_DrawPick.f k l) (t, r) ∧ t.length ≤ 12 ∧ (∀ x ∈ t, x.size ≤ 3000) ∧ smallB r := by
  obtain ⟨h, e⟩ := new_any l hl
  obtain ⟨t, i', h', e2, z1, z2, z3, z4⟩ := list_any l 0 h (by omega) (by omega) (by omega)
  obtain ⟨r, i2, h2, e3, hr, _⟩ := range3_any l i' h' (by omega) z3 z4
  exact ⟨t, r, by unfold spec_DrawPick.f; exact Ev.bind e (Ev.bind e2 (Ev.bind e3 (Ev.now _))), by omega, z2, hr⟩
theorem drawHoles (l : List Int) (hl : l.length ≤ 1048576) : ∃ t r, Ev (fun k => spec_DrawHoles.f k l) (t, r) ∧ t.length ≤ 12 ∧ (∀ x ∈ t, x.size ≤ 3000) ∧ smallB r := by
  obtain ⟨h, e⟩ := new_any l hl
  obtain ⟨t, i', h', e2, z1, z2, z3, z4⟩ := list_any l 0 h (by omega) (by omega) (by omega)
  obtain ⟨u, i1, h1, e4, y1, y2, y3, y4⟩ := list_any l i' h' (by omega) z3 z4
  obtain ⟨r, i2, h2, e3, hr, _⟩ := range3_any l i1 h1 (by omega) y3 y4
  refine ⟨t ++ u, r, by unfold spec_DrawHoles.f; exact Ev.bind e (Ev.bind e2 (Ev.bind e4 (ev_pos (show t.length + u.length < 8796093022208 by omega) (Ev.bind e3 (Ev.now _))))), by rw [List.length_append]; omega, fun x hx => ?_, hr⟩
  rcases List.mem_append.1 hx with hx | hx
  · exact z2 x hx
  · exact y2 x hx
abbrev inOrd (l : List ByteArray) : List ByteArray := (sorted cmpS ((l.map L).filter isVer)).map S
theorem ord_is (l : List ByteArray) : Strict cmpS (sorted cmpS ((l.map L).filter isVer)) ∧ ∀ x, x ∈ sorted cmpS ((l.map L).filter isVer) ↔ x ∈ (l.map L).filter isVer :=
  sorted_is cmpS_keyed ((l.map L).filter isVer) (fun a ha b hb h => cmpS_inj (List.mem_filter.1 ha).2 (List.mem_filter.1 hb).2 h)
theorem mem_ord (l : List ByteArray) (x : ByteArray) : x ∈ inOrd l ↔ x ∈ l ∧ isVer (L x) = true := by
  constructor
  · intro hx
    obtain ⟨y, hy, rfl⟩ := List.mem_map.1 hx
    obtain ⟨h1, h2⟩ := List.mem_filter.1 (((ord_is l).2 y).1 hy)
    obtain ⟨z, hz, rfl⟩ := List.mem_map.1 h1
    exact ⟨by rw [S_L]; exact hz, by rw [L_S]; exact h2⟩
  · rintro ⟨h1, h2⟩
    exact List.mem_map.2 ⟨L x, ((ord_is l).2 _).2 (List.mem_filter.2 ⟨List.mem_map.2 ⟨x, h1, rfl⟩, h2⟩), S_L x⟩
theorem ord_pw (l : List ByteArray) : (inOrd l).Pairwise fun x y => cmpS (L x) (L y) < 0 := by
  unfold inOrd
  rw [List.pairwise_map]
  refine (ord_is l).1.imp fun {a b} h => ?_
  rw [L_S, L_S]; exact h
theorem best_split (r : List S45) : ∀ (o : List ByteArray) (b : ByteArray), (bestIn r b o = b ∧ ∀ x ∈ o, ¬ inL (L x) r = true) ∨
    ∃ o1 p o2, o = o1 ++ p :: o2 ∧ bestIn r b o = p ∧ inL (L p) r = true ∧ ∀ x ∈ o2, ¬ inL (L x) r = true
  | [], b => .inl ⟨rfl, by simp⟩
  | x :: o, b => by
    show (bestIn r (if inL (L x) r = true then x else b) o = b ∧ _) ∨ ∃ o1 p o2, x :: o = o1 ++ p :: o2 ∧ bestIn r (if inL (L x) r = true then x else b) o = p ∧ _
    rcases best_split r o (if inL (L x) r = true then x else b) with ⟨h1, h2⟩ | ⟨o1, p, o2, h1, h2, h3, h4⟩
    · by_cases h : inL (L x) r = true
      · rw [if_pos h] at h1 ⊢
        exact .inr ⟨[], x, o, rfl, h1, h, h2⟩
      · rw [if_neg h] at h1 ⊢
        refine .inl ⟨h1, fun y hy => ?_⟩
        rcases List.mem_cons.1 hy with rfl | hy
        · exact h
        · exact h2 y hy
    · exact .inr ⟨x :: o1, p, o2, by rw [h1]; rfl, h2, h3, h4⟩
theorem best_top (r : List S45) (l : List ByteArray) (x : ByteArray) (hx : x ∈ l) (hv : isVer (L x) = true) (hi : inL (L x) r = true) :
    bestIn r ⟨#[]⟩ (inOrd l) ∈ inOrd l ∧ ¬ cmpS (L x) (L (bestIn r ⟨#[]⟩ (inOrd l))) > 0 := by
  have hm := (mem_ord l x).2 ⟨hx, hv⟩
  have hp := ord_pw l
  rcases best_split r (inOrd l) ⟨#[]⟩ with ⟨_, h2⟩ | ⟨o1, p, o2, h1, h2, h3, h4⟩
  · exact absurd hi (h2 x hm)
  · rw [h2]
    rw [h1] at hm hp ⊢
    refine ⟨by simp, ?_⟩
    rcases List.mem_append.1 hm with hm | hm
    · have := (List.pairwise_append.1 hp).2.2 x hm p (by simp)
      omega
    · rcases List.mem_cons.1 hm with rfl | hm
      · have := cmpS_keyed.self (L x)
        omega
      · exact absurd hi (h4 x hm)
theorem best_in (r : List S45) (l : List ByteArray) : bestIn r ⟨#[]⟩ (inOrd l) = ⟨#[]⟩ ∨ (bestIn r ⟨#[]⟩ (inOrd l) ∈ inOrd l ∧ inL (L (bestIn r ⟨#[]⟩ (inOrd l))) r = true) := by
  rcases best_split r (inOrd l) ⟨#[]⟩ with ⟨h1, _⟩ | ⟨o1, p, o2, h1, h2, h3, h4⟩
  · exact .inl h1
  · exact .inr ⟨by rw [h2, h1]; simp, by rw [h2]; exact h3⟩
theorem holes_fold (r : List S45) : ∀ (l : List ByteArray) (o w : List ByteArray) (b : Bool) (q : ByteArray → Prop), (∀ x ∈ o, q x ∧ ¬ inL (L x) r = true) → (∀ x ∈ w, q x ∧ ¬ inL (L x) r = true) → (∀ x ∈ l, q x) →
    ∀ x ∈ (l.foldl (hstep r) (o, w, b)).1, q x ∧ ¬ inL (L x) r = true
  | [], o, w, b, q, ho, hw, hl => ho
  | y :: l, o, w, b, q, ho, hw, hl => by
    have hy := hl y (by simp)
    have hl' : ∀ x ∈ l, q x := fun x hx => hl x (List.mem_cons_of_mem _ hx)
    rw [List.foldl_cons]
    by_cases h : inL (L y) r = true
    · rw [hstep_in h]
      exact holes_fold r l _ _ _ q (fun x hx => by
        rcases List.mem_append.1 hx with hx | hx
        · exact ho x hx
        · exact hw x hx) (by simp) hl'
    · cases b with
      | true =>
        rw [hstep_any h]
        exact holes_fold r l _ _ _ q ho (fun x hx => by
          rcases List.mem_append.1 hx with hx | hx
          · exact hw x hx
          · rw [List.mem_singleton.1 hx]; exact ⟨hy, h⟩) hl'
      | false => rw [hstep_no h]; exact holes_fold r l _ _ _ q ho hw hl'
theorem holes_mem (r : List S45) (l : List ByteArray) (x : ByteArray) (hx : x ∈ holesL r (inOrd l)) : x ∈ l ∧ ¬ inL (L x) r = true := by
  have := holes_fold r (inOrd l) [] [] false (fun x => x ∈ inOrd l) (by simp) (by simp) (fun x hx => hx) x hx
  exact ⟨((mem_ord l x).1 this.1).1, this.2⟩
theorem FnPick : laws_FnPick.Pure := by
  intro code hcode
  refine Ev.rounds (r := true) ?_
  unfold laws_FnPick.f
  refine ev_const (show laws_big.f code = some (decide ((code.length : Int) > 1048576)) from rfl) ?_
  by_cases hb : (code.length : Int) > 1048576
  · exact ev_pos (decide_eq_true hb) (Ev.now _)
  refine ev_neg (by rw [decide_eq_true_eq]; exact hb) ?_
  obtain ⟨l, r, e1, l1, l2, r1, r2⟩ := drawPick code (by omega)
  obtain ⟨m, s, e2, m1, m2, s1, s2⟩ := drawHoles code (by omega)
  have hs : ∀ x ∈ l, x.size ≤ 1048576 := fun x hx => by have := l2 x hx; omega
  have ht : ∀ x ∈ m, x.size ≤ 1048576 := fun x hx => by have := m2 x hx; omega
  have ep := impl_Pick_ev l (by omega) hs r (by omega) r2
  have eq := spec_Pick_ev l (by omega) hs r (by omega) r2
  have eh := impl_Holes_ev m (by omega) ht s (by omega) s2
  have ei := spec_Holes_ev m (by omega) ht s (by omega) s2
  have hpin := best_in r l
  have htop := best_top r l
  have hhm := holes_mem s m
  have hhl : (holesL s (inOrd m)).length ≤ 12 := by
    have h1 := holesL_len s (inOrd m) ([], [], false)
    have h2 := sorted_len ((m.map L).filter isVer)
    have h3 := List.length_filter_le isVer (m.map L)
    unfold holesL
    have h4 : (inOrd m).length = (sorted cmpS ((m.map L).filter isVer)).length := List.length_map ..
    rw [List.length_map] at h3
    simp only [List.length_nil] at h1
    omega
  change Ev (fun k => impl_Pick.f k l r) (bestIn r ⟨#[]⟩ (inOrd l)) at ep
  change Ev (fun k => spec_Pick.f k l r) (bestIn r ⟨#[]⟩ (inOrd l)) at eq
  change Ev (fun k => impl_Holes.f k m s) (holesL s (inOrd m)) at eh
  change Ev (fun k => spec_Holes.f k m s) (holesL s (inOrd m)) at ei
  generalize bestIn r ⟨#[]⟩ (inOrd l) = p at ep eq hpin htop
  generalize holesL s (inOrd m) = h at eh ei hhm hhl
  have hps : p.size ≤ 1048576 := by
    rcases hpin with e | ⟨e, _⟩
    · rw [e]; decide
    · exact hs p ((mem_ord l p).1 e).1
  have hl1 : ∀ d i : Nat, i + d = h.length → Ev (fun k => laws_FnPick.l1 k m s h (i : Int)) true := by
    intro d
    induction d with
    | zero => intro i hi; exact Ev.step (f := fun _ => some true) (fun k => by rw [laws_FnPick.l1, if_neg (by omega)]) (Ev.now _)
    | succ d ih =>
      intro i hi
      have hm := getD_mem h i ByteArray.empty (by omega)
      obtain ⟨g1, g2⟩ := hhm _ hm
      have es : rdOf ByteArray.empty h (i : Int) = h.getD i ByteArray.empty := rfl
      refine Ev.step (fun k => by rw [laws_FnPick.l1, if_pos (by omega), if_pos (by omega), es, wa1 i (by omega)]) ?_
      exact Ev.bind (impl_In_ev _ s (ht _ g1) (by omega) s2) (ev_neg g2 (Ev.bind (has_in m _ (by omega) g1) (ev_pos rfl (ih (i + 1) (by omega)))))
  have hgp := ver_good (L p)
  have hl0 : ∀ d i : Nat, i + d = l.length → Ev (fun k => laws_FnPick.l0 k l r p m s h (i : Int) (readVer (L p)).1 (readVer (L p)).2.1 (readVer (L p)).2.2.1 (readVer (L p)).2.2.2.1) true := by
    intro d
    induction d with
    | zero => intro i hi; exact Ev.step (fun k => by rw [laws_FnPick.l0, if_neg (by omega)]; rfl) (hl1 h.length 0 (by omega))
    | succ d ih =>
      intro i hi
      have hm := getD_mem l i ByteArray.empty (by omega)
      have es : rdOf ByteArray.empty l (i : Int) = l.getD i ByteArray.empty := rfl
      refine Ev.step (fun k => by rw [laws_FnPick.l0, if_pos (by omega), if_pos (by omega), es, wa1 i (by omega)]) ?_
      refine Ev.bind (impl_ReadVersion_ev _ (hs _ hm)) ?_
      by_cases hv : (readVer (L (l.getD i ByteArray.empty))).2.2.2.2 = true
      · refine ev_pos hv (Ev.bind (impl_In_ev _ r (hs _ hm) (by omega) r2) ?_)
        by_cases hi2 : inL (L (l.getD i ByteArray.empty)) r = true
        · obtain ⟨t1, t2⟩ := htop _ hm hv hi2
          have hpv : isVer (L p) = true := ((mem_ord l p).1 t1).2
          have hne : ¬ p.toList = ([] : List UInt8) := fun e => by rw [toList_L] at e; rw [e, isVer_nil] at hpv; cases hpv
          have g1 := ver_good (L (l.getD i ByteArray.empty))
          refine ev_pos hi2 (ev_neg hne (Ev.bind (impl_CompareVersion_ev _ _ _ _ _ _ _ _ (by omega) g1.2 hgp.2) (ev_neg t2 (ih (i + 1) (by omega)))))
        · exact ev_neg hi2 (ih (i + 1) (by omega))
      · exact ev_neg hv (ih (i + 1) (by omega))
  have hj : Ev (fun k => laws_FnPick.j0 k l r p m s h false) true := Ev.step (fun k => by rw [laws_FnPick.j0, if_neg (by decide)]) (Ev.bind (impl_ReadVersion_ev p hps) (hl0 l.length 0 (by omega)))
  refine Ev.bind e1 (Ev.bind ep (Ev.bind e2 (Ev.bind eh (Ev.bind eq (ev_pos rfl (Ev.bind ei (Ev.bind (sameTexts_ok h (by omega)) (ev_pos rfl ?_))))))))
  by_cases hn : p.toList = ([] : List UInt8)
  · exact ev_pos hn hj
  · rcases hpin with e | ⟨g1, g2⟩
    · exact absurd (by rw [e, toList_L]; rfl) hn
    · exact ev_neg hn (Ev.bind (impl_In_ev p r hps (by omega) r2) (ev_pos g2 (Ev.bind (has_in l p (by omega) ((mem_ord l p).1 g1).1) hj)))
end Go.Proofs.YtoidompkofomjaaGreatDoor.Pure

end
section
namespace Go.Proofs.YtoidompkofomjaaGreatDoor.fnPick
open Go.ChangeShapes Go.WideShapes Go.ChangeAt Go.RowKit Go.Proofs.YtoidompkofomjaaGreatDoor Go.Proofs.YtoidompkofomjaaGreatDoor.G Go.Proofs.YtoidompkofomjaaGreatDoorW.PrintWords
open Go.ChangeMaps (open_string shut_string)
set_option linter.unusedVariables false
set_option linter.unusedSimpArgs false
theorem own : ownKnob Tryz.prog.godebug = none := by kernel_rfl
theorem laidOut : laidOutB Tryz.prog = true := by kernel_rfl
set_option maxRecDepth 100000 in
theorem contract (H : Type) (enc : TypeId × Value → H) (W : World) (base : Nat) (args : Array Value) (ds gs : List (DataW H)) (before : List MemPlace)
    (hval : ∀ (j : Nat) t v, Tryz.f3.params[j]? = some t → args[j]? = some v → Value.okWide Tryz.prog W .any base t v)
    (hW : DataW.Whole enc Tryz.prog Tryz.f3.params.toList Rows.fnPickSpec.vars false W args.toList ds gs before) (hFE : Glob FactE W) (hFM : Glob FactM W) (hFT : Glob FactT W) :
    Calls Tryz.prog 3 args W fun e W' => ∃ v, e = .returned v ∧ Rows.fnPickSpec.post enc Tryz.prog Tryz.f3 false true false false W args v W' := by
  have hW' := hW
  obtain ⟨p, q, hA0, hV, rfl, hfz, hnd⟩ := hW
  have hA : DataW.TrodAll enc Tryz.prog W 0 (fun _ => true) true Tryz.f3.params.toList args.toList ds p := hA0
  rw [Tryz.params3] at hA hval
  obtain ⟨v0, vs0, d0, ds0, p0, q0, hargs, rfl, rfl, h0, r0⟩ := trodAll_cons hA
  obtain ⟨rfl, rfl, rfl⟩ := trodAll_nil r0
  obtain rfl : args = #[v0] := by cases args; simp_all
  obtain ⟨rfl, rfl⟩ := trodVars_none hV
  obtain ⟨A0, len0, c0, rfl⟩ := okWide_slice Tryz.underlying22 (hval 0 22 v0 rfl rfl)
  have k0 := h0
  have lt0 : ∀ x ∈ p0, x.block < W.heap.size := by obtain ⟨m, hm⟩ := k0; exact DataW.trod_lt m _ _ _ hm
  obtain ⟨l0, rfl, hc0, hr0, z0⟩ := Op.arg_slice (Op.opens_slice (by kernel_rfl) Tryz.underlying22 (Op.opens_int (by kernel_rfl) Tryz.underlying5)) h0
  clear hA0
  obtain ⟨k, h⟩ := Pure.FnPick l0 z0
  refine (laws_FnPick.calls k A0 c0 l0 true W hr0 hc0 hFE hFM hFT rfl h).mono fun e W' ⟨he, bel0⟩ => ?_
  have bel : Below W.heap.size W W' := bel0
  subst he
  exact ⟨_, rfl, _, _, _, [], _, [], hW', trodAll_mk1 (shut_bool Tryz.underlying4 _), (trodAll_cons_mk (Below.trod laidOut (by kernel_rfl) (of_decide_eq_true (by kernel_rfl)) k0 bel lt0) trodAll_mk0), rfl, bel.frame _, fun h => by cases h⟩
theorem laid_met (os : Os) : laidMet Tryz.prog Rows.fnPickRow.laid ((Laid.world os).forCall (fun _ _ => 0) ⟨#[], #[.slice none 0 0], []⟩).memory :=
  laidMet_of_run' Laid.fuel (by kernel_rfl) (by kernel_rfl)
theorem reads (os : Os) {H : Type} (enc : TypeId × Value → H) : ∃ places, DataW.whole enc Tryz.prog ((Laid.world os).forCall (fun _ _ => 0) ⟨#[], #[.slice none 0 0], []⟩).memory Tryz.f3.params.toList Rows.fnPickSpec.vars false (#[.slice none 0 0] : Array Value).toList 8 = some ([.nil], [], places) :=
  ⟨[], by kernel_rfl⟩
set_option maxRecDepth 100000 in
theorem lifted (os : Os) (started : os.Started) (H : Type) (enc : TypeId × Value → H) (F : Stop.Interp) :
    ReturnsInHanded {} Tryz.checked os 3 .any ((OpenSpec.ofChange Rows.fnPickSpec).preRow enc Tryz.prog Tryz.f3 Rows.fnPickRow.domain false Rows.fnPickRow.laid) (((OpenSpec.ofChange Rows.fnPickSpec).at F).post enc Tryz.prog Tryz.f3 false true false false) := by
  obtain ⟨places, hx⟩ := reads os enc
  refine returnsInHanded_of_row (C := Tryz.checked) (s := OpenSpec.ofChange Rows.fnPickSpec) own started (by kernel_rfl) Tryz.func3
    (witness_row_atRef (enc := enc) (C := Tryz.checked) false (Laid.world os) #[.slice none 0 0] rfl (Laid.vars os _) (Laid.heap os _) (by kernel_rfl)
      (OpenSpec.preRow_of_cond 8 hx (by kernel_rfl) (fun k hk => by cases hk) (by kernel_rfl) (laid_met os))) ?_
  intro W base args ds gs before hval hW _ _ _ hL hS _
  exact contract H enc W base args ds gs before hval hW (FactE_of hS hL (fun h => h) (by repeat (first | exact List.Mem.head _ | apply List.Mem.tail)) (by repeat (first | exact List.Mem.head _ | apply List.Mem.tail))) (FactM_of hS hL) (FactT_of hS hL (fun h => h) (by repeat (first | exact List.Mem.head _ | apply List.Mem.tail)))
theorem j10 : (Rows.fnPickRow.inPlace == Tryz.prog.inPlace 3) = true := by kernel_rfl
theorem j11 : (Rows.fnPickRow.unfollowed == Tryz.prog.unfollowed 3) = true := by kernel_rfl
theorem j12 : (Rows.fnPickRow.recurses == Tryz.prog.recurses 3) = true := by kernel_rfl
theorem j13 : (Rows.fnPickRow.named == Tryz.prog.varsNamed 3) = true := by kernel_rfl
set_option maxRecDepth 100000 in
theorem closed : joinedFacts Tryz.prog 3 Tryz.f3 (OpenSpec.ofChange Rows.fnPickSpec).bare Rows.fnPickRow = true :=
  (Facts.and_mk (Facts.and_mk (Facts.and_mk (Facts.and_mk (Facts.and_mk (Facts.and_mk (Facts.and_mk (Facts.and_mk (Facts.and_mk (Facts.and_mk (Facts.and_mk (Facts.and_mk (Facts.and_mk (Facts.and_mk (Facts.and_mk (Facts.and_mk (Facts.and_mk (Facts.and_mk (Facts.and_mk (Facts.and_mk (Facts.and_mk (Facts.and_mk (Facts.and_mk (Facts.and_mk (Facts.and_mk (Facts.and_mk (Facts.and_mk (Facts.and_mk (Facts.and_mk (Facts.and_mk (Facts.and_mk (by kernel_rfl) Facts.laidOut) Facts.mapsRowed) (by kernel_rfl)) (by kernel_rfl)) (by kernel_rfl)) (by kernel_rfl)) (by kernel_rfl)) (by kernel_rfl)) j10) j11) j12) j13) (by kernel_rfl)) (by kernel_rfl)) (by kernel_rfl)) (by kernel_rfl)) (by kernel_rfl)) (by kernel_rfl)) (by kernel_rfl)) (by kernel_rfl)) (by kernel_rfl)) (Facts.plainKeys _ rfl)) (by kernel_rfl)) Facts.heard) Facts.mayEnter) (Facts.lifts _ rfl)) (Facts.make _ rfl)) (by kernel_rfl)) (by kernel_rfl)) (by kernel_rfl)) (by kernel_rfl))
theorem goes : false = Rows.fnPickRow.goesBy Tryz.prog := by kernel_rfl
theorem said : Rows.FnPickSaid :=
  OpenClaim.holds_of_cond 3 Tryz.f3 rfl rfl rfl rfl rfl rfl rfl ⟨rfl, rfl, rfl, rfl, rfl⟩ rfl rfl rfl rfl rfl (by kernel_rfl) Tryz.func3 closed
    (of_decide_eq_true (by kernel_rfl)) (by unfold Func.isWrapper; first | (rw [if_pos (by decide +kernel)]; kernel_rfl) | (rw [if_neg (by decide +kernel)]; exact ⟨rfl, rfl⟩))
    (fun os started H enc _ F => by rw [OpenClaim.pre_eq_preRow]; exact lifted os started H enc F)
theorem plain (f : FuncId) (fn : Func) (hf : Tryz.pinned.checked.prog.funcNamed "loop.example/g00445/laws.FnPick" = some f) (hfn : Tryz.pinned.checked.prog.funcs[f]? = some fn) :
    true = Tryz.pinned.checked.prog.looks [] ∧ ∀ (j : Nat) t, fn.params[j]? = some t → Tryz.pinned.checked.prog.wantsStandIn t = false := by
  obtain rfl : f = 3 := Option.some.inj ((show Tryz.prog.funcNamed "loop.example/g00445/laws.FnPick" = some 3 by kernel_rfl).symm.trans hf) |>.symm
  obtain rfl : fn = Tryz.f3 := (Option.some.inj (Tryz.func3.symm.trans hfn)).symm
  refine ⟨Facts.looks, fun j t ht => ?_⟩
  rw [Tryz.params3] at ht
  have hm := Array.mem_of_getElem? ht
  have hall : (#[22] : Array TypeId).all (fun t => Tryz.prog.wantsStandIn t == false) = true := by kernel_rfl
  show Tryz.prog.wantsStandIn t = false
  have h1 := Array.all_eq_true'.1 hall t hm
  exact beq_iff_eq.1 h1
theorem proved : Rows.FnPickCardSaid :=
  Claim7.holds_tied_plain_at .later [] _ _ _ _ said (fun _ h => by cases h) (by kernel_rfl) (fun _ h => by cases h) fnPick_row_tie rfl ⟨rfl, rfl⟩ Facts.main rfl plain goes
end Go.Proofs.YtoidompkofomjaaGreatDoor.fnPick
namespace Go.Proofs.YtoidompkofomjaaGreatDoor
theorem fnPick_holds : Rows.FnPickCardSaid := fnPick.proved
end Go.Proofs.YtoidompkofomjaaGreatDoor

end
