/- A part of the proof that the law FnSort answers true at every input that its row speaks of. Conditions: the row's own. -/
import Derived.Test.YtcfeihimmboghaaGreatDoorMFnSort17
import Derived.Test.YtcfeihimmboghaaGreatDoorMFnSort2
import Derived.Test.YtcfeihimmboghaaGreatDoorRows
import Derived.Test.YtcfeihimmboghaaGreatDoorMFnSort16
import Derived.Test.YtcfeihimmboghaaGreatDoorOp
import Derived.Test.YtcfeihimmboghaaGreatDoorCards
import Derived.Test.YtcfeihimmboghaaGreatDoorTie
import Derived.Test.YtcfeihimmboghaaGreatDoorLaid
import Derived.Test.YtcfeihimmboghaaGreatDoorFacts
import Derived.WalkKit
import Derived.ProofKit
import Derived.OpenShut
import Derived.ShutString
import Derived.ChangeOld
import Derived.Below
import Derived.SizedLaws
import Derived.Carry
import Derived.Deep.DeepHandedRow
import Derived.Deep.DeepWitnessRowRef
section
namespace Go.Proofs.YtcfeihimmboghaaGreatDoor.Pure
open Go Go.RowKit Go.Proofs.YtcfeihimmboghaaGreatDoorW.PrintWords Go.Proofs.YtcfeihimmboghaaGreatDoor.G Go.Proofs.YtcfeihimmboghaaGreatDoor.U
set_option linter.unusedVariables false
set_option linter.unusedSimpArgs false
theorem drawSort (l : List Int) (hl : l.length ≤ 1048576) : ∃ t, Ev (fun k => spec_DrawSortVersions.f k l) t ∧ t.length ≤ 6 ∧ ∀ x ∈ t, x.size ≤ 3000 := by
  obtain ⟨h, e⟩ := new_any l hl
  obtain ⟨t, i', h', e2, z1, z2, _⟩ := list_any l 0 h (by omega) (by omega) (by omega)
  exact ⟨t, by unfold spec_DrawSortVersions.f; exact Ev.bind e (Ev.bind e2 (Ev.now _)), z1, z2⟩
theorem drawNewest (l : List Int) (hl : l.length ≤ 1048576) : ∃ t, Ev (fun k => spec_DrawNewest.f k l) t ∧ t.length ≤ 6 ∧ ∀ x ∈ t, x.size ≤ 3000 := by
  obtain ⟨h, e⟩ := new_any l hl
  obtain ⟨t, i', h', e2, z1, z2, _⟩ := list_any l 0 h (by omega) (by omega) (by omega)
  exact ⟨t, by unfold spec_DrawNewest.f; exact Ev.bind e (Ev.bind e2 (Ev.now _)), z1, z2⟩
theorem best_mem : ∀ (l : List ByteArray) (b : ByteArray), best b l = b ∨ best b l ∈ l
  | [], b => .inl rfl
  | x :: l, b => by
    show best (if nodash x = true then x else b) l = b ∨ best (if nodash x = true then x else b) l ∈ x :: l
    by_cases h : nodash x = true
    · rw [if_pos h]
      rcases best_mem l x with h1 | h1
      · rw [h1]; exact .inr (by simp)
      · exact .inr (List.mem_cons_of_mem _ h1)
    · rw [if_neg h]
      rcases best_mem l b with h1 | h1
      · exact .inl h1
      · exact .inr (List.mem_cons_of_mem _ h1)
theorem newest_mem (l : List ByteArray) : newest l = ⟨#[]⟩ ∨ newest l ∈ l := by
  unfold newest
  by_cases h : (best ⟨#[]⟩ l).toList = []
  · rw [if_pos h]
    by_cases h0 : l.length = 0
    · rw [if_pos h0]; exact .inl rfl
    · rw [if_neg h0]; exact .inr (getD_mem l _ _ (by omega))
  · rw [if_neg h]; exact best_mem l ⟨#[]⟩
abbrev inOrd (l : List ByteArray) : List ByteArray := (sorted cmpS ((l.map L).filter isVer)).map S
theorem ord_is (l : List ByteArray) : Strict cmpS (sorted cmpS ((l.map L).filter isVer)) ∧ ∀ x, x ∈ sorted cmpS ((l.map L).filter isVer) ↔ x ∈ (l.map L).filter isVer :=
  sorted_is cmpS_keyed ((l.map L).filter isVer) (fun a ha b hb h => cmpS_inj (List.mem_filter.1 ha).2 (List.mem_filter.1 hb).2 h)
theorem mem_ord (l : List ByteArray) (x : ByteArray) : x ∈ inOrd l ↔ x ∈ l ∧ isVer (L x) = true := by
  constructor
  · intro hx
    obtain ⟨y, hy, rfl⟩ := List.mem_map.1 hx
    obtain ⟨h1, h2⟩ := List.mem_filter.1 (((ord_is l).2 y).1 hy)
    obtain ⟨z, hz, rfl⟩ := List.mem_map.1 h1
    exact ⟨by rw [S_L]; exact hz, by rw [L_S]; exact h2⟩
  · rintro ⟨h1, h2⟩
    exact List.mem_map.2 ⟨L x, ((ord_is l).2 _).2 (List.mem_filter.2 ⟨List.mem_map.2 ⟨x, h1, rfl⟩, h2⟩), S_L x⟩
theorem ord_lt (l : List ByteArray) (i : Nat) (hi : i + 1 < (inOrd l).length) : cmpS (L ((inOrd l).getD i ByteArray.empty)) (L ((inOrd l).getD (i + 1) ByteArray.empty)) < 0 := by
  have hs := (ord_is l).1
  unfold inOrd at hi ⊢
  generalize sorted cmpS ((l.map L).filter isVer) = o at hs hi
  rw [List.length_map] at hi
  have e : ∀ j, j < o.length → L ((o.map S).getD j ByteArray.empty) = o.getD j [] := fun j hj => by
    rw [List.getD_eq_getElem?_getD, List.getElem?_map, List.getElem?_eq_getElem hj, List.getD_eq_getElem?_getD, List.getElem?_eq_getElem hj]
    exact L_S _
  rw [e i (by omega), e (i + 1) hi, List.getD_eq_getElem?_getD, List.getElem?_eq_getElem (by omega), List.getD_eq_getElem?_getD, List.getElem?_eq_getElem hi]
  exact List.pairwise_iff_getElem.1 hs i (i + 1) (by omega) hi (by omega)
theorem ord_again (l : List ByteArray) : inOrd (inOrd l) = inOrd l := by
  unfold inOrd
  have h1 := ord_is l
  have e : ∀ o : List B, (o.map S).map L = o := fun o => by
    induction o with
    | nil => rfl
    | cons x o ih => rw [List.map_cons, List.map_cons, ih, L_S]
  rw [e]
  have h2 : ∀ x ∈ (sorted cmpS ((l.map L).filter isVer)).filter isVer, isVer x = true := fun x hx => (List.mem_filter.1 hx).2
  have h3 := sorted_is cmpS_keyed ((sorted cmpS ((l.map L).filter isVer)).filter isVer) (fun a ha b hb h => cmpS_inj (h2 a ha) (h2 b hb) h)
  congr 1
  refine strict_uniq cmpS_keyed _ _ h3.1 h1.1 fun x => ?_
  rw [h3.2 x, List.mem_filter]
  constructor
  · exact fun h => h.1
  · intro h
    exact ⟨h, (List.mem_filter.1 ((h1.2 x).1 h)).2⟩
theorem FnSort : laws_FnSort.Pure := by
  intro code hcode
  refine Ev.rounds (r := true) ?_
  unfold laws_FnSort.f
  refine ev_const (show laws_big.f code = some (decide ((code.length : Int) > 1048576)) from rfl) ?_
  by_cases hb : (code.length : Int) > 1048576
  · exact ev_pos (decide_eq_true hb) (Ev.now _)
  refine ev_neg (by rw [decide_eq_true_eq]; exact hb) ?_
  obtain ⟨l, e1, l1, l2⟩ := drawSort code (by omega)
  obtain ⟨m, e2, m1, m2⟩ := drawNewest code (by omega)
  have hs : ∀ x ∈ l, x.size ≤ 1048576 := fun x hx => by have := l2 x hx; omega
  have ht : ∀ x ∈ m, x.size ≤ 1048576 := fun x hx => by have := m2 x hx; omega
  have him : ∀ q : List ByteArray, q.length ≤ 1048576 → (∀ x ∈ q, x.size ≤ 1048576) → impl_SortVersions.f q = some (inOrd q) := fun q h1 h2 => by unfold impl_SortVersions.f; rw [if_pos ⟨h1, h2⟩]
  have hg := sorted_small l (by omega)
  have hgl : (inOrd l).length ≤ 6 := by
    have h1 := sorted_len ((l.map L).filter isVer)
    have h2 := List.length_filter_le isVer (l.map L)
    unfold inOrd
    rw [List.length_map] at h2 ⊢; omega
  have hgs : ∀ x ∈ inOrd l, x.size ≤ 1048576 := fun x hx => hs x ((mem_ord l x).1 hx).1
  have esame := sameTexts_ok (inOrd l) (by omega)
  have hl1 : ∀ d i : Nat, i + d = l.length → Ev (fun k => laws_FnSort.l1 k l (inOrd l) (i : Int)) true := by
    intro d
    induction d with
    | zero =>
      intro i hi
      refine Ev.step (fun k => by rw [laws_FnSort.l1, if_neg (by omega)]) ?_
      refine ev_const (him _ (by omega) hgs) ?_
      rw [ord_again]
      exact Ev.bind esame (Ev.now _)
    | succ d ih =>
      intro i hi
      have hlt : i < l.length := by omega
      have hm := getD_mem l i ByteArray.empty hlt
      have es : rdOf ByteArray.empty l (i : Int) = l.getD i ByteArray.empty := rfl
      refine Ev.step (fun k => by rw [laws_FnSort.l1, if_pos (by omega), if_pos (by omega), es, wa1 i (by omega)]) ?_
      refine Ev.bind (impl_ReadVersion_ev _ (hs _ hm)) ?_
      by_cases hv : isVer (L (l.getD i ByteArray.empty)) = true
      · refine Ev.bind (has_in _ _ (by omega) ((mem_ord l _).2 ⟨hm, hv⟩)) (ev_neg ?_ (ih (i + 1) (by omega)))
        show ¬ (isVer (L (l.getD i ByteArray.empty)) != true) = true
        rw [hv]; decide
      · refine Ev.bind (has_not _ _ (by omega) (fun h => hv ((mem_ord l _).1 h).2)) (ev_neg ?_ (ih (i + 1) (by omega)))
        show ¬ (isVer (L (l.getD i ByteArray.empty)) != false) = true
        rw [Bool.not_eq_true] at hv
        rw [hv]; decide
  have hl0 : ∀ d i : Nat, i + d = (inOrd l).length → Ev (fun k => laws_FnSort.l0 k l (inOrd l) (i : Int)) true := by
    intro d
    induction d with
    | zero =>
      intro i hi
      exact Ev.step (fun k => by rw [laws_FnSort.l0, if_neg (by omega)]; rfl) (hl1 l.length 0 (by omega))
    | succ d ih =>
      intro i hi
      have hlt : i < (inOrd l).length := by omega
      have hm := getD_mem (inOrd l) i ByteArray.empty hlt
      obtain ⟨hm1, hv⟩ := (mem_ord l _).1 hm
      have es : rdOf ByteArray.empty (inOrd l) (i : Int) = (inOrd l).getD i ByteArray.empty := rfl
      refine Ev.step (fun k => by rw [laws_FnSort.l0, if_pos (by omega), if_pos (by omega), es]) ?_
      refine Ev.bind (impl_ReadVersion_ev _ (hgs _ hm)) (ev_pos hv (Ev.bind (has_in _ _ (by omega) hm1) ?_))
      have hnext := ih (i + 1) (by omega)
      by_cases h0 : (i : Int) > 0
      · obtain ⟨j, rfl⟩ : ∃ j, i = j + 1 := ⟨i - 1, by omega⟩
        have hj : j < (inOrd l).length := by omega
        have hmj := getD_mem (inOrd l) j ByteArray.empty hj
        have ej : wrap64 (((j + 1 : Nat) : Int) - 1) = (j : Int) := by rw [w64 (by omega) (by omega)]; omega
        have esj : rdOf ByteArray.empty (inOrd l) (j : Int) = (inOrd l).getD j ByteArray.empty := rfl
        refine Ev.step (fun k => by rw [laws_FnSort.j2, if_neg (by decide), if_pos h0, ej, if_pos (by omega), if_pos (by omega), esj, wa1 (j + 1) (by omega)]) ?_
        have g1 := ver_good (L ((inOrd l).getD j ByteArray.empty))
        have g2 := ver_good (L ((inOrd l).getD (j + 1) ByteArray.empty))
        refine Ev.bind (impl_ReadVersion_ev _ (hgs _ hmj)) (Ev.bind (impl_CompareVersion_ev _ _ _ _ _ _ _ _ (by omega) g1.2 g2.2) (ev_neg ?_ hnext))
        have := ord_lt l j (by omega)
        unfold cmpS at this
        omega
      · exact Ev.step (fun k => by rw [laws_FnSort.j2, if_neg (by decide), if_neg h0, wa1 i (by omega)]) hnext
  have hj : Ev (fun k => laws_FnSort.j0 k l (inOrd l) false) true := Ev.step (fun k => by rw [laws_FnSort.j0, if_neg (by decide)]; rfl) (hl0 (inOrd l).length 0 (by omega))
  refine Ev.bind e1 (ev_const (him l (by omega) hs) (Ev.bind e2 (Ev.bind (impl_Newest_ev m (by omega) ht) (Ev.bind (spec_SortVersions_ev l (by omega) hs) (Ev.bind esame (ev_pos rfl (Ev.bind (spec_Newest_ev m (by omega) ht) (ev_pos rfl ?_))))))))
  by_cases hn : (newest (inOrd m)).toList = ([] : List UInt8)
  · exact ev_pos hn hj
  · have hmm : newest (inOrd m) ∈ m := by
      rcases newest_mem (inOrd m) with h | h
      · exact absurd (by rw [h, toList_L]; rfl) hn
      · exact ((mem_ord m _).1 h).1
    exact ev_neg hn (Ev.bind (has_in m _ (by omega) hmm) hj)
end Go.Proofs.YtcfeihimmboghaaGreatDoor.Pure

end
section
namespace Go.Proofs.YtcfeihimmboghaaGreatDoor.fnSort
open Go.ChangeShapes Go.WideShapes Go.ChangeAt Go.RowKit Go.Proofs.YtcfeihimmboghaaGreatDoor Go.Proofs.YtcfeihimmboghaaGreatDoor.G Go.Proofs.YtcfeihimmboghaaGreatDoorW.PrintWords
open Go.ChangeMaps (open_string shut_string)
set_option linter.unusedVariables false
set_option linter.unusedSimpArgs false
theorem own : ownKnob Tryz.prog.godebug = none := by kernel_rfl
theorem laidOut : laidOutB Tryz.prog = true := by kernel_rfl
set_option maxRecDepth 100000 in
theorem contract (H : Type) (enc : TypeId × Value → H) (W : World) (base : Nat) (args : Array Value) (ds gs : List (DataW H)) (before : List MemPlace)
    (hval : ∀ (j : Nat) t v, Tryz.f7.params[j]? = some t → args[j]? = some v → Value.okWide Tryz.prog W .any base t v)
    (hW : DataW.Whole enc Tryz.prog Tryz.f7.params.toList Rows.fnSortSpec.vars false W args.toList ds gs before) (hFE : Glob FactE W) (hFM : Glob FactM W) (hFT : Glob FactT W) :
    Calls Tryz.prog 7 args W fun e W' => ∃ v, e = .returned v ∧ Rows.fnSortSpec.post enc Tryz.prog Tryz.f7 false true false false W args v W' := by
  have hW' := hW
  obtain ⟨p, q, hA0, hV, rfl, hfz, hnd⟩ := hW
  have hA : DataW.TrodAll enc Tryz.prog W 0 (fun _ => true) true Tryz.f7.params.toList args.toList ds p := hA0
  rw [Tryz.params7] at hA hval
  obtain ⟨v0, vs0, d0, ds0, p0, q0, hargs, rfl, rfl, h0, r0⟩ := trodAll_cons hA
  obtain ⟨rfl, rfl, rfl⟩ := trodAll_nil r0
  obtain rfl : args = #[v0] := by cases args; simp_all
  obtain ⟨rfl, rfl⟩ := trodVars_none hV
  obtain ⟨A0, len0, c0, rfl⟩ := okWide_slice Tryz.underlying22 (hval 0 22 v0 rfl rfl)
  have k0 := h0
  have lt0 : ∀ x ∈ p0, x.block < W.heap.size := by obtain ⟨m, hm⟩ := k0; exact DataW.trod_lt m _ _ _ hm
  obtain ⟨l0, rfl, hc0, hr0, z0⟩ := Op.arg_slice (Op.opens_slice (by kernel_rfl) Tryz.underlying22 (Op.opens_int (by kernel_rfl) Tryz.underlying5)) h0
  clear hA0
  obtain ⟨k, h⟩ := Pure.FnSort l0 z0
  refine (laws_FnSort.calls k A0 c0 l0 true W hr0 hc0 hFE hFM hFT rfl h).mono fun e W' ⟨he, bel0⟩ => ?_
  have bel : Below W.heap.size W W' := bel0
  subst he
  exact ⟨_, rfl, _, _, _, [], _, [], hW', trodAll_mk1 (shut_bool Tryz.underlying4 _), (trodAll_cons_mk (Below.trod laidOut (by kernel_rfl) (of_decide_eq_true (by kernel_rfl)) k0 bel lt0) trodAll_mk0), rfl, bel.frame _, fun h => by cases h⟩
theorem laid_met (os : Os) : laidMet Tryz.prog Rows.fnSortRow.laid ((Laid.world os).forCall (fun _ _ => 0) ⟨#[], #[.slice none 0 0], []⟩).memory :=
  laidMet_of_run' Laid.fuel (by kernel_rfl) (by kernel_rfl)
theorem reads (os : Os) {H : Type} (enc : TypeId × Value → H) : ∃ places, DataW.whole enc Tryz.prog ((Laid.world os).forCall (fun _ _ => 0) ⟨#[], #[.slice none 0 0], []⟩).memory Tryz.f7.params.toList Rows.fnSortSpec.vars false (#[.slice none 0 0] : Array Value).toList 8 = some ([.nil], [], places) :=
  ⟨[], by kernel_rfl⟩
set_option maxRecDepth 100000 in
theorem lifted (os : Os) (started : os.Started) (H : Type) (enc : TypeId × Value → H) (F : Stop.Interp) :
    ReturnsInHanded {} Tryz.checked os 7 .any ((OpenSpec.ofChange Rows.fnSortSpec).preRow enc Tryz.prog Tryz.f7 Rows.fnSortRow.domain false Rows.fnSortRow.laid) (((OpenSpec.ofChange Rows.fnSortSpec).at F).post enc Tryz.prog Tryz.f7 false true false false) := by
  obtain ⟨places, hx⟩ := reads os enc
  refine returnsInHanded_of_row (C := Tryz.checked) (s := OpenSpec.ofChange Rows.fnSortSpec) own started (by kernel_rfl) Tryz.func7
    (witness_row_atRef (enc := enc) (C := Tryz.checked) false (Laid.world os) #[.slice none 0 0] rfl (Laid.vars os _) (Laid.heap os _) (by kernel_rfl)
      (OpenSpec.preRow_of_cond 8 hx (by kernel_rfl) (fun k hk => by cases hk) (by kernel_rfl) (laid_met os))) ?_
  intro W base args ds gs before hval hW _ _ _ hL hS _
  exact contract H enc W base args ds gs before hval hW (FactE_of hS hL (fun h => h) (by repeat (first | exact List.Mem.head _ | apply List.Mem.tail)) (by repeat (first | exact List.Mem.head _ | apply List.Mem.tail))) (FactM_of hS hL) (FactT_of hS hL (fun h => h) (by repeat (first | exact List.Mem.head _ | apply List.Mem.tail)))
theorem j10 : (Rows.fnSortRow.inPlace == Tryz.prog.inPlace 7) = true := by kernel_rfl
theorem j11 : (Rows.fnSortRow.unfollowed == Tryz.prog.unfollowed 7) = true := by kernel_rfl
theorem j12 : (Rows.fnSortRow.recurses == Tryz.prog.recurses 7) = true := by kernel_rfl
theorem j13 : (Rows.fnSortRow.named == Tryz.prog.varsNamed 7) = true := by kernel_rfl
set_option maxRecDepth 100000 in
theorem closed : joinedFacts Tryz.prog 7 Tryz.f7 (OpenSpec.ofChange Rows.fnSortSpec).bare Rows.fnSortRow = true :=
  (Facts.and_mk (Facts.and_mk (Facts.and_mk (Facts.and_mk (Facts.and_mk (Facts.and_mk (Facts.and_mk (Facts.and_mk (Facts.and_mk (Facts.and_mk (Facts.and_mk (Facts.and_mk (Facts.and_mk (Facts.and_mk (Facts.and_mk (Facts.and_mk (Facts.and_mk (Facts.and_mk (Facts.and_mk (Facts.and_mk (Facts.and_mk (Facts.and_mk (Facts.and_mk (Facts.and_mk (Facts.and_mk (Facts.and_mk (Facts.and_mk (Facts.and_mk (Facts.and_mk (Facts.and_mk (Facts.and_mk (by kernel_rfl) Facts.laidOut) Facts.mapsRowed) (by kernel_rfl)) (by kernel_rfl)) (by kernel_rfl)) (by kernel_rfl)) (by kernel_rfl)) (by kernel_rfl)) j10) j11) j12) j13) (by kernel_rfl)) (by kernel_rfl)) (by kernel_rfl)) (by kernel_rfl)) (by kernel_rfl)) (by kernel_rfl)) (by kernel_rfl)) (by kernel_rfl)) (by kernel_rfl)) (Facts.plainKeys _ rfl)) (by kernel_rfl)) Facts.heard) Facts.mayEnter) (Facts.lifts _ rfl)) (Facts.make _ rfl)) (by kernel_rfl)) (by kernel_rfl)) (by kernel_rfl)) (by kernel_rfl))
theorem goes : false = Rows.fnSortRow.goesBy Tryz.prog := by kernel_rfl
theorem said : Rows.FnSortSaid :=
  OpenClaim.holds_of_cond 7 Tryz.f7 rfl rfl rfl rfl rfl rfl rfl ⟨rfl, rfl, rfl, rfl, rfl⟩ rfl rfl rfl rfl rfl (by kernel_rfl) Tryz.func7 closed
    (of_decide_eq_true (by kernel_rfl)) (by unfold Func.isWrapper; first | (rw [if_pos (by decide +kernel)]; kernel_rfl) | (rw [if_neg (by decide +kernel)]; exact ⟨rfl, rfl⟩))
    (fun os started H enc _ F => by rw [OpenClaim.pre_eq_preRow]; exact lifted os started H enc F)
theorem plain (f : FuncId) (fn : Func) (hf : Tryz.pinned.checked.prog.funcNamed "loop.example/g00445/laws.FnSort" = some f) (hfn : Tryz.pinned.checked.prog.funcs[f]? = some fn) :
    true = Tryz.pinned.checked.prog.looks [] ∧ ∀ (j : Nat) t, fn.params[j]? = some t → Tryz.pinned.checked.prog.wantsStandIn t = false := by
  obtain rfl : f = 7 := Option.some.inj ((show Tryz.prog.funcNamed "loop.example/g00445/laws.FnSort" = some 7 by kernel_rfl).symm.trans hf) |>.symm
  obtain rfl : fn = Tryz.f7 := (Option.some.inj (Tryz.func7.symm.trans hfn)).symm
  refine ⟨Facts.looks, fun j t ht => ?_⟩
  rw [Tryz.params7] at ht
  have hm := Array.mem_of_getElem? ht
  have hall : (#[22] : Array TypeId).all (fun t => Tryz.prog.wantsStandIn t == false) = true := by kernel_rfl
  show Tryz.prog.wantsStandIn t = false
  have h1 := Array.all_eq_true'.1 hall t hm
  exact beq_iff_eq.1 h1
theorem proved : Rows.FnSortCardSaid :=
  Claim7.holds_tied_plain_at .later [] _ _ _ _ said (fun _ h => by cases h) (by kernel_rfl) (fun _ h => by cases h) fnSort_row_tie rfl ⟨rfl, rfl⟩ Facts.main rfl plain goes
end Go.Proofs.YtcfeihimmboghaaGreatDoor.fnSort
namespace Go.Proofs.YtcfeihimmboghaaGreatDoor
theorem fnSort_holds : Rows.FnSortCardSaid := fnSort.proved
end Go.Proofs.YtcfeihimmboghaaGreatDoor

end
