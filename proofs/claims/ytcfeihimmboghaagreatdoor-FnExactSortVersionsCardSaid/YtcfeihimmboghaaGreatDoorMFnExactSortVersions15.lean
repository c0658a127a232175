/- A part of the proof that the law FnExactSortVersions answers true at every input that its row speaks of. Conditions: the row's own. -/
import Derived.Test.YtcfeihimmboghaaGreatDoorMFnExactSortVersions0
import Derived.Test.YtcfeihimmboghaaGreatDoorKFnExactSortVersions0
import Derived.Test.YtcfeihimmboghaaGreatDoorMFnExactSortVersions14
import Derived.Test.YtcfeihimmboghaaGreatDoorMFnExactSortVersions2
import Derived.Test.YtcfeihimmboghaaGreatDoorRows
import Derived.Test.YtcfeihimmboghaaGreatDoorOp
import Derived.Test.YtcfeihimmboghaaGreatDoorCards
import Derived.Test.YtcfeihimmboghaaGreatDoorTie
import Derived.Test.YtcfeihimmboghaaGreatDoorLaid
import Derived.Test.YtcfeihimmboghaaGreatDoorFacts
import Derived.WalkKit
import Derived.ProofKit
import Derived.OpenShut
import Derived.ShutString
import Derived.ChangeOld
import Derived.Below
import Derived.SizedLaws
import Derived.Carry
import Derived.Deep.DeepHandedRow
import Derived.Deep.DeepWitnessRowRef
section
namespace Go.Proofs.YtcfeihimmboghaaGreatDoor.U
open Go Go.RowKit Go.Proofs.YtcfeihimmboghaaGreatDoorW.PrintWords Go.Proofs.YtcfeihimmboghaaGreatDoor.G
set_option linter.unusedVariables false
theorem markText_l : ∀ (n : Nat) (x0 : Int) (x3 : ByteArray), x0.toNat = n → x0 ≤ 4611686018427387904 → x3.size + n ≤ 4611686018427387908 → ∃ r, Ev (fun k => laws_markText.l0 k x0 x3) r := by
  intro n
  induction n using Nat.strongRecOn with
  | _ n ih =>
    intro x0 x3 hn hx h3
    by_cases h : x0 > 0
    · have hq : Int.tdiv x0 10 = x0 / 10 := Int.tdiv_eq_ediv_of_nonneg (by omega)
      have e : wrap64 (Int.tdiv x0 10) = x0 / 10 := by rw [hq, w64 (by omega) (by omega)]
      have hone : (strOfNums [(wrap64 (48 + Int.tmod x0 10)) % 256]).size = 1 := by unfold strOfNums; rfl
      obtain ⟨r, hr⟩ := ih (x0 / 10).toNat (by omega) (x0 / 10) (strOfNums [(wrap64 (48 + Int.tmod x0 10)) % 256] ++ x3) rfl (by omega) (by rw [ByteArray.size_append, hone]; omega)
      refine ⟨r, Ev.step (fun k => ?_) hr⟩
      rw [laws_markText.l0, if_pos h, Option.bind_some, if_pos (by rw [hone]; omega), e]
    · exact ⟨_, Ev.step (f := fun _ => some ((⟨#[109]⟩ : ByteArray) ++ x3)) (fun k => by rw [laws_markText.l0, if_neg h, if_pos (by omega)]) (Ev.now _)⟩
theorem markText_ex (a : Int) (h : a ≤ 4611686018427387904) : ∃ r, Ev (fun k => laws_markText.f k a) r := by
  unfold laws_markText.f
  by_cases h0 : a ≤ 0
  · exact ⟨_, ev_pos h0 (Ev.now _)⟩
  · obtain ⟨r, hr⟩ := markText_l a.toNat a ⟨#[]⟩ rfl h (by show 0 + _ ≤ _; omega)
    exact ⟨r, ev_neg h0 hr⟩
theorem mark_held {α : Type} (z : α) (g : Nat → List α → Int → Int → Option (Int × List α)) (h : Nat → List α → Int → Int → Option Int) (W : α → Nat)
    (gend : ∀ k x0 c, g (k + 1) x0 c (x0.length : Int) = some (c, x0)) (hend : ∀ k y c, h (k + 1) y c (y.length : Int) = some c)
    (step : ∀ (e : α) (c : Int), 0 ≤ c → c ≤ 2305843009213693952 → ∃ e' c', c ≤ c' ∧ c' ≤ c + W e ∧
      (∀ x0 (i : Nat) r, i < x0.length → i ≤ 140737488355328 → x0.getD i z = e → Ev (fun k => g k (x0.set i e') c' ((i + 1 : Nat) : Int)) r → Ev (fun k => g k x0 c (i : Int)) r) ∧
      (∀ y (i : Nat) r, i < y.length → i ≤ 140737488355328 → y.getD i z = e' → Ev (fun k => h k y c' ((i + 1 : Nat) : Int)) r → Ev (fun k => h k y c (i : Int)) r))
    (l : List α) (c : Int) (hl : l.length ≤ 140737488355328) (hc : 0 ≤ c) (hb : c + ((l.map W).sum : Nat) ≤ 2305843009213693952) :
    ∃ l' r, l'.length = l.length ∧ Ev (fun k => g k l c 0) (r, l') ∧ Ev (fun k => h k l' c 0) r ∧ c ≤ r ∧ r ≤ c + ((l.map W).sum : Nat) := by
  have key : ∀ d i (x0 : List α) (c : Int), i + d = x0.length → x0.length ≤ 140737488355328 → 0 ≤ c → c + (((x0.drop i).map W).sum : Nat) ≤ 2305843009213693952 →
      ∃ l' r, l'.length = x0.length ∧ l'.take i = x0.take i ∧ Ev (fun k => g k x0 c (i : Int)) (r, l') ∧ Ev (fun k => h k l' c (i : Int)) r ∧ c ≤ r ∧ r ≤ c + (((x0.drop i).map W).sum : Nat) := by
    intro d
    induction d with
    | zero =>
      intro i x0 c hi hm hc hb
      have e : i = x0.length := by omega
      subst e
      exact ⟨x0, c, rfl, rfl, Ev.step (f := fun _ => some (c, x0)) (fun k => gend k x0 c) (Ev.now _), Ev.step (f := fun _ => some c) (fun k => hend k x0 c) (Ev.now _), Int.le_refl _, by omega⟩
    | succ d ih =>
      intro i x0 c hi hm hc hb
      have hlt : i < x0.length := by omega
      rw [drop_getD x0 i z hlt, List.map_cons, List.sum_cons] at hb
      obtain ⟨e', c', h1, h2, h3, h4⟩ := step (x0.getD i z) c hc (by omega)
      have hd : (x0.set i e').drop (i + 1) = x0.drop (i + 1) := by rw [List.drop_set_of_lt (by omega)]
      obtain ⟨l', r, k1, k2, k3, k4, k5, k6⟩ := ih (i + 1) (x0.set i e') c' (by simpa using (by omega : i + 1 + d = x0.length)) (by simpa using hm) (by omega) (by rw [hd]; omega)
      rw [List.length_set] at k1
      have hi1 : i ≤ 140737488355328 := by omega
      refine ⟨l', r, k1, ?_, h3 x0 i _ hlt hi1 rfl k3, h4 l' i r (by omega) hi1 ?_ k4, by omega, ?_⟩
      · have := congrArg (List.take i) k2
        rw [List.take_take, List.take_take, Nat.min_eq_left (by omega), List.take_set_of_le (Nat.le_refl _)] at this
        exact this
      · have h5 : l'[i]? = (x0.set i e')[i]? := by
          have := congrArg (fun q : List α => q[i]?) k2
          simpa [List.getElem?_take] using this
        rw [List.getElem?_set_self hlt] at h5
        rw [List.getD_eq_getElem?_getD, h5]; rfl
      · rw [hd] at k6
        rw [drop_getD x0 i z hlt, List.map_cons, List.sum_cons]; omega
  obtain ⟨l', r, k1, _, k3, k4, k5, k6⟩ := key l.length 0 l c (by omega) hl hc (by simpa using hb)
  exact ⟨l', r, k1, k3, k4, k5, by simpa using k6⟩
end Go.Proofs.YtcfeihimmboghaaGreatDoor.U

end
section
namespace Go.Proofs.YtcfeihimmboghaaGreatDoor.U
open Go Go.RowKit Go.Proofs.YtcfeihimmboghaaGreatDoorW.PrintWords Go.Proofs.YtcfeihimmboghaaGreatDoor.G
set_option linter.unusedVariables false
set_option maxRecDepth 100000
theorem eqStringS_ok (l : List ByteArray) (h : l.length ≤ maxLen) : Ev (fun k => laws_eqStringS.f k l l) true := by
  unfold laws_eqStringS.f
  refine ev_pos rfl ?_
  refine eq_loop l ByteArray.empty (fun k i => laws_eqStringS.l0 k l l i) (fun _ x => some true) h ?_ ?_ (fun _ _ => Ev.now _)
  · intro k i hi
    show laws_eqStringS.l0 (k + 1) l l (i : Int) = _
    rw [laws_eqStringS.l0, if_pos (by omega), if_pos (by omega), if_pos (by omega), if_pos rfl]
    rfl
  · intro k
    show laws_eqStringS.l0 (k + 1) l l (l.length : Int) = _
    rw [laws_eqStringS.l0, if_neg (by omega)]
end Go.Proofs.YtcfeihimmboghaaGreatDoor.U

end
section
namespace Go.Proofs.YtcfeihimmboghaaGreatDoor.U
open Go Go.RowKit Go.Proofs.YtcfeihimmboghaaGreatDoorW.PrintWords Go.Proofs.YtcfeihimmboghaaGreatDoor.G
set_option linter.unusedVariables false
theorem sum_ones {α : Type} (l : List α) : (l.map fun _ => 1).sum = l.length := by
  induction l with
  | nil => rfl
  | cons x l ih => rw [List.map_cons, List.sum_cons, ih, List.length_cons]; omega
theorem mhStringS (l : List ByteArray) (c : Int) (hl : l.length ≤ 140737488355328) (hc : 0 ≤ c) (hb : c + l.length ≤ 2305843009213693952) :
    ∃ l' r, l'.length = l.length ∧ Ev (fun k => laws_markStringS.f k l c) (r, l') ∧ Ev (fun k => laws_heldStringS.f k l' c) r ∧ c ≤ r ∧ r ≤ c + l.length := by
  have := mark_held ByteArray.empty (fun k x0 c i => laws_markStringS.l0 k x0 c i) (fun k y c i => laws_heldStringS.l0 k y c i) (fun _ => 1)
    (fun k x0 c => by show laws_markStringS.l0 (k + 1) x0 c _ = _; rw [laws_markStringS.l0, if_neg (by omega)])
    (fun k y c => by show laws_heldStringS.l0 (k + 1) y c _ = _; rw [laws_heldStringS.l0, if_neg (by omega)])
    (fun e c h0 h1 => by
      obtain ⟨m, hm⟩ := markText_ex c (by omega)
      refine ⟨m, c + 1, by omega, by omega, fun x0 i r hi hi1 he hr => ?_, fun y i r hi hi1 he hr => ?_⟩
      · refine Ev.step (f := fun k => (laws_markText.f k c).bind fun t => laws_markStringS.l0 k (x0.set i t) (c + 1) ((i + 1 : Nat) : Int)) (fun k => ?_) (Ev.bind hm hr)
        show laws_markStringS.l0 (k + 1) x0 c (i : Int) = _
        rw [laws_markStringS.l0, if_pos (by omega)]
        refine Option.bind_congr fun t _ => ?_
        rw [if_pos (by omega), Int.toNat_natCast, w64 (n := c + 1) (by omega) (by omega), wa1 i (by omega)]
      · refine Ev.step (f := fun k => (laws_markText.f k c).bind fun t => if m.toList = t.toList then laws_heldStringS.l0 k y (c + 1) ((i + 1 : Nat) : Int) else some (-1)) (fun k => ?_) (Ev.bind hm (ev_pos rfl hr))
        show laws_heldStringS.l0 (k + 1) y c (i : Int) = _
        have he' : rdOf ByteArray.empty y (i : Int) = m := he
        rw [laws_heldStringS.l0, if_pos (by omega), if_pos (by omega)]
        refine Option.bind_congr fun t _ => ?_
        rw [he', w64 (n := c + 1) (by omega) (by omega), wa1 i (by omega)])
    l c hl hc (by rw [sum_ones]; exact hb)
  rw [sum_ones] at this
  exact this
end Go.Proofs.YtcfeihimmboghaaGreatDoor.U

end
section
namespace Go.Proofs.YtcfeihimmboghaaGreatDoor.U
open Go Go.RowKit Go.Proofs.YtcfeihimmboghaaGreatDoorW.PrintWords Go.Proofs.YtcfeihimmboghaaGreatDoor.G
set_option linter.unusedVariables false
set_option maxRecDepth 100000
theorem szStringS_ok (l : List ByteArray) (h : l.length ≤ maxLen ∧ ∀ x_ ∈ l, x_.size ≤ maxLen) : Sz (fun k left => laws_szStringS.f k l left) (w_StringS l) := by
  have hs : ∀ x ∈ l, Sz (fun _ left => if wrap64 (left - (x.size : Int)) < 0 then some (-1) else some (wrap64 (left - (x.size : Int)))) (x.size : Int) := fun x hx => ⟨by omega, fun left hr => sz_last hr (h.2 x hx)⟩
  refine ⟨w_StringS_nonneg l, fun left hr => ?_⟩
  show Ev (fun k => laws_szStringS.f k l left) _
  unfold laws_szStringS.f w_StringS wList
  rw [room_sub hr h.1]
  refine sz_cut' hr (sumW_nonneg fun x hx => (hs x hx).1) fun hb hr => ?_
  refine sz_loop l ByteArray.empty (fun s => (s.size : Int)) (fun k i st => laws_szStringS.l0 k l st i) (fun _ x left => if wrap64 (left - (x.size : Int)) < 0 then some (-1) else some (wrap64 (left - (x.size : Int)))) h.1 ?_ ?_ hs _ hr
  · intro k i st hi
    show laws_szStringS.l0 (k + 1) l st (i : Int) = _
    rw [laws_szStringS.l0, if_pos (by omega), if_pos (by omega)]
    show (if wrap64 (st - ((l.getD i ByteArray.empty).size : Int)) < 0 then some (-1) else laws_szStringS.l0 k l (wrap64 (st - ((l.getD i ByteArray.empty).size : Int))) (wrap64 ((i : Int) + 1))) = _
    generalize wrap64 (st - ((l.getD i ByteArray.empty).size : Int)) = y
    by_cases hy : y < 0
    · simp only [if_pos hy]; rfl
    · simp only [if_neg hy]; show _ = (if y < 0 then _ else _); rw [if_neg hy]
  · intro k st
    show laws_szStringS.l0 (k + 1) l st (l.length : Int) = _
    rw [laws_szStringS.l0, if_neg (by omega)]
theorem toStringS_ok (l : List ByteArray) (h : l.length ≤ maxLen ∧ ∀ x_ ∈ l, x_.size ≤ maxLen) (hw : w_StringS l ≤ 1048576) : Ev (fun k => laws_toStringS.f k l) (l) := by
  have hl := w_StringS_len l
  have e : ((l.length : Int)).toNat = l.length := Int.toNat_natCast _
  unfold laws_toStringS.f
  rw [e]
  refine ev_pos (by omega) (ev_pos (by omega) ?_)
  have := to_loop l ByteArray.empty (⟨#[]⟩ : ByteArray) id (fun k i st => laws_toStringS.l0 k l st i) h.1 ?_ ?_
  · rw [List.map_id] at this; exact this
  · intro k i st hi hs
    show laws_toStringS.l0 (k + 1) l st (i : Int) = _
    rw [laws_toStringS.l0, if_pos (by omega), if_pos (by omega), if_pos (by omega)]
    rfl
  · intro k st
    show laws_toStringS.l0 (k + 1) l st (l.length : Int) = _
    rw [laws_toStringS.l0, if_neg (by omega)]
end Go.Proofs.YtcfeihimmboghaaGreatDoor.U

end
section
namespace Go.Proofs.YtcfeihimmboghaaGreatDoor.Pure
open Go Go.RowKit Go.Proofs.YtcfeihimmboghaaGreatDoorW.PrintWords Go.Proofs.YtcfeihimmboghaaGreatDoor.G Go.Proofs.YtcfeihimmboghaaGreatDoor.U
theorem FnExactSortVersions : laws_FnExactSortVersions.Pure := by
  intro l hl
  refine Ev.rounds (r := true) ?_
  unfold laws_FnExactSortVersions.f
  refine law_sz (szStringS_ok l hl) fun hw => ?_
  have tt := toStringS_ok l hl hw
  have h1 := w_StringS_len l
  have hn : l.length ≤ 1048576 := by omega
  have hs : ∀ x ∈ l, x.size ≤ 1048576 := fun x hx => by have := w_StringS_mem hx; omega
  have e1 := eqStringS_ok l hl.1
  have hsp := spec_SortVersions_ev l hn hs
  have him : impl_SortVersions.f l = some ((sorted cmpS ((l.map L).filter isVer)).map S) := by unfold impl_SortVersions.f; rw [if_pos ⟨hn, hs⟩]
  have hg := sorted_small l hn
  generalize (sorted cmpS ((l.map L).filter isVer)).map S = g at hsp him hg
  have e2 := eqStringS_ok g (by unfold maxLen; omega)
  obtain ⟨x', c, _, m1, _, c0, _⟩ := mhStringS l 1 (by omega) (by omega) (by omega)
  obtain ⟨g', r, _, m2, d2, r0, _⟩ := mhStringS g 1 (by omega) (by omega) (by omega)
  have hj : Ev (fun k => laws_FnExactSortVersions.j0 k l g g false) true := by
    refine Ev.step (fun k => by rw [laws_FnExactSortVersions.j0, if_neg (by decide)]) ?_
    exact Ev.bind m2 (Ev.bind d2 (ev_neg (by omega) (ev_pos rfl (Ev.bind tt (ev_const him (Ev.bind e2 (ev_pos rfl (Ev.bind d2 (ev_neg (by omega) (ev_pos rfl (Ev.now _)))))))))))
  exact Ev.bind tt (Ev.bind hsp (Ev.bind tt (ev_const him (Ev.bind e2 (ev_pos rfl (Ev.bind tt (Ev.bind e1 (ev_pos rfl (Ev.bind m1 (ev_neg (by show ¬ c < 0; omega) (Ev.bind e2 hj)))))))))))
end Go.Proofs.YtcfeihimmboghaaGreatDoor.Pure

end
section
namespace Go.Proofs.YtcfeihimmboghaaGreatDoor.fnExactSortVersions
open Go.ChangeShapes Go.WideShapes Go.ChangeAt Go.RowKit Go.Proofs.YtcfeihimmboghaaGreatDoor Go.Proofs.YtcfeihimmboghaaGreatDoor.G Go.Proofs.YtcfeihimmboghaaGreatDoorW.PrintWords
open Go.ChangeMaps (open_string shut_string)
set_option linter.unusedVariables false
set_option linter.unusedSimpArgs false
theorem own : ownKnob Tryz.prog.godebug = none := by kernel_rfl
theorem laidOut : laidOutB Tryz.prog = true := by kernel_rfl
set_option maxRecDepth 100000 in
theorem contract (H : Type) (enc : TypeId × Value → H) (W : World) (base : Nat) (args : Array Value) (ds gs : List (DataW H)) (before : List MemPlace)
    (hval : ∀ (j : Nat) t v, Tryz.f6.params[j]? = some t → args[j]? = some v → Value.okWide Tryz.prog W .any base t v)
    (hW : DataW.Whole enc Tryz.prog Tryz.f6.params.toList Rows.fnExactSortVersionsSpec.vars false W args.toList ds gs before) (hFE : Glob FactE W) (hFM : Glob FactM W) (hFT : Glob FactT W) :
    Calls Tryz.prog 6 args W fun e W' => ∃ v, e = .returned v ∧ Rows.fnExactSortVersionsSpec.post enc Tryz.prog Tryz.f6 false true false false W args v W' := by
  have hW' := hW
  obtain ⟨p, q, hA0, hV, rfl, hfz, hnd⟩ := hW
  have hA : DataW.TrodAll enc Tryz.prog W 0 (fun _ => true) true Tryz.f6.params.toList args.toList ds p := hA0
  rw [Tryz.params6] at hA hval
  obtain ⟨v0, vs0, d0, ds0, p0, q0, hargs, rfl, rfl, h0, r0⟩ := trodAll_cons hA
  obtain ⟨rfl, rfl, rfl⟩ := trodAll_nil r0
  obtain rfl : args = #[v0] := by cases args; simp_all
  obtain ⟨rfl, rfl⟩ := trodVars_none hV
  obtain ⟨A0, len0, c0, rfl⟩ := okWide_slice Tryz.underlying40 (hval 0 40 v0 rfl rfl)
  have k0 := h0
  have lt0 : ∀ x ∈ p0, x.block < W.heap.size := by obtain ⟨m, hm⟩ := k0; exact DataW.trod_lt m _ _ _ hm
  obtain ⟨l0, rfl, hc0, hr0, z0⟩ := Op.arg_slice (Op.opens_slice (by kernel_rfl) Tryz.underlying40 (Op.opens_string (by kernel_rfl) Tryz.underlying9)) h0
  clear hA0
  obtain ⟨k, h⟩ := Pure.FnExactSortVersions l0 z0
  refine (laws_FnExactSortVersions.calls k A0 c0 l0 true W hr0 hc0 hFE hFM hFT rfl h).mono fun e W' ⟨he, bel0⟩ => ?_
  have bel : Below W.heap.size W W' := bel0
  subst he
  exact ⟨_, rfl, _, _, _, [], _, [], hW', trodAll_mk1 (shut_bool Tryz.underlying4 _), (trodAll_cons_mk (Below.trod laidOut (by kernel_rfl) (of_decide_eq_true (by kernel_rfl)) k0 bel lt0) trodAll_mk0), rfl, bel.frame _, fun h => by cases h⟩
theorem laid_met (os : Os) : laidMet Tryz.prog Rows.fnExactSortVersionsRow.laid ((Laid.world os).forCall (fun _ _ => 0) ⟨#[], #[.slice none 0 0], []⟩).memory :=
  laidMet_of_run' Laid.fuel (by kernel_rfl) (by kernel_rfl)
theorem reads (os : Os) {H : Type} (enc : TypeId × Value → H) : ∃ places, DataW.whole enc Tryz.prog ((Laid.world os).forCall (fun _ _ => 0) ⟨#[], #[.slice none 0 0], []⟩).memory Tryz.f6.params.toList Rows.fnExactSortVersionsSpec.vars false (#[.slice none 0 0] : Array Value).toList 8 = some ([.nil], [], places) :=
  ⟨[], by kernel_rfl⟩
set_option maxRecDepth 100000 in
theorem lifted (os : Os) (started : os.Started) (H : Type) (enc : TypeId × Value → H) (F : Stop.Interp) :
    ReturnsInHanded {} Tryz.checked os 6 .any ((OpenSpec.ofChange Rows.fnExactSortVersionsSpec).preRow enc Tryz.prog Tryz.f6 Rows.fnExactSortVersionsRow.domain false Rows.fnExactSortVersionsRow.laid) (((OpenSpec.ofChange Rows.fnExactSortVersionsSpec).at F).post enc Tryz.prog Tryz.f6 false true false false) := by
  obtain ⟨places, hx⟩ := reads os enc
  refine returnsInHanded_of_row (C := Tryz.checked) (s := OpenSpec.ofChange Rows.fnExactSortVersionsSpec) own started (by kernel_rfl) Tryz.func6
    (witness_row_atRef (enc := enc) (C := Tryz.checked) false (Laid.world os) #[.slice none 0 0] rfl (Laid.vars os _) (Laid.heap os _) (by kernel_rfl)
      (OpenSpec.preRow_of_cond 8 hx (by kernel_rfl) (fun k hk => by cases hk) (by kernel_rfl) (laid_met os))) ?_
  intro W base args ds gs before hval hW _ _ _ hL hS _
  exact contract H enc W base args ds gs before hval hW (FactE_of hS hL (fun h => h) (by repeat (first | exact List.Mem.head _ | apply List.Mem.tail)) (by repeat (first | exact List.Mem.head _ | apply List.Mem.tail))) (FactM_of hS hL) (FactT_of hS hL (fun h => h) (by repeat (first | exact List.Mem.head _ | apply List.Mem.tail)))
theorem j10 : (Rows.fnExactSortVersionsRow.inPlace == Tryz.prog.inPlace 6) = true := by kernel_rfl
theorem j11 : (Rows.fnExactSortVersionsRow.unfollowed == Tryz.prog.unfollowed 6) = true := by kernel_rfl
theorem j12 : (Rows.fnExactSortVersionsRow.recurses == Tryz.prog.recurses 6) = true := by kernel_rfl
theorem j13 : (Rows.fnExactSortVersionsRow.named == Tryz.prog.varsNamed 6) = true := by kernel_rfl
set_option maxRecDepth 100000 in
theorem closed : joinedFacts Tryz.prog 6 Tryz.f6 (OpenSpec.ofChange Rows.fnExactSortVersionsSpec).bare Rows.fnExactSortVersionsRow = true :=
  (Facts.and_mk (Facts.and_mk (Facts.and_mk (Facts.and_mk (Facts.and_mk (Facts.and_mk (Facts.and_mk (Facts.and_mk (Facts.and_mk (Facts.and_mk (Facts.and_mk (Facts.and_mk (Facts.and_mk (Facts.and_mk (Facts.and_mk (Facts.and_mk (Facts.and_mk (Facts.and_mk (Facts.and_mk (Facts.and_mk (Facts.and_mk (Facts.and_mk (Facts.and_mk (Facts.and_mk (Facts.and_mk (Facts.and_mk (Facts.and_mk (Facts.and_mk (Facts.and_mk (Facts.and_mk (Facts.and_mk (by kernel_rfl) Facts.laidOut) Facts.mapsRowed) (by kernel_rfl)) (by kernel_rfl)) (by kernel_rfl)) (by kernel_rfl)) (by kernel_rfl)) (by kernel_rfl)) j10) j11) j12) j13) (by kernel_rfl)) (by kernel_rfl)) (by kernel_rfl)) (by kernel_rfl)) (by kernel_rfl)) (by kernel_rfl)) (by kernel_rfl)) (by kernel_rfl)) (by kernel_rfl)) (Facts.plainKeys _ rfl)) (by kernel_rfl)) Facts.heard) Facts.mayEnter) (Facts.lifts _ rfl)) (Facts.make _ rfl)) (by kernel_rfl)) (by kernel_rfl)) (by kernel_rfl)) (by kernel_rfl))
theorem goes : false = Rows.fnExactSortVersionsRow.goesBy Tryz.prog := by kernel_rfl
theorem said : Rows.FnExactSortVersionsSaid :=
  OpenClaim.holds_of_cond 6 Tryz.f6 rfl rfl rfl rfl rfl rfl rfl ⟨rfl, rfl, rfl, rfl, rfl⟩ rfl rfl rfl rfl rfl (by kernel_rfl) Tryz.func6 closed
    (of_decide_eq_true (by kernel_rfl)) (by unfold Func.isWrapper; first | (rw [if_pos (by decide +kernel)]; kernel_rfl) | (rw [if_neg (by decide +kernel)]; exact ⟨rfl, rfl⟩))
    (fun os started H enc _ F => by rw [OpenClaim.pre_eq_preRow]; exact lifted os started H enc F)
theorem plain (f : FuncId) (fn : Func) (hf : Tryz.pinned.checked.prog.funcNamed "loop.example/g00445/laws.FnExactSortVersions" = some f) (hfn : Tryz.pinned.checked.prog.funcs[f]? = some fn) :
    true = Tryz.pinned.checked.prog.looks [] ∧ ∀ (j : Nat) t, fn.params[j]? = some t → Tryz.pinned.checked.prog.wantsStandIn t = false := by
  obtain rfl : f = 6 := Option.some.inj ((show Tryz.prog.funcNamed "loop.example/g00445/laws.FnExactSortVersions" = some 6 by kernel_rfl).symm.trans hf) |>.symm
  obtain rfl : fn = Tryz.f6 := (Option.some.inj (Tryz.func6.symm.trans hfn)).symm
  refine ⟨Facts.looks, fun j t ht => ?_⟩
  rw [Tryz.params6] at ht
  have hm := Array.mem_of_getElem? ht
  have hall : (#[40] : Array TypeId).all (fun t => Tryz.prog.wantsStandIn t == false) = true := by kernel_rfl
  show Tryz.prog.wantsStandIn t = false
  have h1 := Array.all_eq_true'.1 hall t hm
  exact beq_iff_eq.1 h1
theorem proved : Rows.FnExactSortVersionsCardSaid :=
  Claim7.holds_tied_plain_at .later [] _ _ _ _ said (fun _ h => by cases h) (by kernel_rfl) (fun _ h => by cases h) fnExactSortVersions_row_tie rfl ⟨rfl, rfl⟩ Facts.main rfl plain goes
end Go.Proofs.YtcfeihimmboghaaGreatDoor.fnExactSortVersions
namespace Go.Proofs.YtcfeihimmboghaaGreatDoor
theorem fnExactSortVersions_holds : Rows.FnExactSortVersionsCardSaid := fnExactSortVersions.proved
end Go.Proofs.YtcfeihimmboghaaGreatDoor

end
