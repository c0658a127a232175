/- What is proved: the law FnExactReadVersion answers true at every input that its row speaks of (part 2 of 2 of its proof, merged by wip/tools/merge.py). Conditions: the row's own. -/
import Derived.Test.YtgfaphlpkjikkaaDoorMFnExactReadVersion0
import Derived.Test.YtgfaphlpkjikkaaDoorG0
import Derived.Test.YtgfaphlpkjikkaaDoorRows
import Derived.Test.YtgfaphlpkjikkaaDoorOp
import Derived.Test.YtgfaphlpkjikkaaDoorCards
import Derived.Test.YtgfaphlpkjikkaaDoorTie
import Derived.Test.YtgfaphlpkjikkaaDoorLaid
import Derived.Test.YtgfaphlpkjikkaaDoorFacts
import Derived.WalkKit
import Derived.ProofKit
import Derived.OpenShut
import Derived.ShutString
import Derived.ChangeOld
import Derived.Below
import Derived.SizedLaws
import Derived.Carry
import Derived.Deep.DeepHandedRow
import Derived.Deep.DeepWitnessRowRef
section
namespace Go.Proofs.YtgfaphlpkjikkaaDoor.U
open Go Go.RowKit Go.Proofs.YtgfaphlpkjikkaaDoorW.PrintWords Go.Proofs.YtgfaphlpkjikkaaDoor.G
set_option linter.unusedVariables false

theorem markText_l : ∀ (n : Nat) (x0 : Int) (x3 : ByteArray), x0.toNat = n → x0 ≤ 4611686018427387904 → x3.size + n ≤ 4611686018427387908 → ∃ r, Ev (fun k => laws_markText.l0 k x0 x3) r := by
  intro n
  induction n using Nat.strongRecOn with
  | _ n ih =>
    intro x0 x3 hn hx h3
    by_cases h : x0 > 0
    · have hq : Int.tdiv x0 10 = x0 / 10 := Int.tdiv_eq_ediv_of_nonneg (by omega)
      have e : wrap64 (Int.tdiv x0 10) = x0 / 10 := by rw [hq, w64 (by omega) (by omega)]
      have hone : (strOfNums [(wrap64 (48 + Int.tmod x0 10)) % 256]).size = 1 := by unfold strOfNums; rfl
      obtain ⟨r, hr⟩ := ih (x0 / 10).toNat (by omega) (x0 / 10) (strOfNums [(wrap64 (48 + Int.tmod x0 10)) % 256] ++ x3) rfl (by omega) (by rw [ByteArray.size_append, hone]; omega)
      refine ⟨r, Ev.step (fun k => ?_) hr⟩
      rw [laws_markText.l0, if_pos h, Option.bind_some, if_pos (by rw [hone]; omega), e]
    · exact ⟨_, Ev.step (f := fun _ => some ((⟨#[109]⟩ : ByteArray) ++ x3)) (fun k => by rw [laws_markText.l0, if_neg h, if_pos (by omega)]) (Ev.now _)⟩
theorem markText_ex (a : Int) (h : a ≤ 4611686018427387904) : ∃ r, Ev (fun k => laws_markText.f k a) r := by
  unfold laws_markText.f
  by_cases h0 : a ≤ 0
  · exact ⟨_, ev_pos h0 (Ev.now _)⟩
  · obtain ⟨r, hr⟩ := markText_l a.toNat a ⟨#[]⟩ rfl h (by show 0 + _ ≤ _; omega)
    exact ⟨r, ev_neg h0 hr⟩
/-- Marked and held: a list's loop. W: how many marks a member takes. -/
theorem mark_held {α : Type} (z : α) (g : Nat → List α → Int → Int → Option (Int × List α)) (h : Nat → List α → Int → Int → Option Int) (W : α → Nat)
    (gend : ∀ k x0 c, g (k + 1) x0 c (x0.length : Int) = some (c, x0)) (hend : ∀ k y c, h (k + 1) y c (y.length : Int) = some c)
    (step : ∀ (e : α) (c : Int), 0 ≤ c → c ≤ 2305843009213693952 → ∃ e' c', c ≤ c' ∧ c' ≤ c + W e ∧
      (∀ x0 (i : Nat) r, i < x0.length → i ≤ 140737488355328 → x0.getD i z = e → Ev (fun k => g k (x0.set i e') c' ((i + 1 : Nat) : Int)) r → Ev (fun k => g k x0 c (i : Int)) r) ∧
      (∀ y (i : Nat) r, i < y.length → i ≤ 140737488355328 → y.getD i z = e' → Ev (fun k => h k y c' ((i + 1 : Nat) : Int)) r → Ev (fun k => h k y c (i : Int)) r))
    (l : List α) (c : Int) (hl : l.length ≤ 140737488355328) (hc : 0 ≤ c) (hb : c + ((l.map W).sum : Nat) ≤ 2305843009213693952) :
    ∃ l' r, l'.length = l.length ∧ Ev (fun k => g k l c 0) (r, l') ∧ Ev (fun k => h k l' c 0) r ∧ c ≤ r ∧ r ≤ c + ((l.map W).sum : Nat) := by
  have key : ∀ d i (x0 : List α) (c : Int), i + d = x0.length → x0.length ≤ 140737488355328 → 0 ≤ c → c + (((x0.drop i).map W).sum : Nat) ≤ 2305843009213693952 →
      ∃ l' r, l'.length = x0.length ∧ l'.take i = x0.take i ∧ Ev (fun k => g k x0 c (i : Int)) (r, l') ∧ Ev (fun k => h k l' c (i : Int)) r ∧ c ≤ r ∧ r ≤ c + (((x0.drop i).map W).sum : Nat) := by
    intro d
    induction d with
    | zero =>
      intro i x0 c hi hm hc hb
      have e : i = x0.length := by omega
      subst e
      exact ⟨x0, c, rfl, rfl, Ev.step (f := fun _ => some (c, x0)) (fun k => gend k x0 c) (Ev.now _), Ev.step (f := fun _ => some c) (fun k => hend k x0 c) (Ev.now _), Int.le_refl _, by omega⟩
    | succ d ih =>
      intro i x0 c hi hm hc hb
      have hlt : i < x0.length := by omega
      rw [drop_getD x0 i z hlt, List.map_cons, List.sum_cons] at hb
      obtain ⟨e', c', h1, h2, h3, h4⟩ := step (x0.getD i z) c hc (by omega)
      have hd : (x0.set i e').drop (i + 1) = x0.drop (i + 1) := by rw [List.drop_set_of_lt (by omega)]
      obtain ⟨l', r, k1, k2, k3, k4, k5, k6⟩ := ih (i + 1) (x0.set i e') c' (by simpa using (by omega : i + 1 + d = x0.length)) (by simpa using hm) (by omega) (by rw [hd]; omega)
      rw [List.length_set] at k1
      have hi1 : i ≤ 140737488355328 := by omega
      refine ⟨l', r, k1, ?_, h3 x0 i _ hlt hi1 rfl k3, h4 l' i r (by omega) hi1 ?_ k4, by omega, ?_⟩
      · have := congrArg (List.take i) k2
        rw [List.take_take, List.take_take, Nat.min_eq_left (by omega), List.take_set_of_le (Nat.le_refl _)] at this
        exact this
      · have h5 : l'[i]? = (x0.set i e')[i]? := by
          have := congrArg (fun q : List α => q[i]?) k2
          simpa [List.getElem?_take] using this
        rw [List.getElem?_set_self hlt] at h5
        rw [List.getD_eq_getElem?_getD, h5]; rfl
      · rw [hd] at k6
        rw [drop_getD x0 i z hlt, List.map_cons, List.sum_cons]; omega
  obtain ⟨l', r, k1, _, k3, k4, k5, k6⟩ := key l.length 0 l c (by omega) hl hc (by simpa using hb)
  exact ⟨l', r, k1, k3, k4, k5, by simpa using k6⟩
end Go.Proofs.YtgfaphlpkjikkaaDoor.U
end

section
namespace Go.Proofs.YtgfaphlpkjikkaaDoor.U
open Go Go.RowKit Go.Proofs.YtgfaphlpkjikkaaDoorW.PrintWords Go.Proofs.YtgfaphlpkjikkaaDoor.G
set_option linter.unusedVariables false
set_option maxRecDepth 100000
theorem eqStringS_ok (l : List ByteArray) (h : l.length ≤ maxLen) : Ev (fun k => laws_eqStringS.f k l l) true := by
  unfold laws_eqStringS.f
  refine ev_pos rfl ?_
  refine eq_loop l ByteArray.empty (fun k i => laws_eqStringS.l0 k l l i) (fun _ x => some true) h ?_ ?_ (fun _ _ => Ev.now _)
  · intro k i hi
    show laws_eqStringS.l0 (k + 1) l l (i : Int) = _
    rw [laws_eqStringS.l0, if_pos (by omega), if_pos (by omega), if_pos (by omega), if_pos rfl]
    rfl
  · intro k
    show laws_eqStringS.l0 (k + 1) l l (l.length : Int) = _
    rw [laws_eqStringS.l0, if_neg (by omega)]

end Go.Proofs.YtgfaphlpkjikkaaDoor.U
end

section
namespace Go.Proofs.YtgfaphlpkjikkaaDoor.U
open Go Go.RowKit Go.Proofs.YtgfaphlpkjikkaaDoorW.PrintWords Go.Proofs.YtgfaphlpkjikkaaDoor.G
set_option linter.unusedVariables false
theorem sum_ones {α : Type} (l : List α) : (l.map fun _ => 1).sum = l.length := by
  induction l with
  | nil => rfl
  | cons x l ih => rw [List.map_cons, List.sum_cons, ih, List.length_cons]; omega
theorem mhStringS (l : List ByteArray) (c : Int) (hl : l.length ≤ 140737488355328) (hc : 0 ≤ c) (hb : c + l.length ≤ 2305843009213693952) :
    ∃ l' r, l'.length = l.length ∧ Ev (fun k => laws_markStringS.f k l c) (r, l') ∧ Ev (fun k => laws_heldStringS.f k l' c) r ∧ c ≤ r ∧ r ≤ c + l.length := by
  have := mark_held ByteArray.empty (fun k x0 c i => laws_markStringS.l0 k x0 c i) (fun k y c i => laws_heldStringS.l0 k y c i) (fun _ => 1)
    (fun k x0 c => by show laws_markStringS.l0 (k + 1) x0 c _ = _; rw [laws_markStringS.l0, if_neg (by omega)])
    (fun k y c => by show laws_heldStringS.l0 (k + 1) y c _ = _; rw [laws_heldStringS.l0, if_neg (by omega)])
    (fun e c h0 h1 => by
      obtain ⟨m, hm⟩ := markText_ex c (by omega)
      refine ⟨m, c + 1, by omega, by omega, fun x0 i r hi hi1 he hr => ?_, fun y i r hi hi1 he hr => ?_⟩
      · refine Ev.step (f := fun k => (laws_markText.f k c).bind fun t => laws_markStringS.l0 k (x0.set i t) (c + 1) ((i + 1 : Nat) : Int)) (fun k => ?_) (Ev.bind hm hr)
        show laws_markStringS.l0 (k + 1) x0 c (i : Int) = _
        rw [laws_markStringS.l0, if_pos (by omega)]
        refine Option.bind_congr fun t _ => ?_
        rw [if_pos (by omega), Int.toNat_natCast, w64 (n := c + 1) (by omega) (by omega), wa1 i (by omega)]
      · refine Ev.step (f := fun k => (laws_markText.f k c).bind fun t => if m.toList = t.toList then laws_heldStringS.l0 k y (c + 1) ((i + 1 : Nat) : Int) else some (-1)) (fun k => ?_) (Ev.bind hm (ev_pos rfl hr))
        show laws_heldStringS.l0 (k + 1) y c (i : Int) = _
        have he' : rdOf ByteArray.empty y (i : Int) = m := he
        rw [laws_heldStringS.l0, if_pos (by omega), if_pos (by omega)]
        refine Option.bind_congr fun t _ => ?_
        rw [he', w64 (n := c + 1) (by omega) (by omega), wa1 i (by omega)])
    l c hl hc (by rw [sum_ones]; exact hb)
  rw [sum_ones] at this
  exact this
end Go.Proofs.YtgfaphlpkjikkaaDoor.U
end

section
namespace Go.Proofs.YtgfaphlpkjikkaaDoor.U
open Go Go.RowKit Go.Proofs.YtgfaphlpkjikkaaDoorW.PrintWords Go.Proofs.YtgfaphlpkjikkaaDoor.G
set_option linter.unusedVariables false
set_option maxRecDepth 100000
theorem eqVersion_ok (f0 : Int)  (f1 : Int)  (f2 : Int)  (f3 : List ByteArray) (h3 : f3.length ≤ maxLen) : Ev (fun k => laws_eqVersion.f k f0 f1 f2 f3 f0 f1 f2 f3) true := by
  unfold laws_eqVersion.f
  refine ev_pos rfl ?_
  refine ev_pos rfl ?_
  refine ev_pos rfl ?_
  refine Ev.bind (eqStringS_ok f3 h3) ?_
  refine ev_pos rfl ?_
  exact Ev.now _

end Go.Proofs.YtgfaphlpkjikkaaDoor.U
end

section
namespace Go.Proofs.YtgfaphlpkjikkaaDoor.U
open Go Go.RowKit Go.Proofs.YtgfaphlpkjikkaaDoorW.PrintWords Go.Proofs.YtgfaphlpkjikkaaDoor.G
set_option linter.unusedVariables false
theorem mhVersion (a b c : Int) (l : List ByteArray) (hl : l.length ≤ 140737488355328) :
    ∃ l' r, l'.length = l.length ∧ Ev (fun k => laws_markVersion.f k a b c l 1) (r, l') ∧ Ev (fun k => laws_heldVersion.f k a b c l' 1) r ∧ 1 ≤ r := by
  obtain ⟨l', r, h1, h2, h3, h4, h5⟩ := mhStringS l 1 hl (by omega) (by omega)
  refine ⟨l', r, h1, ?_, ?_, h4⟩
  · unfold laws_markVersion.f
    exact Ev.bind h2 (Ev.now _)
  · unfold laws_heldVersion.f
    exact Ev.bind h3 (ev_neg (by omega) (Ev.now _))
end Go.Proofs.YtgfaphlpkjikkaaDoor.U
end

section
namespace Go.Proofs.YtgfaphlpkjikkaaDoor.Pure
open Go Go.RowKit Go.Proofs.YtgfaphlpkjikkaaDoorW.PrintWords Go.Proofs.YtgfaphlpkjikkaaDoor.G Go.Proofs.YtgfaphlpkjikkaaDoor.U

theorem readVer_len (l : B) : (readVer l).2.2.2.1.length ≤ l.length + 1 := by
  unfold readVer
  split
  · exact vpre_len l
  · simp [zeroV]
theorem FnExactReadVersion : laws_FnExactReadVersion.Pure := by
  intro s _
  refine Ev.rounds (r := true) ?_
  unfold laws_FnExactReadVersion.f
  by_cases h : (s.size : Int) > 1048576
  · exact ev_pos h (Ev.now _)
  · refine ev_neg h ?_
    have hs : s.size ≤ 1048576 := by omega
    have hsp := spec_ReadVersion_ev s hs
    have him := impl_ReadVersion_ev s hs
    have hlen := readVer_len (L s)
    rw [← size_L] at hlen
    generalize readVer (L s) = v at *
    obtain ⟨a, b, c, l, ok⟩ := v
    have hl : l.length ≤ 140737488355328 := by simp at hlen; omega
    have hq := eqVersion_ok a b c l (by unfold maxLen; omega)
    obtain ⟨l', r, h1, h2, h3, h4⟩ := mhVersion a b c l hl
    refine Ev.bind hsp (Ev.bind him (Ev.bind hq (ev_pos rfl ?_)))
    have hx : (ok != ok) = false := by simp
    simp only [hx]
    refine Ev.step (fun k => by rw [laws_FnExactReadVersion.j0]) ?_
    refine ev_neg (by decide) (Ev.bind h2 (Ev.bind h3 (ev_neg (by omega) (ev_pos rfl (Ev.bind him (Ev.bind hq (ev_pos rfl ?_)))))))
    simp only [hx]
    refine Ev.step (fun k => by rw [laws_FnExactReadVersion.j1]) ?_
    exact ev_neg (by decide) (Ev.bind h3 (ev_neg (by omega) (ev_pos rfl (Ev.now _))))
end Go.Proofs.YtgfaphlpkjikkaaDoor.Pure
end

section
namespace Go.Proofs.YtgfaphlpkjikkaaDoor.fnExactReadVersion
open Go.ChangeShapes Go.WideShapes Go.ChangeAt Go.RowKit Go.Proofs.YtgfaphlpkjikkaaDoor Go.Proofs.YtgfaphlpkjikkaaDoor.G Go.Proofs.YtgfaphlpkjikkaaDoorW.PrintWords
open Go.ChangeMaps (open_string shut_string)
set_option linter.unusedVariables false
set_option linter.unusedSimpArgs false
theorem own : ownKnob Tryd.prog.godebug = none := by kernel_rfl
set_option maxRecDepth 100000 in
theorem contract (H : Type) (enc : TypeId × Value → H) (W : World) (base : Nat) (args : Array Value) (ds gs : List (DataW H)) (before : List MemPlace)
    (hval : ∀ (j : Nat) t v, Tryd.f15.params[j]? = some t → args[j]? = some v → Value.okWide Tryd.prog W .any base t v)
    (hW : DataW.Whole enc Tryd.prog Tryd.f15.params.toList Rows.fnExactReadVersionSpec.vars false W args.toList ds gs before) (hFE : Glob FactE W) (hFM : Glob FactM W) (hFT : Glob FactT W) :
    Calls Tryd.prog 15 args W fun e W' => ∃ v, e = .returned v ∧ Rows.fnExactReadVersionSpec.post enc Tryd.prog Tryd.f15 false true false false W args v W' := by
  have hW' := hW
  obtain ⟨p, q, hA0, hV, rfl, hfz, hnd⟩ := hW
  have hA : DataW.TrodAll enc Tryd.prog W 0 (fun _ => true) true Tryd.f15.params.toList args.toList ds p := hA0
  rw [Tryd.params15] at hA hval
  obtain ⟨v0, vs0, d0, ds0, p0, q0, hargs, rfl, rfl, h0, r0⟩ := trodAll_cons hA
  obtain ⟨rfl, rfl, rfl⟩ := trodAll_nil r0
  obtain rfl : args = #[v0] := by cases args; simp_all
  obtain ⟨rfl, rfl⟩ := trodVars_none hV
  obtain ⟨a0, rfl, rfl, rfl, y0⟩ := open_string Tryd.underlying9 (hval 0 9 v0 rfl rfl) h0
  clear hA0
  obtain ⟨k, h⟩ := Pure.FnExactReadVersion a0 y0
  refine (laws_FnExactReadVersion.calls k a0 true W hFE hFM hFT rfl h).mono fun e W' ⟨he, bel0⟩ => ?_
  have bel : Below W.heap.size W W' := bel0
  subst he
  exact ⟨_, rfl, _, _, _, [], _, [], hW', trodAll_mk1 (shut_bool Tryd.underlying4 _), (trodAll_cons_mk (shut_string Tryd.underlying9 y0) trodAll_mk0), rfl, bel.frame _, fun h => by cases h⟩
theorem laid_met (os : Os) : laidMet Tryd.prog Rows.fnExactReadVersionRow.laid ((Laid.world os).forCall (fun _ _ => 0) ⟨#[], #[.string ByteArray.empty], []⟩).memory :=
  laidMet_of_run' Laid.fuel (by kernel_rfl) (by kernel_rfl)
theorem reads (os : Os) {H : Type} (enc : TypeId × Value → H) : ∃ places, DataW.whole enc Tryd.prog ((Laid.world os).forCall (fun _ _ => 0) ⟨#[], #[.string ByteArray.empty], []⟩).memory Tryd.f15.params.toList Rows.fnExactReadVersionSpec.vars false (#[.string ByteArray.empty] : Array Value).toList 8 = some ([.lit (.string [])], [], places) :=
  ⟨[], by kernel_rfl⟩
set_option maxRecDepth 100000 in
theorem lifted (os : Os) (started : os.Started) (H : Type) (enc : TypeId × Value → H) (F : Stop.Interp) :
    ReturnsInHanded {} Tryd.checked os 15 .any ((OpenSpec.ofChange Rows.fnExactReadVersionSpec).preRow enc Tryd.prog Tryd.f15 Rows.fnExactReadVersionRow.domain false Rows.fnExactReadVersionRow.laid) (((OpenSpec.ofChange Rows.fnExactReadVersionSpec).at F).post enc Tryd.prog Tryd.f15 false true false false) := by
  obtain ⟨places, hx⟩ := reads os enc
  refine returnsInHanded_of_row (C := Tryd.checked) (s := OpenSpec.ofChange Rows.fnExactReadVersionSpec) own started (by kernel_rfl) Tryd.func15
    (witness_row_atRef (enc := enc) (C := Tryd.checked) false (Laid.world os) #[.string ByteArray.empty] rfl (Laid.vars os _) (Laid.heap os _) (by kernel_rfl)
      (OpenSpec.preRow_of_cond 8 hx (by kernel_rfl) (fun k hk => by cases hk) (by kernel_rfl) (laid_met os))) ?_
  intro W base args ds gs before hval hW _ _ _ hL hS _
  exact contract H enc W base args ds gs before hval hW (FactE_of hS hL (fun h => h) (by repeat (first | exact List.Mem.head _ | apply List.Mem.tail)) (by repeat (first | exact List.Mem.head _ | apply List.Mem.tail))) (FactM_of hS hL) (FactT_of hS hL (fun h => h) (by repeat (first | exact List.Mem.head _ | apply List.Mem.tail)))
theorem j10 : (Rows.fnExactReadVersionRow.inPlace == Tryd.prog.inPlace 15) = true := by kernel_rfl
theorem j11 : (Rows.fnExactReadVersionRow.unfollowed == Tryd.prog.unfollowed 15) = true := by kernel_rfl
theorem j12 : (Rows.fnExactReadVersionRow.recurses == Tryd.prog.recurses 15) = true := by kernel_rfl
theorem j13 : (Rows.fnExactReadVersionRow.named == Tryd.prog.varsNamed 15) = true := by kernel_rfl
set_option maxRecDepth 100000 in
theorem closed : joinedFacts Tryd.prog 15 Tryd.f15 (OpenSpec.ofChange Rows.fnExactReadVersionSpec).bare Rows.fnExactReadVersionRow = true :=
  (Facts.and_mk (Facts.and_mk (Facts.and_mk (Facts.and_mk (Facts.and_mk (Facts.and_mk (Facts.and_mk (Facts.and_mk (Facts.and_mk (Facts.and_mk (Facts.and_mk (Facts.and_mk (Facts.and_mk (Facts.and_mk (Facts.and_mk (Facts.and_mk (Facts.and_mk (Facts.and_mk (Facts.and_mk (Facts.and_mk (Facts.and_mk (Facts.and_mk (Facts.and_mk (Facts.and_mk (Facts.and_mk (Facts.and_mk (Facts.and_mk (Facts.and_mk (Facts.and_mk (Facts.and_mk (Facts.and_mk (by kernel_rfl) Facts.laidOut) Facts.mapsRowed) (by kernel_rfl)) (by kernel_rfl)) (by kernel_rfl)) (by kernel_rfl)) (by kernel_rfl)) (by kernel_rfl)) j10) j11) j12) j13) (by kernel_rfl)) (by kernel_rfl)) (by kernel_rfl)) (by kernel_rfl)) (by kernel_rfl)) (by kernel_rfl)) (by kernel_rfl)) (by kernel_rfl)) (by kernel_rfl)) (Facts.plainKeys _ rfl)) (by kernel_rfl)) Facts.heard) Facts.mayEnter) (Facts.lifts _ rfl)) (Facts.make _ rfl)) (by kernel_rfl)) (by kernel_rfl)) (by kernel_rfl)) (by kernel_rfl))
theorem goes : false = Rows.fnExactReadVersionRow.goesBy Tryd.prog := by kernel_rfl
theorem said : Rows.FnExactReadVersionSaid :=
  OpenClaim.holds_of_cond 15 Tryd.f15 rfl rfl rfl rfl rfl rfl rfl ⟨rfl, rfl, rfl, rfl, rfl⟩ rfl rfl rfl rfl rfl (by kernel_rfl) Tryd.func15 closed
    (of_decide_eq_true (by kernel_rfl)) (by unfold Func.isWrapper; first | (rw [if_pos (by decide +kernel)]; kernel_rfl) | (rw [if_neg (by decide +kernel)]; exact ⟨rfl, rfl⟩))
    (fun os started H enc _ F => by rw [OpenClaim.pre_eq_preRow]; exact lifted os started H enc F)
theorem plain (f : FuncId) (fn : Func) (hf : Tryd.pinned.checked.prog.funcNamed "loop.example/g00445/laws.FnExactReadVersion" = some f) (hfn : Tryd.pinned.checked.prog.funcs[f]? = some fn) :
    true = Tryd.pinned.checked.prog.looks [] ∧ ∀ (j : Nat) t, fn.params[j]? = some t → Tryd.pinned.checked.prog.wantsStandIn t = false := by
  obtain rfl : f = 15 := Option.some.inj ((show Tryd.prog.funcNamed "loop.example/g00445/laws.FnExactReadVersion" = some 15 by kernel_rfl).symm.trans hf) |>.symm
  obtain rfl : fn = Tryd.f15 := (Option.some.inj (Tryd.func15.symm.trans hfn)).symm
  refine ⟨Facts.looks, fun j t ht => ?_⟩
  rw [Tryd.params15] at ht
  have hm := Array.mem_of_getElem? ht
  have hall : (#[9] : Array TypeId).all (fun t => Tryd.prog.wantsStandIn t == false) = true := by kernel_rfl
  show Tryd.prog.wantsStandIn t = false
  have h1 := Array.all_eq_true'.1 hall t hm
  exact beq_iff_eq.1 h1
theorem proved : Rows.FnExactReadVersionCardSaid :=
  Claim7.holds_tied_plain_at .later [] _ _ _ _ said (fun _ h => by cases h) (by kernel_rfl) (fun _ h => by cases h) fnExactReadVersion_row_tie rfl ⟨rfl, rfl⟩ Facts.main rfl plain goes
end Go.Proofs.YtgfaphlpkjikkaaDoor.fnExactReadVersion
namespace Go.Proofs.YtgfaphlpkjikkaaDoor
/-- The statement, under a short name, for the claim. -/
theorem fnExactReadVersion_holds : Rows.FnExactReadVersionCardSaid := fnExactReadVersion.proved
end Go.Proofs.YtgfaphlpkjikkaaDoor
end
