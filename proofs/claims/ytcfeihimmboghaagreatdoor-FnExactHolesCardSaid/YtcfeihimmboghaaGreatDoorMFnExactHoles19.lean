/- A part of the proof that the law FnExactHoles answers true at every input that its row speaks of. Conditions: the row's own. -/
import Derived.Test.YtcfeihimmboghaaGreatDoorMFnExactHoles18
import Derived.Test.YtcfeihimmboghaaGreatDoorMFnExactHoles3
import Derived.Test.YtcfeihimmboghaaGreatDoorRows
import Derived.Test.YtcfeihimmboghaaGreatDoorMFnExactHoles17
import Derived.Test.YtcfeihimmboghaaGreatDoorOp
import Derived.Test.YtcfeihimmboghaaGreatDoorCards
import Derived.Test.YtcfeihimmboghaaGreatDoorTie
import Derived.Test.YtcfeihimmboghaaGreatDoorLaid
import Derived.Test.YtcfeihimmboghaaGreatDoorFacts
import Derived.WalkKit
import Derived.ProofKit
import Derived.OpenShut
import Derived.ShutString
import Derived.ChangeOld
import Derived.Below
import Derived.SizedLaws
import Derived.Carry
import Derived.Deep.DeepHandedRow
import Derived.Deep.DeepWitnessRowRef
section
namespace Go.Proofs.YtcfeihimmboghaaGreatDoor.Pure
open Go Go.RowKit Go.Proofs.YtcfeihimmboghaaGreatDoorW.PrintWords Go.Proofs.YtcfeihimmboghaaGreatDoor.G Go.Proofs.YtcfeihimmboghaaGreatDoor.U
theorem law_szh {w left : Int} {g : Nat → Int → Option Int} {f : Nat → Int → Option Bool} (hl : Room left) (hg : Sz g w) (h : w ≤ left → Ev (fun k => f k (left - w)) true) : Ev (fun k => (g k left).bind fun t => if t < 0 then some true else f k t) true := by
  refine Ev.bind (hg.2 left hl) ?_
  by_cases h0 : w ≤ left
  · rw [szOut_pos h0]; exact ev_neg (by omega) (h h0)
  · rw [szOut_neg (by omega)]; exact ev_pos (by omega) (Ev.now _)
theorem FnExactHoles : laws_FnExactHoles.Pure := by
  intro l r hl hr
  refine Ev.rounds (r := true) ?_
  unfold laws_FnExactHoles.f
  have s1 := szStringS_ok l hl
  have s2 := szBoundS_ok r hr
  refine law_szh room_all s1 fun hw => ?_
  refine law_szh (room_le room_all s1.1 hw) s2 fun hv => ?_
  have n1 := s1.1
  have tl := toStringS_ok l hl hw
  have tr := toBoundS_ok r hr (by omega)
  have h1 := w_StringS_len l
  have hn : l.length ≤ 1048576 := by omega
  have hs : ∀ x ∈ l, x.size ≤ 1048576 := fun x hx => by have := w_StringS_mem hx; omega
  have hlen : (r.map t_Bound).length ≤ 1048576 := by have := w_BoundS_len r; rw [List.length_map]; omega
  have hrs : ∀ b ∈ r.map t_Bound, b.f0.size ≤ 1048576 ∧ b.f1.size ≤ 1048576 := fun b hb => by
    obtain ⟨x, hx, rfl⟩ := List.mem_map.1 hb
    have := w_BoundS_mem hx
    unfold w_Bound at this
    show x.f0.size ≤ _ ∧ x.f1.size ≤ _
    omega
  have e1 := eqStringS_ok l hl.1
  have e2 := eqBoundS_ok (r.map t_Bound) (by unfold maxLen; omega)
  have hsp := spec_Holes_ev l hn hs _ hlen hrs
  have him := impl_Holes_ev l hn hs _ hlen hrs
  have hg : (holesL (r.map t_Bound) ((sorted cmpS ((l.map L).filter isVer)).map S)).length ≤ 1048577 := by
    have h2 := holesL_len (r.map t_Bound) ((sorted cmpS ((l.map L).filter isVer)).map S) ([], [], false)
    have h3 := sorted_small l hn
    unfold holesL
    simp only [List.length_nil] at h2
    omega
  generalize holesL (r.map t_Bound) ((sorted cmpS ((l.map L).filter isVer)).map S) = g at hsp him hg
  have eg := eqStringS_ok g (by unfold maxLen; omega)
  obtain ⟨x', c, _, m1, _, c0, c1⟩ := mhStringS l 1 (by omega) (by omega) (by omega)
  obtain ⟨y', c', mb, c2⟩ := mBoundS (r.map t_Bound) c (by omega) (by omega) (by omega)
  obtain ⟨g', q, _, m2, d2, r0, _⟩ := mhStringS g 1 (by omega) (by omega) (by omega)
  have hj : Ev (fun k => laws_FnExactHoles.j0 k l r g g false) true := by
    refine Ev.step (fun k => by rw [laws_FnExactHoles.j0, if_neg (by decide)]) ?_
    exact Ev.bind m2 (Ev.bind d2 (ev_neg (by omega) (ev_pos rfl (Ev.bind tl (Ev.bind tr (Ev.bind him (Ev.bind eg (ev_pos rfl (Ev.bind d2 (ev_neg (by omega) (ev_pos rfl (Ev.now _))))))))))))
  exact Ev.bind tl (Ev.bind tr (Ev.bind hsp (Ev.bind tl (Ev.bind tr (Ev.bind him (Ev.bind eg (ev_pos rfl (Ev.bind tl (Ev.bind e1 (ev_pos rfl (Ev.bind tr (Ev.bind e2 (ev_pos rfl (Ev.bind m1 (Ev.bind mb (ev_neg (by show ¬ c' < 0; omega) (Ev.bind eg hj)))))))))))))))))
end Go.Proofs.YtcfeihimmboghaaGreatDoor.Pure

end
section
namespace Go.Proofs.YtcfeihimmboghaaGreatDoor.fnExactHoles
open Go.ChangeShapes Go.WideShapes Go.ChangeAt Go.RowKit Go.Proofs.YtcfeihimmboghaaGreatDoor Go.Proofs.YtcfeihimmboghaaGreatDoor.G Go.Proofs.YtcfeihimmboghaaGreatDoorW.PrintWords
open Go.ChangeMaps (open_string shut_string)
set_option linter.unusedVariables false
set_option linter.unusedSimpArgs false
theorem own : ownKnob Tryz.prog.godebug = none := by kernel_rfl
theorem laidOut : laidOutB Tryz.prog = true := by kernel_rfl
theorem opens133 : Op.Opens Tryz.prog 133 k133 (fun x_ => (x_.f0.size ≤ maxLen ∧ x_.f1.size ≤ maxLen)) := Op.opens_struct (g := (fun x : S133 => (x.f0, x.f1))) (by kernel_rfl) Tryz.underlying133 (fun a => ⟨⟨a.1, a.2⟩, rfl⟩) (Op.opensF_cons rfl (Op.opens_string (by kernel_rfl) Tryz.underlying9) (Op.opensF_one rfl (Op.opens_string (by kernel_rfl) Tryz.underlying9)))
set_option maxRecDepth 100000 in
theorem contract (H : Type) (enc : TypeId × Value → H) (W : World) (base : Nat) (args : Array Value) (ds gs : List (DataW H)) (before : List MemPlace)
    (hval : ∀ (j : Nat) t v, Tryz.f9.params[j]? = some t → args[j]? = some v → Value.okWide Tryz.prog W .any base t v)
    (hW : DataW.Whole enc Tryz.prog Tryz.f9.params.toList Rows.fnExactHolesSpec.vars false W args.toList ds gs before) (hFE : Glob FactE W) (hFM : Glob FactM W) (hFT : Glob FactT W) :
    Calls Tryz.prog 9 args W fun e W' => ∃ v, e = .returned v ∧ Rows.fnExactHolesSpec.post enc Tryz.prog Tryz.f9 false true false false W args v W' := by
  have hW' := hW
  obtain ⟨p, q, hA0, hV, rfl, hfz, hnd⟩ := hW
  have hA : DataW.TrodAll enc Tryz.prog W 0 (fun _ => true) true Tryz.f9.params.toList args.toList ds p := hA0
  rw [Tryz.params9] at hA hval
  obtain ⟨v0, vs0, d0, ds0, p0, q0, hargs, rfl, rfl, h0, r0⟩ := trodAll_cons hA
  obtain ⟨v1, vs1, d1, ds1, p1, q1, rfl, rfl, rfl, h1, r1⟩ := trodAll_cons r0
  obtain ⟨rfl, rfl, rfl⟩ := trodAll_nil r1
  obtain rfl : args = #[v0, v1] := by cases args; simp_all
  obtain ⟨rfl, rfl⟩ := trodVars_none hV
  obtain ⟨A0, len0, c0, rfl⟩ := okWide_slice Tryz.underlying40 (hval 0 40 v0 rfl rfl)
  have k0 := h0
  have lt0 : ∀ x ∈ p0, x.block < W.heap.size := by obtain ⟨m, hm⟩ := k0; exact DataW.trod_lt m _ _ _ hm
  obtain ⟨l0, rfl, hc0, hr0, z0⟩ := Op.arg_slice (Op.opens_slice (by kernel_rfl) Tryz.underlying40 (Op.opens_string (by kernel_rfl) Tryz.underlying9)) h0
  obtain ⟨A1, len1, c1, rfl⟩ := okWide_slice Tryz.underlying73 (hval 1 73 v1 rfl rfl)
  have k1 := h1
  have lt1 : ∀ x ∈ p1, x.block < W.heap.size := by obtain ⟨m, hm⟩ := k1; exact DataW.trod_lt m _ _ _ hm
  obtain ⟨l1, rfl, hc1, hr1, z1⟩ := Op.arg_slice (Op.opens_slice (by kernel_rfl) Tryz.underlying73 opens133) h1
  clear hA0
  obtain ⟨k, h⟩ := Pure.FnExactHoles l0 l1 z0 z1
  refine (laws_FnExactHoles.calls k A0 c0 l0 A1 c1 l1 true W hr0 hc0 hr1 hc1 hFE hFM hFT rfl h).mono fun e W' ⟨he, bel0⟩ => ?_
  have bel : Below W.heap.size W W' := bel0
  subst he
  exact ⟨_, rfl, _, _, _, [], _, [], hW', trodAll_mk1 (shut_bool Tryz.underlying4 _), (trodAll_cons_mk (Below.trod laidOut (by kernel_rfl) (of_decide_eq_true (by kernel_rfl)) k0 bel lt0) (trodAll_cons_mk (Below.trod laidOut (by kernel_rfl) (of_decide_eq_true (by kernel_rfl)) k1 bel lt1) trodAll_mk0)), rfl, bel.frame _, fun h => by cases h⟩
theorem laid_met (os : Os) : laidMet Tryz.prog Rows.fnExactHolesRow.laid ((Laid.world os).forCall (fun _ _ => 0) ⟨#[], #[.slice none 0 0, .slice none 0 0], []⟩).memory :=
  laidMet_of_run' Laid.fuel (by kernel_rfl) (by kernel_rfl)
theorem reads (os : Os) {H : Type} (enc : TypeId × Value → H) : ∃ places, DataW.whole enc Tryz.prog ((Laid.world os).forCall (fun _ _ => 0) ⟨#[], #[.slice none 0 0, .slice none 0 0], []⟩).memory Tryz.f9.params.toList Rows.fnExactHolesSpec.vars false (#[.slice none 0 0, .slice none 0 0] : Array Value).toList 8 = some ([.nil, .nil], [], places) :=
  ⟨[], by kernel_rfl⟩
set_option maxRecDepth 100000 in
theorem lifted (os : Os) (started : os.Started) (H : Type) (enc : TypeId × Value → H) (F : Stop.Interp) :
    ReturnsInHanded {} Tryz.checked os 9 .any ((OpenSpec.ofChange Rows.fnExactHolesSpec).preRow enc Tryz.prog Tryz.f9 Rows.fnExactHolesRow.domain false Rows.fnExactHolesRow.laid) (((OpenSpec.ofChange Rows.fnExactHolesSpec).at F).post enc Tryz.prog Tryz.f9 false true false false) := by
  obtain ⟨places, hx⟩ := reads os enc
  refine returnsInHanded_of_row (C := Tryz.checked) (s := OpenSpec.ofChange Rows.fnExactHolesSpec) own started (by kernel_rfl) Tryz.func9
    (witness_row_atRef (enc := enc) (C := Tryz.checked) false (Laid.world os) #[.slice none 0 0, .slice none 0 0] rfl (Laid.vars os _) (Laid.heap os _) (by kernel_rfl)
      (OpenSpec.preRow_of_cond 8 hx (by kernel_rfl) (fun k hk => by cases hk) (by kernel_rfl) (laid_met os))) ?_
  intro W base args ds gs before hval hW _ _ _ hL hS _
  exact contract H enc W base args ds gs before hval hW (FactE_of hS hL (fun h => h) (by repeat (first | exact List.Mem.head _ | apply List.Mem.tail)) (by repeat (first | exact List.Mem.head _ | apply List.Mem.tail))) (FactM_of hS hL) (FactT_of hS hL (fun h => h) (by repeat (first | exact List.Mem.head _ | apply List.Mem.tail)))
theorem j10 : (Rows.fnExactHolesRow.inPlace == Tryz.prog.inPlace 9) = true := by kernel_rfl
theorem j11 : (Rows.fnExactHolesRow.unfollowed == Tryz.prog.unfollowed 9) = true := by kernel_rfl
theorem j12 : (Rows.fnExactHolesRow.recurses == Tryz.prog.recurses 9) = true := by kernel_rfl
theorem j13 : (Rows.fnExactHolesRow.named == Tryz.prog.varsNamed 9) = true := by kernel_rfl
set_option maxRecDepth 100000 in
theorem closed : joinedFacts Tryz.prog 9 Tryz.f9 (OpenSpec.ofChange Rows.fnExactHolesSpec).bare Rows.fnExactHolesRow = true :=
  (Facts.and_mk (Facts.and_mk (Facts.and_mk (Facts.and_mk (Facts.and_mk (Facts.and_mk (Facts.and_mk (Facts.and_mk (Facts.and_mk (Facts.and_mk (Facts.and_mk (Facts.and_mk (Facts.and_mk (Facts.and_mk (Facts.and_mk (Facts.and_mk (Facts.and_mk (Facts.and_mk (Facts.and_mk (Facts.and_mk (Facts.and_mk (Facts.and_mk (Facts.and_mk (Facts.and_mk (Facts.and_mk (Facts.and_mk (Facts.and_mk (Facts.and_mk (Facts.and_mk (Facts.and_mk (Facts.and_mk (by kernel_rfl) Facts.laidOut) Facts.mapsRowed) (by kernel_rfl)) (by kernel_rfl)) (by kernel_rfl)) (by kernel_rfl)) (by kernel_rfl)) (by kernel_rfl)) j10) j11) j12) j13) (by kernel_rfl)) (by kernel_rfl)) (by kernel_rfl)) (by kernel_rfl)) (by kernel_rfl)) (by kernel_rfl)) (by kernel_rfl)) (by kernel_rfl)) (by kernel_rfl)) (Facts.plainKeys _ rfl)) (by kernel_rfl)) Facts.heard) Facts.mayEnter) (Facts.lifts _ rfl)) (Facts.make _ rfl)) (by kernel_rfl)) (by kernel_rfl)) (by kernel_rfl)) (by kernel_rfl))
theorem goes : false = Rows.fnExactHolesRow.goesBy Tryz.prog := by kernel_rfl
theorem said : Rows.FnExactHolesSaid :=
  OpenClaim.holds_of_cond 9 Tryz.f9 rfl rfl rfl rfl rfl rfl rfl ⟨rfl, rfl, rfl, rfl, rfl⟩ rfl rfl rfl rfl rfl (by kernel_rfl) Tryz.func9 closed
    (of_decide_eq_true (by kernel_rfl)) (by unfold Func.isWrapper; first | (rw [if_pos (by decide +kernel)]; kernel_rfl) | (rw [if_neg (by decide +kernel)]; exact ⟨rfl, rfl⟩))
    (fun os started H enc _ F => by rw [OpenClaim.pre_eq_preRow]; exact lifted os started H enc F)
theorem plain (f : FuncId) (fn : Func) (hf : Tryz.pinned.checked.prog.funcNamed "loop.example/g00445/laws.FnExactHoles" = some f) (hfn : Tryz.pinned.checked.prog.funcs[f]? = some fn) :
    true = Tryz.pinned.checked.prog.looks [] ∧ ∀ (j : Nat) t, fn.params[j]? = some t → Tryz.pinned.checked.prog.wantsStandIn t = false := by
  obtain rfl : f = 9 := Option.some.inj ((show Tryz.prog.funcNamed "loop.example/g00445/laws.FnExactHoles" = some 9 by kernel_rfl).symm.trans hf) |>.symm
  obtain rfl : fn = Tryz.f9 := (Option.some.inj (Tryz.func9.symm.trans hfn)).symm
  refine ⟨Facts.looks, fun j t ht => ?_⟩
  rw [Tryz.params9] at ht
  have hm := Array.mem_of_getElem? ht
  have hall : (#[40, 73] : Array TypeId).all (fun t => Tryz.prog.wantsStandIn t == false) = true := by kernel_rfl
  show Tryz.prog.wantsStandIn t = false
  have h1 := Array.all_eq_true'.1 hall t hm
  exact beq_iff_eq.1 h1
theorem proved : Rows.FnExactHolesCardSaid :=
  Claim7.holds_tied_plain_at .later [] _ _ _ _ said (fun _ h => by cases h) (by kernel_rfl) (fun _ h => by cases h) fnExactHoles_row_tie rfl ⟨rfl, rfl⟩ Facts.main rfl plain goes
end Go.Proofs.YtcfeihimmboghaaGreatDoor.fnExactHoles
namespace Go.Proofs.YtcfeihimmboghaaGreatDoor
theorem fnExactHoles_holds : Rows.FnExactHolesCardSaid := fnExactHoles.proved
end Go.Proofs.YtcfeihimmboghaaGreatDoor

end
