/- The row of the law FnExactVersionOk, written by wip/tools/rows2.py: its Pure, the printed walk, the arguments opened. Conditions: the row's own. -/
import Derived.Test.YtgfaphlpkjikkaaDoorRows
import Derived.Test.YtgfaphlpkjikkaaDoorGlawsFnExactVersionOk
import Derived.Test.YtgfaphlpkjikkaaDoorPureFnExactVersionOk
import Derived.Test.YtgfaphlpkjikkaaDoorOp
import Derived.Test.YtgfaphlpkjikkaaDoorCards
import Derived.Test.YtgfaphlpkjikkaaDoorTie
import Derived.Test.YtgfaphlpkjikkaaDoorLaid
import Derived.Test.YtgfaphlpkjikkaaDoorFacts
import Derived.WalkKit
import Derived.ProofKit
import Derived.OpenShut
import Derived.ShutString
import Derived.ChangeOld
import Derived.Below
import Derived.SizedLaws
import Derived.Carry
import Derived.Deep.DeepHandedRow
import Derived.Deep.DeepWitnessRowRef
namespace Go.Proofs.YtgfaphlpkjikkaaDoor.fnExactVersionOk
open Go.ChangeShapes Go.WideShapes Go.ChangeAt Go.RowKit Go.Proofs.YtgfaphlpkjikkaaDoor Go.Proofs.YtgfaphlpkjikkaaDoor.G Go.Proofs.YtgfaphlpkjikkaaDoorW.PrintWords
open Go.ChangeMaps (open_string shut_string)
set_option linter.unusedVariables false
set_option linter.unusedSimpArgs false
theorem own : ownKnob Tryd.prog.godebug = none := by kernel_rfl
theorem laidOut : laidOutB Tryd.prog = true := by kernel_rfl
theorem opensArg0 : Op.Opens Tryd.prog 34 (Kd.iso (Kd.pair (Kd.int .i64) (Kd.pair (Kd.int .i64) (Kd.pair (Kd.int .i64) (Kd.slice 9 Kd.string)))) id) (fun y_ : Int × Int × Int × List ByteArray => ((Lit.int .i64 y_.1).wf = true ∧ ((Lit.int .i64 y_.2.1).wf = true ∧ ((Lit.int .i64 y_.2.2.1).wf = true ∧ (y_.2.2.2.length ≤ maxLen ∧ ∀ x_ ∈ y_.2.2.2, x_.size ≤ maxLen))))) := Op.opens_struct (g := id) (by kernel_rfl) Tryd.underlying34 (fun a => ⟨a, rfl⟩) (Op.opensF_cons rfl (Op.opens_int (by kernel_rfl) Tryd.underlying3) (Op.opensF_cons rfl (Op.opens_int (by kernel_rfl) Tryd.underlying3) (Op.opensF_cons rfl (Op.opens_int (by kernel_rfl) Tryd.underlying3) (Op.opensF_one rfl (Op.opens_slice (by kernel_rfl) Tryd.underlying26 (Op.opens_string (by kernel_rfl) Tryd.underlying9))))))
set_option maxRecDepth 100000 in
theorem contract (H : Type) (enc : TypeId × Value → H) (W : World) (base : Nat) (args : Array Value) (ds gs : List (DataW H)) (before : List MemPlace)
    (hval : ∀ (j : Nat) t v, Tryd.f11.params[j]? = some t → args[j]? = some v → Value.okWide Tryd.prog W .any base t v)
    (hW : DataW.Whole enc Tryd.prog Tryd.f11.params.toList Rows.fnExactVersionOkSpec.vars false W args.toList ds gs before) (hFE : Glob FactE W) (hFT : Glob FactT W) :
    Calls Tryd.prog 11 args W fun e W' => ∃ v, e = .returned v ∧ Rows.fnExactVersionOkSpec.post enc Tryd.prog Tryd.f11 false true false false W args v W' := by
  have hW' := hW
  obtain ⟨p, q, hA0, hV, rfl, hfz, hnd⟩ := hW
  have hA : DataW.TrodAll enc Tryd.prog W 0 (fun _ => true) true Tryd.f11.params.toList args.toList ds p := hA0
  rw [Tryd.params11] at hA hval
  obtain ⟨v0, vs0, d0, ds0, p0, q0, hargs, rfl, rfl, h0, r0⟩ := trodAll_cons hA
  obtain ⟨rfl, rfl, rfl⟩ := trodAll_nil r0
  obtain rfl : args = #[v0] := by cases args; simp_all
  obtain ⟨rfl, rfl⟩ := trodVars_none hV
  obtain ⟨cs0, rfl, _⟩ := okWide_struct Tryd.underlying34 (hval 0 34 v0 rfl rfl)
  have k0 := h0
  have lt0 : ∀ x ∈ p0, x.block < W.heap.size := by obtain ⟨m, hm⟩ := k0; exact DataW.trod_lt m _ _ _ hm
  obtain ⟨⟨a0_0, a0_1, a0_2, l0_3⟩, hK0, ⟨z0_0, z0_1, z0_2, z0_3⟩⟩ := Op.arg_struct opensArg0 h0
  have hK0_ : ((Kd.pair (Kd.int .i64) (Kd.pair (Kd.int .i64) (Kd.pair (Kd.int .i64) (Kd.slice 9 Kd.string))))).K W (a0_0, a0_1, a0_2, l0_3) cs0.toList := hK0
  obtain ⟨u0_0, w0_0, e0_0, kk0_0, m0_0⟩ := hK0_
  obtain rfl : u0_0 = _ := kk0_0
  obtain ⟨u0_1, w0_1, e0_1, kk0_1, m0_1⟩ := m0_0
  obtain rfl : u0_1 = _ := kk0_1
  obtain ⟨u0_2, w0_2, e0_2, kk0_2, m0_2⟩ := m0_1
  obtain rfl : u0_2 = _ := kk0_2
  obtain ⟨A0_3, c0_3, el0_3, hc0_3, hr0_3⟩ := m0_2
  obtain rfl : cs0 = #[.int .i64 a0_0, .int .i64 a0_1, .int .i64 a0_2, .slice A0_3 l0_3.length c0_3] := by
    apply Array.toList_inj.1
    rw [e0_0, e0_1, e0_2, el0_3]
    first | done | rfl
  clear hA0
  obtain ⟨k, h⟩ := Pure.FnExactVersionOk a0_0 a0_1 a0_2 l0_3 z0_0 z0_1 z0_2 z0_3
  refine (laws_FnExactVersionOk.calls k a0_0 a0_1 a0_2 A0_3 c0_3 l0_3 true W hr0_3 hc0_3 hFE hFT rfl h).mono fun e W' ⟨he, bel0⟩ => ?_
  have bel : Below W.heap.size W W' := bel0
  subst he
  exact ⟨_, rfl, _, _, _, [], _, [], hW', trodAll_mk1 (shut_bool Tryd.underlying4 _), (trodAll_cons_mk (Below.trod laidOut (by kernel_rfl) (of_decide_eq_true (by kernel_rfl)) k0 bel lt0) trodAll_mk0), rfl, bel.frame _, fun h => by cases h⟩
theorem laid_met (os : Os) : laidMet Tryd.prog Rows.fnExactVersionOkRow.laid ((Laid.world os).forCall (fun _ _ => 0) ⟨#[], #[.agg #[.int .i64 0, .int .i64 0, .int .i64 0, .slice none 0 0]], []⟩).memory :=
  laidMet_of_run' Laid.fuel (by kernel_rfl) (by kernel_rfl)
theorem reads (os : Os) {H : Type} (enc : TypeId × Value → H) : ∃ places, DataW.whole enc Tryd.prog ((Laid.world os).forCall (fun _ _ => 0) ⟨#[], #[.agg #[.int .i64 0, .int .i64 0, .int .i64 0, .slice none 0 0]], []⟩).memory Tryd.f11.params.toList Rows.fnExactVersionOkSpec.vars false (#[.agg #[.int .i64 0, .int .i64 0, .int .i64 0, .slice none 0 0]] : Array Value).toList 8 = some ([.agg [.lit (.int .i64 0), .lit (.int .i64 0), .lit (.int .i64 0), .nil]], [], places) :=
  ⟨[], by kernel_rfl⟩
set_option maxRecDepth 100000 in
theorem lifted (os : Os) (started : os.Started) (H : Type) (enc : TypeId × Value → H) (F : Stop.Interp) :
    ReturnsInHanded {} Tryd.checked os 11 .any ((OpenSpec.ofChange Rows.fnExactVersionOkSpec).preRow enc Tryd.prog Tryd.f11 Rows.fnExactVersionOkRow.domain false Rows.fnExactVersionOkRow.laid) (((OpenSpec.ofChange Rows.fnExactVersionOkSpec).at F).post enc Tryd.prog Tryd.f11 false true false false) := by
  obtain ⟨places, hx⟩ := reads os enc
  refine returnsInHanded_of_row (C := Tryd.checked) (s := OpenSpec.ofChange Rows.fnExactVersionOkSpec) own started (by kernel_rfl) Tryd.func11
    (witness_row_atRef (enc := enc) (C := Tryd.checked) false (Laid.world os) #[.agg #[.int .i64 0, .int .i64 0, .int .i64 0, .slice none 0 0]] rfl (Laid.vars os _) (Laid.heap os _) (by kernel_rfl)
      (OpenSpec.preRow_of_cond 8 hx (by kernel_rfl) (fun k hk => by cases hk) (by kernel_rfl) (laid_met os))) ?_
  intro W base args ds gs before hval hW _ _ _ hL hS _
  exact contract H enc W base args ds gs before hval hW (FactE_of hS hL (fun h => h) (by repeat (first | exact List.Mem.head _ | apply List.Mem.tail)) (by repeat (first | exact List.Mem.head _ | apply List.Mem.tail))) (FactT_of hS hL (fun h => h) (by repeat (first | exact List.Mem.head _ | apply List.Mem.tail)))
theorem j10 : (Rows.fnExactVersionOkRow.inPlace == Tryd.prog.inPlace 11) = true := by kernel_rfl
theorem j11 : (Rows.fnExactVersionOkRow.unfollowed == Tryd.prog.unfollowed 11) = true := by kernel_rfl
theorem j12 : (Rows.fnExactVersionOkRow.recurses == Tryd.prog.recurses 11) = true := by kernel_rfl
theorem j13 : (Rows.fnExactVersionOkRow.named == Tryd.prog.varsNamed 11) = true := by kernel_rfl
set_option maxRecDepth 100000 in
theorem closed : joinedFacts Tryd.prog 11 Tryd.f11 (OpenSpec.ofChange Rows.fnExactVersionOkSpec).bare Rows.fnExactVersionOkRow = true :=
  (Facts.and_mk (Facts.and_mk (Facts.and_mk (Facts.and_mk (Facts.and_mk (Facts.and_mk (Facts.and_mk (Facts.and_mk (Facts.and_mk (Facts.and_mk (Facts.and_mk (Facts.and_mk (Facts.and_mk (Facts.and_mk (Facts.and_mk (Facts.and_mk (Facts.and_mk (Facts.and_mk (Facts.and_mk (Facts.and_mk (Facts.and_mk (Facts.and_mk (Facts.and_mk (Facts.and_mk (Facts.and_mk (Facts.and_mk (Facts.and_mk (Facts.and_mk (Facts.and_mk (Facts.and_mk (Facts.and_mk (by kernel_rfl) Facts.laidOut) Facts.mapsRowed) (by kernel_rfl)) (by kernel_rfl)) (by kernel_rfl)) (by kernel_rfl)) (by kernel_rfl)) (by kernel_rfl)) j10) j11) j12) j13) (by kernel_rfl)) (by kernel_rfl)) (by kernel_rfl)) (by kernel_rfl)) (by kernel_rfl)) (by kernel_rfl)) (by kernel_rfl)) (by kernel_rfl)) (by kernel_rfl)) (Facts.plainKeys _ rfl)) (by kernel_rfl)) Facts.heard) Facts.mayEnter) (Facts.lifts _ rfl)) (Facts.make _ rfl)) (by kernel_rfl)) (by kernel_rfl)) (by kernel_rfl)) (by kernel_rfl))
theorem goes : false = Rows.fnExactVersionOkRow.goesBy Tryd.prog := by kernel_rfl
theorem said : Rows.FnExactVersionOkSaid :=
  OpenClaim.holds_of_cond 11 Tryd.f11 rfl rfl rfl rfl rfl rfl rfl ⟨rfl, rfl, rfl, rfl, rfl⟩ rfl rfl rfl rfl rfl (by kernel_rfl) Tryd.func11 closed
    (of_decide_eq_true (by kernel_rfl)) (by unfold Func.isWrapper; first | (rw [if_pos (by decide +kernel)]; kernel_rfl) | (rw [if_neg (by decide +kernel)]; exact ⟨rfl, rfl⟩))
    (fun os started H enc _ F => by rw [OpenClaim.pre_eq_preRow]; exact lifted os started H enc F)
theorem plain (f : FuncId) (fn : Func) (hf : Tryd.pinned.checked.prog.funcNamed "loop.example/g00445/laws.FnExactVersionOk" = some f) (hfn : Tryd.pinned.checked.prog.funcs[f]? = some fn) :
    true = Tryd.pinned.checked.prog.looks [] ∧ ∀ (j : Nat) t, fn.params[j]? = some t → Tryd.pinned.checked.prog.wantsStandIn t = false := by
  obtain rfl : f = 11 := Option.some.inj ((show Tryd.prog.funcNamed "loop.example/g00445/laws.FnExactVersionOk" = some 11 by kernel_rfl).symm.trans hf) |>.symm
  obtain rfl : fn = Tryd.f11 := (Option.some.inj (Tryd.func11.symm.trans hfn)).symm
  refine ⟨Facts.looks, fun j t ht => ?_⟩
  rw [Tryd.params11] at ht
  have hm := Array.mem_of_getElem? ht
  have hall : (#[34] : Array TypeId).all (fun t => Tryd.prog.wantsStandIn t == false) = true := by kernel_rfl
  show Tryd.prog.wantsStandIn t = false
  have h1 := Array.all_eq_true'.1 hall t hm
  exact beq_iff_eq.1 h1
theorem proved : Rows.FnExactVersionOkCardSaid :=
  Claim7.holds_tied_plain_at .later [] _ _ _ _ said (fun _ h => by cases h) (by kernel_rfl) (fun _ h => by cases h) fnExactVersionOk_row_tie rfl ⟨rfl, rfl⟩ Facts.main rfl plain goes
end Go.Proofs.YtgfaphlpkjikkaaDoor.fnExactVersionOk
namespace Go.Proofs.YtgfaphlpkjikkaaDoor
/-- The statement, under a short name, for the claim. -/
theorem fnExactVersionOk_holds : Rows.FnExactVersionOkCardSaid := fnExactVersionOk.proved
end Go.Proofs.YtgfaphlpkjikkaaDoor
