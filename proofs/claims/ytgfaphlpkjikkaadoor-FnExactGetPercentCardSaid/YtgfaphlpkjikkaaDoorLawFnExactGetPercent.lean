/- The row of the law FnExactGetPercent, written by wip/tools/rows2.py: its Pure, the printed walk, the arguments opened. Conditions: the row's own. -/
import Derived.Test.YtgfaphlpkjikkaaDoorRows
import Derived.Test.YtgfaphlpkjikkaaDoorGlawsFnExactGetPercent
import Derived.Test.YtgfaphlpkjikkaaDoorPureFnExactGetPercent
import Derived.Test.YtgfaphlpkjikkaaDoorOp
import Derived.Test.YtgfaphlpkjikkaaDoorCards
import Derived.Test.YtgfaphlpkjikkaaDoorTie
import Derived.Test.YtgfaphlpkjikkaaDoorLaid
import Derived.Test.YtgfaphlpkjikkaaDoorFacts
import Derived.WalkKit
import Derived.ProofKit
import Derived.OpenShut
import Derived.ShutString
import Derived.ChangeOld
import Derived.Below
import Derived.SizedLaws
import Derived.Carry
import Derived.Deep.DeepHandedRow
import Derived.Deep.DeepWitnessRowRef
namespace Go.Proofs.YtgfaphlpkjikkaaDoor.fnExactGetPercent
open Go.ChangeShapes Go.WideShapes Go.ChangeAt Go.RowKit Go.Proofs.YtgfaphlpkjikkaaDoor Go.Proofs.YtgfaphlpkjikkaaDoor.G Go.Proofs.YtgfaphlpkjikkaaDoorW.PrintWords
open Go.ChangeMaps (open_string shut_string)
set_option linter.unusedVariables false
set_option linter.unusedSimpArgs false
theorem own : ownKnob Tryd.prog.godebug = none := by kernel_rfl
set_option maxRecDepth 100000 in
theorem contract (H : Type) (enc : TypeId × Value → H) (W : World) (base : Nat) (args : Array Value) (ds gs : List (DataW H)) (before : List MemPlace)
    (hval : ∀ (j : Nat) t v, Tryd.f9.params[j]? = some t → args[j]? = some v → Value.okWide Tryd.prog W .any base t v)
    (hW : DataW.Whole enc Tryd.prog Tryd.f9.params.toList Rows.fnExactGetPercentSpec.vars false W args.toList ds gs before) (hFC : Glob FactC W) :
    Calls Tryd.prog 9 args W fun e W' => ∃ v, e = .returned v ∧ Rows.fnExactGetPercentSpec.post enc Tryd.prog Tryd.f9 false true false false W args v W' := by
  have hW' := hW
  obtain ⟨p, q, hA0, hV, rfl, hfz, hnd⟩ := hW
  have hA : DataW.TrodAll enc Tryd.prog W 0 (fun _ => true) true Tryd.f9.params.toList args.toList ds p := hA0
  rw [Tryd.params9] at hA hval
  obtain ⟨v0, vs0, d0, ds0, p0, q0, hargs, rfl, rfl, h0, r0⟩ := trodAll_cons hA
  obtain ⟨rfl, rfl, rfl⟩ := trodAll_nil r0
  obtain rfl : args = #[v0] := by cases args; simp_all
  obtain ⟨rfl, rfl⟩ := trodVars_none hV
  obtain ⟨a0, rfl, rfl, rfl, y0⟩ := open_string Tryd.underlying9 (hval 0 9 v0 rfl rfl) h0
  clear hA0
  obtain ⟨k, h⟩ := Pure.FnExactGetPercent a0 y0
  refine (laws_FnExactGetPercent.calls k a0 true W hFC rfl h).mono fun e W' ⟨he, bel0⟩ => ?_
  have bel : Below W.heap.size W W' := bel0
  subst he
  exact ⟨_, rfl, _, _, _, [], _, [], hW', trodAll_mk1 (shut_bool Tryd.underlying4 _), (trodAll_cons_mk (shut_string Tryd.underlying9 y0) trodAll_mk0), rfl, bel.frame _, fun h => by cases h⟩
set_option maxRecDepth 100000 in
theorem laid_met (os : Os) : laidMet Tryd.prog Rows.fnExactGetPercentRow.laid ((Laid.world os).forCall (fun _ _ => 0) ⟨#[], #[.string ByteArray.empty], []⟩).memory := by
  have h := Go.Proofs.laidMet_with_case (ρ := Tryd.lays159_ren) (show Go.Proofs.Lays.n274 Tryd.prog Tryd.lays159_ren from { Tryd.lays159 with }) (by kernel_rfl) Go.Proofs.YtgfaphlpkjikkaaDoor.G.caseExtra (w := ((Laid.world os).forCall (fun _ _ => 0) ⟨#[], #[.string ByteArray.empty], []⟩).memory) (l := [("unicode/utf8.acceptRanges", Rows.laid_unicode_utf8_acceptRanges)] ++ [("unicode/utf8.first", Rows.laid_unicode_utf8_first)]) Laid.fuel
    (by kernel_rfl) (by kernel_rfl) (by kernel_rfl) (Laid.R os) Laid.T (Laid.R_ne os) (by kernel_rfl) (by kernel_rfl) (by kernel_rfl)
  rw [← Pinned.caseRanges_eq] at h
  exact Laid.mid h
theorem reads (os : Os) {H : Type} (enc : TypeId × Value → H) : ∃ places, DataW.whole enc Tryd.prog ((Laid.world os).forCall (fun _ _ => 0) ⟨#[], #[.string ByteArray.empty], []⟩).memory Tryd.f9.params.toList Rows.fnExactGetPercentSpec.vars false (#[.string ByteArray.empty] : Array Value).toList 8 = some ([.lit (.string [])], [], places) :=
  ⟨[], by kernel_rfl⟩
set_option maxRecDepth 100000 in
theorem lifted (os : Os) (started : os.Started) (H : Type) (enc : TypeId × Value → H) (F : Stop.Interp) :
    ReturnsInHanded {} Tryd.checked os 9 .any ((OpenSpec.ofChange Rows.fnExactGetPercentSpec).preRow enc Tryd.prog Tryd.f9 Rows.fnExactGetPercentRow.domain false Rows.fnExactGetPercentRow.laid) (((OpenSpec.ofChange Rows.fnExactGetPercentSpec).at F).post enc Tryd.prog Tryd.f9 false true false false) := by
  obtain ⟨places, hx⟩ := reads os enc
  refine returnsInHanded_of_row (C := Tryd.checked) (s := OpenSpec.ofChange Rows.fnExactGetPercentSpec) own started (by kernel_rfl) Tryd.func9
    (witness_row_atRef (enc := enc) (C := Tryd.checked) false (Laid.world os) #[.string ByteArray.empty] rfl (Laid.vars os _) (Laid.heap os _) (by kernel_rfl)
      (OpenSpec.preRow_of_cond 8 hx (by kernel_rfl) (fun k hk => by cases hk) (by kernel_rfl) (laid_met os))) ?_
  intro W base args ds gs before hval hW _ _ _ hL hS _
  exact contract H enc W base args ds gs before hval hW (FactC_of hS hL (fun h => h) (by repeat (first | exact List.Mem.head _ | apply List.Mem.tail)) (by repeat (first | exact List.Mem.head _ | apply List.Mem.tail)) (by repeat (first | exact List.Mem.head _ | apply List.Mem.tail)) rfl rfl (by kernel_rfl))
theorem j10 : (Rows.fnExactGetPercentRow.inPlace == Tryd.prog.inPlace 9) = true := by kernel_rfl
theorem j11 : (Rows.fnExactGetPercentRow.unfollowed == Tryd.prog.unfollowed 9) = true := by kernel_rfl
theorem j12 : (Rows.fnExactGetPercentRow.recurses == Tryd.prog.recurses 9) = true := by kernel_rfl
theorem j13 : (Rows.fnExactGetPercentRow.named == Tryd.prog.varsNamed 9) = true := by kernel_rfl
set_option maxRecDepth 100000 in
theorem closed : joinedFacts Tryd.prog 9 Tryd.f9 (OpenSpec.ofChange Rows.fnExactGetPercentSpec).bare Rows.fnExactGetPercentRow = true :=
  (Facts.and_mk (Facts.and_mk (Facts.and_mk (Facts.and_mk (Facts.and_mk (Facts.and_mk (Facts.and_mk (Facts.and_mk (Facts.and_mk (Facts.and_mk (Facts.and_mk (Facts.and_mk (Facts.and_mk (Facts.and_mk (Facts.and_mk (Facts.and_mk (Facts.and_mk (Facts.and_mk (Facts.and_mk (Facts.and_mk (Facts.and_mk (Facts.and_mk (Facts.and_mk (Facts.and_mk (Facts.and_mk (Facts.and_mk (Facts.and_mk (Facts.and_mk (Facts.and_mk (Facts.and_mk (Facts.and_mk (by kernel_rfl) Facts.laidOut) Facts.mapsRowed) (by kernel_rfl)) (by kernel_rfl)) (by kernel_rfl)) (by kernel_rfl)) (by kernel_rfl)) (by kernel_rfl)) j10) j11) j12) j13) (by kernel_rfl)) (by kernel_rfl)) (by kernel_rfl)) (by kernel_rfl)) (by kernel_rfl)) (by kernel_rfl)) (by kernel_rfl)) (by kernel_rfl)) (by kernel_rfl)) (Facts.plainKeys _ rfl)) (by kernel_rfl)) Facts.heard) Facts.mayEnter) (Facts.lifts _ rfl)) (Facts.make _ rfl)) (by kernel_rfl)) (by kernel_rfl)) (by kernel_rfl)) (by kernel_rfl))
theorem goes : false = Rows.fnExactGetPercentRow.goesBy Tryd.prog := by kernel_rfl
theorem said : Rows.FnExactGetPercentSaid :=
  OpenClaim.holds_of_cond 9 Tryd.f9 rfl rfl rfl rfl rfl rfl rfl ⟨rfl, rfl, rfl, rfl, rfl⟩ rfl rfl rfl rfl rfl (by kernel_rfl) Tryd.func9 closed
    (of_decide_eq_true (by kernel_rfl)) (by unfold Func.isWrapper; first | (rw [if_pos (by decide +kernel)]; kernel_rfl) | (rw [if_neg (by decide +kernel)]; exact ⟨rfl, rfl⟩))
    (fun os started H enc _ F => by rw [OpenClaim.pre_eq_preRow]; exact lifted os started H enc F)
theorem plain (f : FuncId) (fn : Func) (hf : Tryd.pinned.checked.prog.funcNamed "loop.example/g00445/laws.FnExactGetPercent" = some f) (hfn : Tryd.pinned.checked.prog.funcs[f]? = some fn) :
    true = Tryd.pinned.checked.prog.looks [] ∧ ∀ (j : Nat) t, fn.params[j]? = some t → Tryd.pinned.checked.prog.wantsStandIn t = false := by
  obtain rfl : f = 9 := Option.some.inj ((show Tryd.prog.funcNamed "loop.example/g00445/laws.FnExactGetPercent" = some 9 by kernel_rfl).symm.trans hf) |>.symm
  obtain rfl : fn = Tryd.f9 := (Option.some.inj (Tryd.func9.symm.trans hfn)).symm
  refine ⟨Facts.looks, fun j t ht => ?_⟩
  rw [Tryd.params9] at ht
  have hm := Array.mem_of_getElem? ht
  have hall : (#[9] : Array TypeId).all (fun t => Tryd.prog.wantsStandIn t == false) = true := by kernel_rfl
  show Tryd.prog.wantsStandIn t = false
  have h1 := Array.all_eq_true'.1 hall t hm
  exact beq_iff_eq.1 h1
theorem proved : Rows.FnExactGetPercentCardSaid :=
  Claim7.holds_tied_plain_at .later [] _ _ _ _ said (fun _ h => by cases h) (by kernel_rfl) (fun _ h => by cases h) fnExactGetPercent_row_tie rfl ⟨rfl, rfl⟩ Facts.main rfl plain goes
end Go.Proofs.YtgfaphlpkjikkaaDoor.fnExactGetPercent
namespace Go.Proofs.YtgfaphlpkjikkaaDoor
/-- The statement, under a short name, for the claim. -/
theorem fnExactGetPercent_holds : Rows.FnExactGetPercentCardSaid := fnExactGetPercent.proved
end Go.Proofs.YtgfaphlpkjikkaaDoor
