/- What is proved: at every int DecText of the program answers as DecText of the reference. No condition. -/
import Derived.Test.YtgfaphlpkjikkaaDoorPDec
import Derived.Test.YtgfaphlpkjikkaaDoorGlawsFnExactDecText
namespace Go.Proofs.YtgfaphlpkjikkaaDoor.Pure
open Go Go.RowKit Go.Proofs.YtgfaphlpkjikkaaDoorW.PrintWords Go.Proofs.YtgfaphlpkjikkaaDoor.G Go.Proofs.YtgfaphlpkjikkaaDoor.U
theorem FnExactDecText : laws_FnExactDecText.Pure := by
  intro n hn
  refine Ev.rounds (r := true) ?_
  have h0 : -9223372036854775808 ≤ n ∧ n ≤ 9223372036854775807 := by
    have h := hn
    unfold Lit.wf at h
    rw [Bool.and_eq_true, decide_eq_true_eq, decide_eq_true_eq] at h
    exact h
  unfold laws_FnExactDecText.f
  refine Ev.bind (spec_DecText_ev n h0.1 h0.2) ?_
  refine ev_const (impl_DecText_eq n h0.1 h0.2) ?_
  exact ev_pos rfl (Ev.now _)
end Go.Proofs.YtgfaphlpkjikkaaDoor.Pure
