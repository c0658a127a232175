/- What is proved: at every string Indent of the program answers as Indent of the reference. Condition: the law's own bound on the string's length (2^20; beyond it the law answers true at once). -/
import Derived.Test.YtgfaphlpkjikkaaDoorPIndent
import Derived.Test.YtgfaphlpkjikkaaDoorGlawsFnExactIndent
namespace Go.Proofs.YtgfaphlpkjikkaaDoor.Pure
open Go Go.RowKit Go.Proofs.YtgfaphlpkjikkaaDoorW.PrintWords Go.Proofs.YtgfaphlpkjikkaaDoor.G Go.Proofs.YtgfaphlpkjikkaaDoor.U
theorem FnExactIndent : laws_FnExactIndent.Pure := by
  intro s _
  refine Ev.rounds (r := true) ?_
  unfold laws_FnExactIndent.f
  by_cases h : (s.size : Int) > 1048576
  · exact ev_pos h (Ev.now _)
  · refine ev_neg h ?_
    refine Ev.bind (spec_Indent_ev s (by omega)) ?_
    refine ev_const (impl_Indent_eq s (by omega)) ?_
    exact ev_pos rfl (Ev.now _)
end Go.Proofs.YtgfaphlpkjikkaaDoor.Pure
