/- What is proved: at every string GetBase64 of the program answers as GetBase64 of the reference. Condition: the law's own bound on the string's length (2^20; beyond it the law answers true at once). -/
import Derived.Test.YtgfaphlpkjikkaaDoorPGetB64i
import Derived.Test.YtgfaphlpkjikkaaDoorGlawsFnExactGetBase64
namespace Go.Proofs.YtgfaphlpkjikkaaDoor.Pure
open Go Go.RowKit Go.Proofs.YtgfaphlpkjikkaaDoorW.PrintWords Go.Proofs.YtgfaphlpkjikkaaDoor.G Go.Proofs.YtgfaphlpkjikkaaDoor.U
theorem FnExactGetBase64 : laws_FnExactGetBase64.Pure := by
  intro s _
  refine Ev.rounds (r := true) ?_
  unfold laws_FnExactGetBase64.f
  by_cases h : (s.size : Int) > 1048576
  · exact ev_pos h (Ev.now _)
  · refine ev_neg h ?_
    refine Ev.bind (spec_GetBase64_ev s (by omega)) ?_
    refine Ev.bind (impl_GetBase64_ev s (by omega)) ?_
    refine ev_pos rfl ?_
    exact ev_neg (by simp) (Ev.now _)
end Go.Proofs.YtgfaphlpkjikkaaDoor.Pure
