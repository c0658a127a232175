/- What is proved: at every string PutPercent of the program answers as PutPercent of the reference. Condition: the law's own bound on the string's length (2^20; beyond it the law answers true at once). -/
import Derived.Test.YtgfaphlpkjikkaaDoorPPct
import Derived.Test.YtgfaphlpkjikkaaDoorGlawsFnExactPutPercent
namespace Go.Proofs.YtgfaphlpkjikkaaDoor.Pure
open Go Go.RowKit Go.Proofs.YtgfaphlpkjikkaaDoorW.PrintWords Go.Proofs.YtgfaphlpkjikkaaDoor.G Go.Proofs.YtgfaphlpkjikkaaDoor.U

theorem FnExactPutPercent : laws_FnExactPutPercent.Pure := by
  intro s hs
  refine Ev.rounds (r := true) ?_
  unfold laws_FnExactPutPercent.f
  by_cases h : (s.size : Int) > 1048576
  · exact ev_pos h (Ev.now _)
  · refine ev_neg h ?_
    refine Ev.bind (spec_PutPercent_ev s (by omega)) ?_
    refine Ev.bind (impl_PutPercent_ev s (by omega)) ?_
    exact ev_pos rfl (Ev.now _)

end Go.Proofs.YtgfaphlpkjikkaaDoor.Pure
