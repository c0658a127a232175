/- What is proved: at every string GetPercent of the program answers as GetPercent of the reference. Condition: the law's own bound on the string's length (2^20; beyond it the law answers true at once). -/
import Derived.Test.YtgfaphlpkjikkaaDoorPGetPct
import Derived.Test.YtgfaphlpkjikkaaDoorGlawsFnExactGetPercent
namespace Go.Proofs.YtgfaphlpkjikkaaDoor.Pure
open Go Go.RowKit Go.Proofs.YtgfaphlpkjikkaaDoorW.PrintWords Go.Proofs.YtgfaphlpkjikkaaDoor.G Go.Proofs.YtgfaphlpkjikkaaDoor.U

theorem FnExactGetPercent : laws_FnExactGetPercent.Pure := by
  intro s hs
  refine Ev.rounds (r := true) ?_
  unfold laws_FnExactGetPercent.f
  by_cases h : (s.size : Int) > 1048576
  · exact ev_pos h (Ev.now _)
  · refine ev_neg h ?_
    refine Ev.bind (spec_GetPercent_ev s (by omega)) ?_
    refine Ev.bind (impl_GetPercent_ev s (by omega)) ?_
    exact ev_pos rfl (ev_neg (by simp) (Ev.now _))

end Go.Proofs.YtgfaphlpkjikkaaDoor.Pure
