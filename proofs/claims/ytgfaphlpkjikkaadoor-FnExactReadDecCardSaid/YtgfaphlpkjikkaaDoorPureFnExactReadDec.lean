/- What is proved: at every string ReadDec of the program answers as ReadDec of the reference. Condition: the law's own bound on the string's length (2^20; beyond it the law answers true at once). -/
import Derived.Test.YtgfaphlpkjikkaaDoorPReadDec
import Derived.Test.YtgfaphlpkjikkaaDoorGlawsFnExactReadDec
namespace Go.Proofs.YtgfaphlpkjikkaaDoor.Pure
open Go Go.RowKit Go.Proofs.YtgfaphlpkjikkaaDoorW.PrintWords Go.Proofs.YtgfaphlpkjikkaaDoor.G Go.Proofs.YtgfaphlpkjikkaaDoor.U

theorem FnExactReadDec : laws_FnExactReadDec.Pure := by
  intro s hs
  refine Ev.rounds (r := true) ?_
  unfold laws_FnExactReadDec.f
  by_cases h : (s.size : Int) > 1048576
  · exact ev_pos h (Ev.now _)
  · refine ev_neg h ?_
    refine Ev.bind (spec_ReadDec_ev s (by omega)) ?_
    refine ev_const (impl_ReadDec_eq s (by omega)) ?_
    exact ev_pos rfl (Ev.now _)

end Go.Proofs.YtgfaphlpkjikkaaDoor.Pure
