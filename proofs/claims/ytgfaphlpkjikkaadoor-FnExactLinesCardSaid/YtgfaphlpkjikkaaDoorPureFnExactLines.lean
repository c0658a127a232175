/- What is proved: at every string Lines of the program answers as Lines of the reference, and two calls share no memory. Condition: the law's own bound on the string's length (2^20; beyond it the law answers true at once). -/
import Derived.Test.YtgfaphlpkjikkaaDoorPLines
import Derived.Test.YtgfaphlpkjikkaaDoorPTailStringS
import Derived.Test.YtgfaphlpkjikkaaDoorGlawsFnExactLines
namespace Go.Proofs.YtgfaphlpkjikkaaDoor.Pure
open Go Go.RowKit Go.Proofs.YtgfaphlpkjikkaaDoorW.PrintWords Go.Proofs.YtgfaphlpkjikkaaDoor.G Go.Proofs.YtgfaphlpkjikkaaDoor.U
theorem FnExactLines : laws_FnExactLines.Pure := by
  intro s _
  refine Ev.rounds (r := true) ?_
  unfold laws_FnExactLines.f
  by_cases h : (s.size : Int) > 1048576
  · exact ev_pos h (Ev.now _)
  · refine ev_neg h ?_
    have hs : s.size ≤ 1048576 := by omega
    have hn := linesL_len s
    rw [size_L] at hs
    exact tailStringS _ (by omega) _ _ (spec_Lines_ev s (by rw [size_L]; exact hs)) (impl_Lines_eq s (by rw [size_L]; exact hs) ▸ Ev.now _)
end Go.Proofs.YtgfaphlpkjikkaaDoor.Pure
