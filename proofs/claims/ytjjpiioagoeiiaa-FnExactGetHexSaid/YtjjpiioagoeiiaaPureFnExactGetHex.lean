/- What is proved: at every string GetHex of the program answers as GetHex of the reference. Condition: the law's own bound on the string's length (2^20; beyond it the law answers true at once). -/
import Derived.Test.YtjjpiioagoeiiaaPGetHex
import Derived.Test.YtjjpiioagoeiiaaGlawsFnExactGetHex
namespace Go.Proofs.Ytjjpiioagoeiiaa.Pure
open Go Go.RowKit Go.Proofs.YtjjpiioagoeiiaaW.PrintWords Go.Proofs.Ytjjpiioagoeiiaa.G Go.Proofs.Ytjjpiioagoeiiaa.U

theorem FnExactGetHex : laws_FnExactGetHex.Pure := by
  intro s hs
  refine Ev.rounds (r := true) ?_
  unfold laws_FnExactGetHex.f
  by_cases h : (s.size : Int) > 1048576
  · exact ev_pos h (Ev.now _)
  · refine ev_neg h ?_
    refine Ev.bind (spec_GetHex_ev s (by omega)) ?_
    refine Ev.bind (impl_GetHex_ev s (by omega)) ?_
    exact ev_pos rfl (ev_neg (by simp) (Ev.now _))

end Go.Proofs.Ytjjpiioagoeiiaa.Pure
