/- What is proved: at every string Quote of the program answers as Quote of the reference. Condition: the law's own bound on the string's length (2^20; beyond it the law answers true at once). -/
import Derived.Test.YtjjpiioagoeiiaaPQuote
import Derived.Test.YtjjpiioagoeiiaaGlawsFnExactQuote
namespace Go.Proofs.Ytjjpiioagoeiiaa.Pure
open Go Go.RowKit Go.Proofs.YtjjpiioagoeiiaaW.PrintWords Go.Proofs.Ytjjpiioagoeiiaa.G Go.Proofs.Ytjjpiioagoeiiaa.U

theorem FnExactQuote : laws_FnExactQuote.Pure := by
  intro s hs
  refine Ev.rounds (r := true) ?_
  unfold laws_FnExactQuote.f
  by_cases h : (s.size : Int) > 1048576
  · exact ev_pos h (Ev.now _)
  · refine ev_neg h ?_
    refine Ev.bind (spec_Quote_ev s (by omega)) ?_
    refine Ev.bind (impl_Quote_ev s (by omega)) ?_
    exact ev_pos rfl (Ev.now _)

end Go.Proofs.Ytjjpiioagoeiiaa.Pure
