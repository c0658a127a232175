/- What is proved: at every string Unquote of the program answers as Unquote of the reference. Condition: the law's own bound on the string's length (2^20; beyond it the law answers true at once). -/
import Derived.Test.YtjjpiioagoeiiaaPUnquote2
import Derived.Test.YtjjpiioagoeiiaaGlawsFnExactUnquote
namespace Go.Proofs.Ytjjpiioagoeiiaa.Pure
open Go Go.RowKit Go.Proofs.YtjjpiioagoeiiaaW.PrintWords Go.Proofs.Ytjjpiioagoeiiaa.G Go.Proofs.Ytjjpiioagoeiiaa.U

theorem FnExactUnquote : laws_FnExactUnquote.Pure := by
  intro s i hs hi
  refine Ev.rounds (r := true) ?_
  unfold laws_FnExactUnquote.f
  by_cases h : (s.size : Int) > 1048576
  · exact ev_pos h (Ev.now _)
  · refine ev_neg h ?_
    refine Ev.bind (spec_Unquote_ev s i (by omega)) ?_
    refine Ev.bind (impl_Unquote_ev s i (by omega)) ?_
    exact ev_pos rfl (ev_pos rfl (Ev.now _))

end Go.Proofs.Ytjjpiioagoeiiaa.Pure
