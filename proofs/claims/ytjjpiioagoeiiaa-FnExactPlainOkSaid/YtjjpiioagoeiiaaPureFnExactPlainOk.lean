/- What is proved: at every string PlainOk of the program answers as PlainOk of the reference. Condition: the law's own bound on the string's length (2^20; beyond it the law answers true at once). -/
import Derived.Test.YtjjpiioagoeiiaaPPlain
import Derived.Test.YtjjpiioagoeiiaaGlawsFnExactPlainOk
namespace Go.Proofs.Ytjjpiioagoeiiaa.Pure
open Go Go.RowKit Go.Proofs.YtjjpiioagoeiiaaW.PrintWords Go.Proofs.Ytjjpiioagoeiiaa.G Go.Proofs.Ytjjpiioagoeiiaa.U

theorem FnExactPlainOk : laws_FnExactPlainOk.Pure := by
  intro s hs
  refine Ev.rounds (r := true) ?_
  unfold laws_FnExactPlainOk.f
  by_cases h : (s.size : Int) > 1048576
  · exact ev_pos h (Ev.now _)
  · refine ev_neg h ?_
    refine Ev.bind (spec_PlainOk_ev s (by omega)) ?_
    refine Ev.bind (impl_PlainOk_ev s (by omega)) ?_
    exact ev_neg (by simp) (Ev.now _)

end Go.Proofs.Ytjjpiioagoeiiaa.Pure
