/- What is proved: at every string Place of the program answers as Place of the reference. Condition: the law's own bound on the string's length (2^20; beyond it the law answers true at once). -/
import Derived.Test.YtjjpiioagoeiiaaPPlace
import Derived.Test.YtjjpiioagoeiiaaGlawsFnExactPlace
namespace Go.Proofs.Ytjjpiioagoeiiaa.Pure
open Go Go.RowKit Go.Proofs.YtjjpiioagoeiiaaW.PrintWords Go.Proofs.Ytjjpiioagoeiiaa.G Go.Proofs.Ytjjpiioagoeiiaa.U

theorem FnExactPlace : laws_FnExactPlace.Pure := by
  intro s i hs hi
  refine Ev.rounds (r := true) ?_
  unfold laws_FnExactPlace.f
  by_cases h : (s.size : Int) > 1048576
  · exact ev_pos h (Ev.now _)
  · refine ev_neg h ?_
    refine Ev.bind (spec_Place_ev s i (by omega)) ?_
    refine ev_const (impl_Place_eq s i (by omega)) ?_
    exact ev_pos rfl (ev_pos rfl (Ev.now _))

end Go.Proofs.Ytjjpiioagoeiiaa.Pure
