/- What the law's helper eqVersion answers. Written by wip/tools/mkhelp.py. -/
import Derived.Test.YtgfaphlpkjikkaaDoorU1
import Derived.Test.YtgfaphlpkjikkaaDoorGlawseqVersion
import Derived.Test.YtgfaphlpkjikkaaDoorPeqStringS
namespace Go.Proofs.YtgfaphlpkjikkaaDoor.U
open Go Go.RowKit Go.Proofs.YtgfaphlpkjikkaaDoorW.PrintWords Go.Proofs.YtgfaphlpkjikkaaDoor.G
set_option linter.unusedVariables false
set_option maxRecDepth 100000
theorem eqVersion_ok (f0 : Int)  (f1 : Int)  (f2 : Int)  (f3 : List ByteArray) (h3 : f3.length ≤ maxLen) : Ev (fun k => laws_eqVersion.f k f0 f1 f2 f3 f0 f1 f2 f3) true := by
  unfold laws_eqVersion.f
  refine ev_pos rfl ?_
  refine ev_pos rfl ?_
  refine ev_pos rfl ?_
  refine Ev.bind (eqStringS_ok f3 h3) ?_
  refine ev_pos rfl ?_
  exact Ev.now _

end Go.Proofs.YtgfaphlpkjikkaaDoor.U
