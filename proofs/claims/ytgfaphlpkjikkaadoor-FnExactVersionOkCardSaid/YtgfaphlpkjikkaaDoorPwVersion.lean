/- What the law's helper wVersion answers. Written by wip/tools/mkhelp.py. -/
import Derived.Test.YtgfaphlpkjikkaaDoorU1
import Derived.Test.YtgfaphlpkjikkaaDoorG0
namespace Go.Proofs.YtgfaphlpkjikkaaDoor.U
open Go Go.RowKit Go.Proofs.YtgfaphlpkjikkaaDoorW.PrintWords Go.Proofs.YtgfaphlpkjikkaaDoor.G
set_option linter.unusedVariables false
set_option maxRecDepth 100000
def w_Version (f0 : Int) (f1 : Int) (f2 : Int) (f3 : List ByteArray) : Int := w_StringS f3 + (0)
theorem w_Version_nonneg (f0 : Int) (f1 : Int) (f2 : Int) (f3 : List ByteArray) : 0 ≤ w_Version f0 f1 f2 f3 := by
  unfold w_Version
  have := w_StringS_nonneg f3
  omega

end Go.Proofs.YtgfaphlpkjikkaaDoor.U
