/- What the law's helper toVersion answers. Written by wip/tools/mkhelp.py. -/
import Derived.Test.YtgfaphlpkjikkaaDoorPwVersion
import Derived.Test.YtgfaphlpkjikkaaDoorGlawstoVersion
import Derived.Test.YtgfaphlpkjikkaaDoorPtoStringS
namespace Go.Proofs.YtgfaphlpkjikkaaDoor.U
open Go Go.RowKit Go.Proofs.YtgfaphlpkjikkaaDoorW.PrintWords Go.Proofs.YtgfaphlpkjikkaaDoor.G
set_option linter.unusedVariables false
set_option maxRecDepth 100000
theorem toVersion_ok (f0 : Int)  (f1 : Int)  (f2 : Int)  (f3 : List ByteArray) (h3 : (f3.length ≤ maxLen ∧ ∀ x_ ∈ f3, x_.size ≤ maxLen)) (hw : w_Version f0 f1 f2 f3 ≤ 1048576) : Ev (fun k => laws_toVersion.f k f0 f1 f2 f3) (f0, f1, f2, f3) := by
  unfold laws_toVersion.f
  unfold w_Version at hw
  have nf3 := w_StringS_nonneg f3
  refine Ev.bind (toStringS_ok f3 h3 (by omega)) ?_
  exact Ev.now _

end Go.Proofs.YtgfaphlpkjikkaaDoor.U
