/- What the law's helper szVersion answers. Written by wip/tools/mkhelp.py. -/
import Derived.Test.YtgfaphlpkjikkaaDoorPwVersion
import Derived.Test.YtgfaphlpkjikkaaDoorGlawsszVersion
import Derived.Test.YtgfaphlpkjikkaaDoorPszStringS
namespace Go.Proofs.YtgfaphlpkjikkaaDoor.U
open Go Go.RowKit Go.Proofs.YtgfaphlpkjikkaaDoorW.PrintWords Go.Proofs.YtgfaphlpkjikkaaDoor.G
set_option linter.unusedVariables false
set_option maxRecDepth 100000
theorem szVersion_ok (f0 : Int)  (f1 : Int)  (f2 : Int)  (f3 : List ByteArray) (h3 : (f3.length ≤ maxLen ∧ ∀ x_ ∈ f3, x_.size ≤ maxLen)) : Sz (fun k left => laws_szVersion.f k f0 f1 f2 f3 left) (w_Version f0 f1 f2 f3) := by
  refine ⟨w_Version_nonneg f0 f1 f2 f3, fun left hr => ?_⟩
  show Ev (fun k => laws_szVersion.f k f0 f1 f2 f3 left) _
  unfold laws_szVersion.f w_Version
  have nf3 := w_StringS_nonneg f3
  refine sz_call (g := fun k left => laws_szStringS.f k f3 left) (szStringS_ok f3 h3) hr (by omega) fun hb hr => ?_
  exact sz_done hr

end Go.Proofs.YtgfaphlpkjikkaaDoor.U
