/- What is proved: at every version VersionOk of the program answers as VersionOk of the reference, and leaves its argument whole. Condition: the law's own bound on the version's size (2^20; beyond it the law answers true at once). -/
import Derived.Test.YtgfaphlpkjikkaaDoorPVok
import Derived.Test.YtgfaphlpkjikkaaDoorPszVersion
import Derived.Test.YtgfaphlpkjikkaaDoorPtoVersion
import Derived.Test.YtgfaphlpkjikkaaDoorPeqVersion
import Derived.Test.YtgfaphlpkjikkaaDoorGlawsFnExactVersionOk
namespace Go.Proofs.YtgfaphlpkjikkaaDoor.Pure
open Go Go.RowKit Go.Proofs.YtgfaphlpkjikkaaDoorW.PrintWords Go.Proofs.YtgfaphlpkjikkaaDoor.G Go.Proofs.YtgfaphlpkjikkaaDoor.U

theorem FnExactVersionOk : laws_FnExactVersionOk.Pure := by
  intro a b c l ha hb hc hl
  refine Ev.rounds (r := true) ?_
  unfold laws_FnExactVersionOk.f
  refine law_sz (szVersion_ok a b c l hl) fun hw => ?_
  have ht := toVersion_ok a b c l hl hw
  have hlen : l.length ≤ 1125899906842624 := by unfold w_Version at hw; have := w_StringS_len l; omega
  have hs : ∀ x ∈ l, x.size ≤ 1099511627776 := fun x hx => by unfold w_Version at hw; have := w_StringS_mem hx; omega
  refine Ev.bind ht (Ev.bind (spec_VersionOk_ev a b c l hlen hs) (Ev.bind ht (Ev.bind (impl_VersionOk_ev a b c l hlen hs) (ev_neg (by simp) (Ev.bind ht (Ev.bind (eqVersion_ok a b c l hl.1) ?_))))))
  exact ev_pos rfl (Ev.now _)
end Go.Proofs.YtgfaphlpkjikkaaDoor.Pure
