/- What Words answers, of the program and of the reference: the pieces between the spaces. -/
import Derived.Test.YtgfaphlpkjikkaaDoorPCut
import Derived.Test.YtgfaphlpkjikkaaDoorGspecWords
import Derived.Test.YtgfaphlpkjikkaaDoorGimplWords
namespace Go.Proofs.YtgfaphlpkjikkaaDoor.U
open Go Go.RowKit Go.Proofs.YtgfaphlpkjikkaaDoorW.PrintWords Go.Proofs.YtgfaphlpkjikkaaDoor.G
theorem spec_Words_ev (s : ByteArray) (hs : s.size ≤ 1048576) : Ev (fun k => spec_Words.f k s) ((cutP 32 [] (L s)).map S) := by
  unfold spec_Words.f
  exact Ev.bind (spec_l01Cut_ev s 32 hs) (Ev.now _)
theorem impl_Words_eq (s : ByteArray) (hs : s.size ≤ 1048576) : impl_Words.f s = some ((cutP 32 [] (L s)).map S) := by
  unfold impl_Words.f
  rw [show strings_Split.f s (⟨#[32]⟩ : ByteArray) = _ from split_one s 32 hs]; rfl
end Go.Proofs.YtgfaphlpkjikkaaDoor.U
