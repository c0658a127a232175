/- What Lines answers, of the program and of the reference: the pieces between the newlines, without a last empty one. -/
import Derived.Test.YtgfaphlpkjikkaaDoorPCut
import Derived.Test.YtgfaphlpkjikkaaDoorGspecLines
import Derived.Test.YtgfaphlpkjikkaaDoorGimplLines
namespace Go.Proofs.YtgfaphlpkjikkaaDoor.U
open Go Go.RowKit Go.Proofs.YtgfaphlpkjikkaaDoorW.PrintWords Go.Proofs.YtgfaphlpkjikkaaDoor.G
/-- The lines of a text. -/
def linesL (s : ByteArray) : List ByteArray := if (rdOf ByteArray.empty ((cutP 10 [] (L s)).map S) (wrap64 ((((cutP 10 [] (L s)).map S).length : Int) - 1))).toList = ([] : List UInt8) then (((cutP 10 [] (L s)).map S).take ((wrap64 ((((cutP 10 [] (L s)).map S).length : Int) - 1))).toNat) else (cutP 10 [] (L s)).map S
theorem linesL_len (s : ByteArray) : (linesL s).length ≤ (L s).length + 1 := by
  have := (cutP_len 10 (L s) []).2
  unfold linesL
  split
  · rw [List.length_take, List.length_map]; omega
  · rw [List.length_map]; exact this
theorem lines_some (s : ByteArray) (hs : s.size ≤ 1048576) (t : List ByteArray) (ht : t = (cutP 10 [] (L s)).map S) : (if 0 ≤ (wrap64 ((t.length : Int) - 1)) then (if (wrap64 ((t.length : Int) - 1)) < (t.length : Int) then (if (rdOf ByteArray.empty t (wrap64 ((t.length : Int) - 1))).toList = ([] : List UInt8) then (if (wrap64 ((t.length : Int) - 1)) ≤ (t.length : Int) then (some (t.take ((wrap64 ((t.length : Int) - 1))).toNat)) else none) else (some t)) else none) else none) = some (linesL s) := by
  have h := cutP_len 10 (L s) []
  rw [size_L] at hs
  have hl : t.length = (cutP 10 [] (L s)).length := by rw [ht, List.length_map]
  have e : wrap64 ((t.length : Int) - 1) = (t.length : Int) - 1 := w64 (by omega) (by omega)
  unfold linesL
  rw [← ht, if_pos (by rw [e]; omega), if_pos (by rw [e]; omega)]
  split
  · rw [if_pos (by rw [e]; omega)]
  · rfl
theorem spec_Lines_ev (s : ByteArray) (hs : s.size ≤ 1048576) : Ev (fun k => spec_Lines.f k s) (linesL s) := by
  unfold spec_Lines.f
  refine Ev.bind (spec_l01Cut_ev s 10 hs) ?_
  rw [lines_some s hs _ rfl]; exact Ev.now _
theorem impl_Lines_eq (s : ByteArray) (hs : s.size ≤ 1048576) : impl_Lines.f s = some (linesL s) := by
  unfold impl_Lines.f
  rw [show strings_Split.f s (⟨#[10]⟩ : ByteArray) = _ from split_one s 10 hs, Option.bind_some]
  exact lines_some s hs _ rfl
end Go.Proofs.YtgfaphlpkjikkaaDoor.U
