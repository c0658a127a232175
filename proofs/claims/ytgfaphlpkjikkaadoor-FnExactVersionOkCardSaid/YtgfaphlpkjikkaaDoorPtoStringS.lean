/- What the law's helper toStringS answers. Written by wip/tools/mkhelp.py. -/
import Derived.Test.YtgfaphlpkjikkaaDoorU1
import Derived.Test.YtgfaphlpkjikkaaDoorGlawstoStringS
namespace Go.Proofs.YtgfaphlpkjikkaaDoor.U
open Go Go.RowKit Go.Proofs.YtgfaphlpkjikkaaDoorW.PrintWords Go.Proofs.YtgfaphlpkjikkaaDoor.G
set_option linter.unusedVariables false
set_option maxRecDepth 100000
theorem toStringS_ok (l : List ByteArray) (h : l.length ≤ maxLen ∧ ∀ x_ ∈ l, x_.size ≤ maxLen) (hw : w_StringS l ≤ 1048576) : Ev (fun k => laws_toStringS.f k l) (l) := by
  have hl := w_StringS_len l
  have e : ((l.length : Int)).toNat = l.length := Int.toNat_natCast _
  unfold laws_toStringS.f
  rw [e]
  refine ev_pos (by omega) (ev_pos (by omega) ?_)
  have := to_loop l ByteArray.empty (⟨#[]⟩ : ByteArray) id (fun k i st => laws_toStringS.l0 k l st i) h.1 ?_ ?_
  · rw [List.map_id] at this; exact this
  · intro k i st hi hs
    show laws_toStringS.l0 (k + 1) l st (i : Int) = _
    rw [laws_toStringS.l0, if_pos (by omega), if_pos (by omega), if_pos (by omega)]
    rfl
  · intro k st
    show laws_toStringS.l0 (k + 1) l st (l.length : Int) = _
    rw [laws_toStringS.l0, if_neg (by omega)]

end Go.Proofs.YtgfaphlpkjikkaaDoor.U
