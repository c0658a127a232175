/- The tail of a law whose function answers a list of strings: equal, marked, held, asked again. -/
import Derived.Test.YtgfaphlpkjikkaaDoorPmhStringS
namespace Go.Proofs.YtgfaphlpkjikkaaDoor.U
open Go Go.RowKit Go.Proofs.YtgfaphlpkjikkaaDoorW.PrintWords Go.Proofs.YtgfaphlpkjikkaaDoor.G
set_option linter.unusedVariables false
theorem tailStringS (l : List ByteArray) (hl : l.length ≤ 1048580) (sp im : Nat → Option (List ByteArray)) (hsp : Ev sp l) (him : Ev im l) :
    Ev (fun k => (sp k).bind fun t131 => ((im k).bind fun t134 => ((laws_eqStringS.f k t134 t131).bind fun t137 => (if t137 = true then ((laws_markStringS.f k t134 1).bind fun bt138 => ((laws_heldStringS.f k bt138.2 1).bind fun t140 => (if t140 < 0 then (some false) else (if t140 = bt138.1 then ((im k).bind fun t141 => ((laws_eqStringS.f k t141 t131).bind fun t144 => (if t144 = true then ((laws_heldStringS.f k bt138.2 1).bind fun t145 => (if t145 < 0 then (some false) else (if t145 = bt138.1 then (some true) else (some false)))) else (some false)))) else (some false))))) else (some false))))) true := by
  have hm : l.length ≤ maxLen := by unfold maxLen; omega
  obtain ⟨l', r, h1, h2, h3, h4, h5⟩ := mhStringS l 1 (by omega) (by omega) (by omega)
  have heq := eqStringS_ok l hm
  refine Ev.bind hsp (Ev.bind him (Ev.bind heq (ev_pos rfl (Ev.bind h2 (Ev.bind h3 (ev_neg (by omega) (ev_pos rfl ?_)))))))
  exact Ev.bind him (Ev.bind heq (ev_pos rfl (Ev.bind h3 (ev_neg (by omega) (ev_pos rfl (Ev.now _))))))
end Go.Proofs.YtgfaphlpkjikkaaDoor.U
