/- Lists of strings: what is marked is held. -/
import Derived.Test.YtgfaphlpkjikkaaDoorPMark
import Derived.Test.YtgfaphlpkjikkaaDoorPeqStringS
import Derived.Test.YtgfaphlpkjikkaaDoorGlawsmarkStringS
import Derived.Test.YtgfaphlpkjikkaaDoorGlawsheldStringS
namespace Go.Proofs.YtgfaphlpkjikkaaDoor.U
open Go Go.RowKit Go.Proofs.YtgfaphlpkjikkaaDoorW.PrintWords Go.Proofs.YtgfaphlpkjikkaaDoor.G
set_option linter.unusedVariables false
theorem sum_ones {α : Type} (l : List α) : (l.map fun _ => 1).sum = l.length := by
  induction l with
  | nil => rfl
  | cons x l ih => rw [List.map_cons, List.sum_cons, ih, List.length_cons]; omega
theorem mhStringS (l : List ByteArray) (c : Int) (hl : l.length ≤ 140737488355328) (hc : 0 ≤ c) (hb : c + l.length ≤ 2305843009213693952) :
    ∃ l' r, l'.length = l.length ∧ Ev (fun k => laws_markStringS.f k l c) (r, l') ∧ Ev (fun k => laws_heldStringS.f k l' c) r ∧ c ≤ r ∧ r ≤ c + l.length := by
  have := mark_held ByteArray.empty (fun k x0 c i => laws_markStringS.l0 k x0 c i) (fun k y c i => laws_heldStringS.l0 k y c i) (fun _ => 1)
    (fun k x0 c => by show laws_markStringS.l0 (k + 1) x0 c _ = _; rw [laws_markStringS.l0, if_neg (by omega)])
    (fun k y c => by show laws_heldStringS.l0 (k + 1) y c _ = _; rw [laws_heldStringS.l0, if_neg (by omega)])
    (fun e c h0 h1 => by
      obtain ⟨m, hm⟩ := markText_ex c (by omega)
      refine ⟨m, c + 1, by omega, by omega, fun x0 i r hi hi1 he hr => ?_, fun y i r hi hi1 he hr => ?_⟩
      · refine Ev.step (f := fun k => (laws_markText.f k c).bind fun t => laws_markStringS.l0 k (x0.set i t) (c + 1) ((i + 1 : Nat) : Int)) (fun k => ?_) (Ev.bind hm hr)
        show laws_markStringS.l0 (k + 1) x0 c (i : Int) = _
        rw [laws_markStringS.l0, if_pos (by omega)]
        refine Option.bind_congr fun t _ => ?_
        rw [if_pos (by omega), Int.toNat_natCast, w64 (n := c + 1) (by omega) (by omega), wa1 i (by omega)]
      · refine Ev.step (f := fun k => (laws_markText.f k c).bind fun t => if m.toList = t.toList then laws_heldStringS.l0 k y (c + 1) ((i + 1 : Nat) : Int) else some (-1)) (fun k => ?_) (Ev.bind hm (ev_pos rfl hr))
        show laws_heldStringS.l0 (k + 1) y c (i : Int) = _
        have he' : rdOf ByteArray.empty y (i : Int) = m := he
        rw [laws_heldStringS.l0, if_pos (by omega), if_pos (by omega)]
        refine Option.bind_congr fun t _ => ?_
        rw [he', w64 (n := c + 1) (by omega) (by omega), wa1 i (by omega)])
    l c hl hc (by rw [sum_ones]; exact hb)
  rw [sum_ones] at this
  exact this
end Go.Proofs.YtgfaphlpkjikkaaDoor.U
