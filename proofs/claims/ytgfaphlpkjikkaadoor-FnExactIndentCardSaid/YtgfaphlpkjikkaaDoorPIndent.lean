/- What Indent answers, of the program and of the reference: the number of leading spaces. -/
import Derived.Test.YtgfaphlpkjikkaaDoorU1
import Derived.Test.YtgfaphlpkjikkaaDoorGspecIndent
import Derived.Test.YtgfaphlpkjikkaaDoorGimplIndent
import Derived.Lib.TrimByte
namespace Go.Proofs.YtgfaphlpkjikkaaDoor.U
open Go Go.RowKit Go.Proofs.YtgfaphlpkjikkaaDoorW.PrintWords Go.Proofs.YtgfaphlpkjikkaaDoor.G
set_option linter.unusedVariables false

def lead (l : B) : Nat := (l.takeWhile (· == 32)).length
theorem spec_Indent_l (s : ByteArray) (hs : s.size ≤ 1048576) : ∀ d i, i + d = (L s).length → Ev (fun k => spec_Indent.l0 k s (i : Int)) ((i + lead ((L s).drop i) : Nat) : Int) := by
  rw [size_L] at hs
  intro d
  induction d with
  | zero =>
    intro i hi
    have e : i = (L s).length := by omega
    refine Ev.step (f := fun _ => some (i : Int)) (fun k => by rw [spec_Indent.l0, if_neg (by rw [size_L]; omega)]) (ev_use (Ev.now _) ?_)
    subst e; rw [List.drop_length]; rfl
  | succ d ih =>
    intro i hi
    have h : i < (L s).length := by omega
    rw [drop_at (L s) i h]
    by_cases hc : at_ (L s) i = 32
    · refine Ev.step (f := fun k => spec_Indent.l0 k s ((i + 1 : Nat) : Int)) (fun k => by rw [spec_Indent.l0, if_pos (by rw [size_L]; omega), if_pos (by omega), bt_nat, if_pos (by rw [hc]; rfl), wa1 i (by omega)]) ?_
      refine ev_use (ih (i + 1) (by omega)) ?_
      rw [hc]; unfold lead; rw [List.takeWhile_cons]; simp; omega
    · have hb : ¬ ((at_ (L s) i).toNat : Int) = 32 := fun e => hc ((byte_is _ 32 32 rfl).1 e)
      refine Ev.step (f := fun _ => some (i : Int)) (fun k => by rw [spec_Indent.l0, if_pos (by rw [size_L]; omega), if_pos (by omega), bt_nat, if_neg hb]) (ev_use (Ev.now _) ?_)
      unfold lead; rw [List.takeWhile_cons]; simp [hc]
theorem spec_Indent_ev (s : ByteArray) (hs : s.size ≤ 1048576) : Ev (fun k => spec_Indent.f k s) (lead (L s) : Int) := by
  have := spec_Indent_l s hs (L s).length 0 (by omega)
  unfold spec_Indent.f
  simpa using this
theorem impl_Indent_eq (s : ByteArray) (hs : s.size ≤ 1048576) : impl_Indent.f s = some (lead (L s) : Int) := by
  have h1 : (lead (L s)) + ((L s).dropWhile (· == 32)).length = (L s).length := by
    unfold lead; rw [← List.length_append, List.takeWhile_append_dropWhile]
  have h2 : strings_TrimLeft.f s ⟨#[32]⟩ = some (S ((L s).dropWhile (· == 32))) := by
    unfold strings_TrimLeft.f Lib.trimLeftB
    rw [dif_pos (show (⟨#[32]⟩ : ByteArray).size = 1 from rfl), if_pos ⟨by decide, by omega⟩]
    rfl
  unfold impl_Indent.f
  rw [h2, Option.bind_some, size_S, size_L]
  rw [size_L] at hs
  rw [w64 (by omega) (by omega)]
  congr 1; omega
end Go.Proofs.YtgfaphlpkjikkaaDoor.U
