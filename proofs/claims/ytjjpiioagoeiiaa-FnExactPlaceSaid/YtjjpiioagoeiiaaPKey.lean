/- What SplitKey and Place answer, of the program and of the reference. -/
import Derived.Test.YtjjpiioagoeiiaaU0
import Derived.Test.YtjjpiioagoeiiaaGspecSplitKey
import Derived.Test.YtjjpiioagoeiiaaGimplSplitKey
namespace Go.Proofs.Ytjjpiioagoeiiaa.U
open Go Go.RowKit Go.Proofs.YtjjpiioagoeiiaaW.PrintWords Go.Proofs.Ytjjpiioagoeiiaa.G
set_option linter.unusedVariables false
set_option linter.unusedSimpArgs false

/-- The last place of a byte, -1 if it is not there. -/
def lastIx (l : B) (c : UInt8) : Int := Lib.lastIndex l [c]
/-- The last place below i. -/
def lastBelow (l : B) (c : UInt8) : Nat → Int
  | 0 => -1
  | i + 1 => if at_ l i = c then (i : Int) else lastBelow l c i
theorem occ_one (l : B) (c : UInt8) (i : Nat) (h : i < l.length) : Lib.occAt l [c] i = decide (at_ l i = c) := by
  unfold Lib.occAt
  rw [drop_at l i h]
  simp only [List.isPrefixOf, Bool.and_true]
  by_cases e : at_ l i = c
  · subst e; simp
  · have e' : ¬ c = at_ l i := fun x => e x.symm
    simp [e, e']
theorem lastOcc_below (l : B) (c : UInt8) (i : Nat) (h : i ≤ l.length) : Lib.lastOcc l [c] i = lastBelow l c i := by
  induction i with
  | zero => rfl
  | succ i ih =>
    rw [Lib.lastOcc, lastBelow, occ_one l c i (by omega), ih (by omega)]
    simp
theorem lastIx_below (l : B) (c : UInt8) : lastIx l c = lastBelow l c l.length := by
  unfold lastIx Lib.lastIndex
  split
  · rename_i h
    simp at h
    rw [List.length_singleton, show l.length - 1 + 1 = l.length by omega]
    exact lastOcc_below l c _ (Nat.le_refl _)
  · rename_i h
    have : l.length = 0 := by simp at h; simp [h]
    rw [this]; rfl
theorem lastBelow_range (l : B) (c : UInt8) (i : Nat) : -1 ≤ lastBelow l c i ∧ lastBelow l c i < i := by
  induction i with
  | zero => exact ⟨Int.le_refl _, by show (-1 : Int) < 0; decide⟩
  | succ i ih => rw [lastBelow]; split <;> omega
theorem lastIx_range (l : B) (c : UInt8) : -1 ≤ lastIx l c ∧ lastIx l c < l.length := by rw [lastIx_below]; exact lastBelow_range l c _
theorem strings_LastIndex_eq (s : ByteArray) (c : UInt8) (hs : s.size ≤ 1099511627776) : strings_LastIndex.f s (S [c]) = some (lastIx (L s) c) := by
  unfold strings_LastIndex.f
  rw [if_pos (by omega)]; rfl

def splitKey (l : B) : B × B := if lastIx l 64 < 0 then ([], []) else (l.take (lastIx l 64).toNat, l.drop ((lastIx l 64).toNat + 1))
theorem take_extract (s : ByteArray) (n : Nat) : s.extract 0 n = S ((L s).take n) := L_inj (by rw [L_extract, L_S, List.drop_zero]; simp)
theorem drop_extract (s : ByteArray) (n : Nat) : s.extract n s.size = S ((L s).drop n) := L_inj (by
  rw [L_extract, L_S, size_L]
  exact List.take_of_length_le (by simp))
theorem dec (i : Nat) (h : i < 9223372036854775807) : wrap64 (((i + 1 : Nat) : Int) - 1) = (i : Int) := by rw [w64 (by omega) (by omega)]; omega

theorem spec_SplitKey_ev (s : ByteArray) (hs : s.size ≤ 1099511627776) : Ev (fun k => spec_SplitKey.f k s) (S (splitKey (L s)).1, S (splitKey (L s)).2) := by
  have key : ∀ i : Nat, i ≤ (L s).length → Ev (fun k => spec_SplitKey.l0 k s ((i : Int) - 1)) (if lastBelow (L s) 64 i < 0 then (S [], S []) else (S ((L s).take (lastBelow (L s) 64 i).toNat), S ((L s).drop ((lastBelow (L s) 64 i).toNat + 1)))) := by
    have hsz := size_L s
    intro i
    induction i with
    | zero =>
      intro _
      refine Ev.step (f := fun k => some (S [], S [])) (fun k => by rw [spec_SplitKey.l0, if_neg (by omega)]; rfl) (Ev.now _)
    | succ i ih =>
      intro hi
      have hw : ((i + 1 : Nat) : Int) - 1 = (i : Int) := by omega
      rw [hw, lastBelow]
      by_cases h : at_ (L s) i = 64
      · refine Ev.step (f := fun k => some (S ((L s).take i), S ((L s).drop (i + 1)))) (fun k => ?_) (ev_use (Ev.now _) ?_)
        · rw [spec_SplitKey.l0, if_pos (by omega), if_pos (by omega), if_pos (by omega), bt_nat, h, if_pos (by decide), if_pos (by omega), inc i (by omega), if_pos (by omega), if_pos (by omega)]
          rw [Int.toNat_natCast, Int.toNat_natCast, take_extract, drop_extract]
        · rw [if_pos h, if_neg (by omega), Int.toNat_natCast]
      · rw [if_neg h]
        refine Ev.step (f := fun k => spec_SplitKey.l0 k s ((i : Int) - 1)) (fun k => ?_) (ih (by omega))
        rw [spec_SplitKey.l0, if_pos (by omega), if_pos (by omega), if_pos (by omega), bt_nat, if_neg (fun e => h ((byte_is _ 64 64 (by decide)).1 e)), w64 (by omega) (by omega)]
  unfold spec_SplitKey.f splitKey
  rw [lastIx_below, w64 (by omega) (by omega), size_L]
  refine ev_use (key _ (Nat.le_refl _)) ?_
  split <;> rfl

theorem impl_SplitKey_eq (s : ByteArray) (hs : s.size ≤ 1099511627776) : impl_SplitKey.f s = some (S (splitKey (L s)).1, S (splitKey (L s)).2) := by
  have hsz := size_L s
  have hr := lastIx_range (L s) 64
  unfold impl_SplitKey.f splitKey
  rw [show (⟨#[64]⟩ : ByteArray) = S [64] from rfl, strings_LastIndex_eq s 64 hs, Option.bind_some]
  by_cases h : lastIx (L s) 64 < 0
  · rw [if_pos h, if_pos h]; rfl
  · rw [if_neg h, if_neg h, if_pos (by omega), if_pos (by omega), w64 (by omega) (by omega), if_pos (by omega), if_pos (by omega)]
    rw [take_extract, drop_extract, show (lastIx (L s) 64 + 1).toNat = (lastIx (L s) 64).toNat + 1 by omega]

end Go.Proofs.Ytjjpiioagoeiiaa.U
