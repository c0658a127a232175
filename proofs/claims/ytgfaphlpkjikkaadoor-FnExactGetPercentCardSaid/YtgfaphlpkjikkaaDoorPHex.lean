/- What PutHex answers, of the program and of the reference: two digits a byte. -/
import Derived.Test.YtgfaphlpkjikkaaDoorU0
import Derived.Test.YtgfaphlpkjikkaaDoorGspecPutHex
import Derived.Test.YtgfaphlpkjikkaaDoorGimplPutHex
namespace Go.Proofs.YtgfaphlpkjikkaaDoor.U
open Go Go.RowKit Go.Proofs.YtgfaphlpkjikkaaDoorW.PrintWords Go.Proofs.YtgfaphlpkjikkaaDoor.G
set_option linter.unusedVariables false
set_option linter.unusedSimpArgs false

def hexd : B := [48, 49, 50, 51, 52, 53, 54, 55, 56, 57, 97, 98, 99, 100, 101, 102]
def hexOf (c : UInt8) : B := [at_ hexd (c.toNat / 16), at_ hexd (c.toNat % 16)]
def putHex (l : B) : B := l.flatMap hexOf
theorem putHex_length (l : B) : (putHex l).length = 2 * l.length := by
  induction l with
  | nil => rfl
  | cons c l ih => simp only [putHex, List.flatMap_cons, List.length_append, List.length_cons] at ih ⊢; simp [hexOf] at ih ⊢; omega
theorem putHex_nil : putHex [] = [] := rfl
theorem putHex_cons (c : UInt8) (l : B) : putHex (c :: l) = hexOf c ++ putHex l := rfl
theorem I_hexOf (c : UInt8) (a b : Int) (ha : a = ((c.toNat / 16 : Nat) : Int)) (hb : b = ((c.toNat % 16 : Nat) : Int)) : [bt (S hexd) a, bt (S hexd) b] = I (hexOf c) := by
  subst ha; subst hb
  rw [bt_nat, bt_nat, L_S]; rfl

theorem spec_PutHex_loop (s : ByteArray) (hs : s.size ≤ 1099511627776) (d : Nat) : ∀ (i : Nat) (acc : B), i + d = (L s).length → acc.length + 2 * d ≤ 4398046511104 →
    Ev (fun k => spec_PutHex.l0 k s (I acc) (i : Int)) (S (acc ++ putHex ((L s).drop i))) := by
  induction d with
  | zero =>
    intro i acc hi ha
    have hz : ¬ ((i : Int) < (s.size : Int)) := by rw [size_L]; omega
    refine Ev.step (f := fun k => some (strOfNums (I acc))) (fun k => by rw [spec_PutHex.l0, if_neg hz]) ?_
    rw [List.drop_of_length_le (by omega), putHex_nil, List.append_nil, str_I]
    exact Ev.now _
  | succ d ih =>
    intro i acc hi ha
    have hl : i < (L s).length := by omega
    have hz : ((i : Int) < (s.size : Int)) := by rw [size_L]; omega
    have hb := byte_lt (at_ (L s) i)
    have h1 : Int.tdiv ((at_ (L s) i).toNat : Int) 16 % 256 = (((at_ (L s) i).toNat / 16 : Nat) : Int) := by
      rw [Int.tdiv_eq_ediv_of_nonneg (by omega)]; omega
    have h2 : Int.tmod ((at_ (L s) i).toNat : Int) 16 = (((at_ (L s) i).toNat % 16 : Nat) : Int) := by
      rw [Int.tmod_eq_emod_of_nonneg (by omega)]; omega
    refine Ev.step (f := fun k => spec_PutHex.l0 k s (I (acc ++ hexOf (at_ (L s) i))) ((i + 1 : Nat) : Int)) (fun k => ?_) ?_
    · rw [spec_PutHex.l0, if_pos hz, if_pos (by omega), bt_nat, h1, h2, if_pos (by omega), if_pos (by omega), if_pos (by omega), if_pos (by omega), Option.bind_some]
      rw [show (⟨#[48, 49, 50, 51, 52, 53, 54, 55, 56, 57, 97, 98, 99, 100, 101, 102]⟩ : ByteArray) = S hexd from rfl, I_hexOf _ _ _ rfl rfl, if_pos (by simp [hexOf]; omega), ← I_append, w64 (by omega) (by rw [size_L] at hs; omega)]
      rfl
    · refine ev_use (ih (i + 1) _ (by omega) (by simp [hexOf]; omega)) ?_
      rw [drop_at _ _ hl, putHex_cons, List.append_assoc]

theorem spec_PutHex_ev (s : ByteArray) (hs : s.size ≤ 1099511627776) : Ev (fun k => spec_PutHex.f k s) (S (putHex (L s))) := by
  refine ev_use (Ev.congr (fun k => rfl) (spec_PutHex_loop s hs (L s).length 0 [] (by omega) (by rw [← size_L]; simp; omega))) ?_
  simp

theorem impl_PutHex_loop (s : ByteArray) (hs : s.size ≤ 1099511627776) (d : Nat) : ∀ (i : Nat) (acc : B), i + d = (L s).length → acc.length + 2 * d ≤ 4398046511104 →
    Ev (fun k => impl_PutHex.l0 k s (I acc) (s.size : Int) (i : Int)) (S (acc ++ putHex ((L s).drop i))) := by
  induction d with
  | zero =>
    intro i acc hi ha
    have hz : ¬ ((i : Int) < (s.size : Int)) := by rw [size_L]; omega
    refine Ev.step (f := fun k => some (strOfNums (I acc))) (fun k => by rw [impl_PutHex.l0, if_neg hz]) ?_
    rw [List.drop_of_length_le (by omega), putHex_nil, List.append_nil, str_I]
    exact Ev.now _
  | succ d ih =>
    intro i acc hi ha
    have hl : i < (L s).length := by omega
    have hz : ((i : Int) < (s.size : Int)) := by rw [size_L]; omega
    have hb := byte_lt (at_ (L s) i)
    have h1 : ((at_ (L s) i).toNat : Int) / 16 = (((at_ (L s) i).toNat / 16 : Nat) : Int) := by omega
    have h2 : Go.bits .and .u8 ((at_ (L s) i).toNat : Int) 15 = (((at_ (L s) i).toNat % 16 : Nat) : Int) := by
      have e := Go.u8_and15 (x := ((at_ (L s) i).toNat : Int)) (by omega) (by omega)
      exact e.trans (by omega)
    refine Ev.step (f := fun k => impl_PutHex.l0 k s (I (acc ++ hexOf (at_ (L s) i))) (s.size : Int) ((i + 1 : Nat) : Int)) (fun k => ?_) ?_
    · rw [impl_PutHex.l0, if_pos hz, if_pos (by omega), if_pos hz, bt_nat, h1, h2, if_pos (by omega), if_pos (by omega), if_pos (by omega), if_pos (by omega), Option.bind_some]
      rw [show (⟨#[48, 49, 50, 51, 52, 53, 54, 55, 56, 57, 97, 98, 99, 100, 101, 102]⟩ : ByteArray) = S hexd from rfl, I_hexOf _ _ _ rfl rfl, if_pos (by simp [hexOf]; omega), ← I_append, w64 (by omega) (by rw [size_L] at hs; omega)]
      rfl
    · refine ev_use (ih (i + 1) _ (by omega) (by simp [hexOf]; omega)) ?_
      rw [drop_at _ _ hl, putHex_cons, List.append_assoc]

theorem impl_PutHex_ev (s : ByteArray) (hs : s.size ≤ 1099511627776) : Ev (fun k => impl_PutHex.f k s) (S (putHex (L s))) := by
  refine ev_use (Ev.congr (fun k => rfl) (impl_PutHex_loop s hs (L s).length 0 [] (by omega) (by rw [← size_L]; simp; omega))) ?_
  simp

end Go.Proofs.YtgfaphlpkjikkaaDoor.U
