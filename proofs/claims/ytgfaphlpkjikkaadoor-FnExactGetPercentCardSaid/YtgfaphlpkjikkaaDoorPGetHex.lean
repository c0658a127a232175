/- What GetHex answers, of the program and of the reference: the bytes of pairs of digits. -/
import Derived.Test.YtgfaphlpkjikkaaDoorPHex
import Derived.Test.YtgfaphlpkjikkaaDoorPIdx
import Derived.Test.YtgfaphlpkjikkaaDoorGspecGetHex
import Derived.Test.YtgfaphlpkjikkaaDoorGimplGetHex
import Derived.Lib.Bytealg
namespace Go.Proofs.YtgfaphlpkjikkaaDoor.U
open Go Go.RowKit Go.Proofs.YtgfaphlpkjikkaaDoorW.PrintWords Go.Proofs.YtgfaphlpkjikkaaDoor.G
set_option linter.unusedVariables false
set_option linter.unusedSimpArgs false

/-- The bytes of pairs of digits behind what there is, and whether they are such. -/
def pairs (dg : B) : B → B → B × Bool
  | acc, a :: b :: r => if idx dg a < 0 ∨ idx dg b < 0 then ([], false) else pairs dg (acc ++ [UInt8.ofNat (16 * (idx dg a).toNat + (idx dg b).toNat)]) r
  | acc, [] => (acc, true)
  | acc, [_] => (acc, false)
def getHex (l : B) : B × Bool := if (pairs hexd [] l).2 then pairs hexd [] l else ([], false)

theorem pair_byte {a b : Int} (ha : 0 ≤ a) (ha2 : a < 16) (hb : 0 ≤ b) (hb2 : b < 16) : [(wrap64 (wrap64 (16 * a) + b)) % 256] = I [UInt8.ofNat (16 * a.toNat + b.toNat)] := by
  rw [w64 (n := 16 * a) (by omega) (by omega), w64 (by omega) (by omega)]
  simp [I]
  omega

theorem spec_l01Pairs_ev (s dg : ByteArray) (hs : s.size ≤ 1099511627776) (hd : dg.size = 16) : Ev (fun k => spec_l01Pairs.f k s dg) (S (pairs (L dg) [] (L s)).1, (pairs (L dg) [] (L s)).2) := by
  have key : ∀ (d : Nat) (i : Nat) (acc : B), i + d = (L s).length → i % 2 = 0 → acc.length + d ≤ 1099511627776 → Ev (fun k => spec_l01Pairs.l0 k s dg (I acc) (i : Int)) (S (pairs (L dg) acc ((L s).drop i)).1, (pairs (L dg) acc ((L s).drop i)).2) := by
    intro d
    induction d using Nat.strongRecOn with
    | _ d ih =>
    intro i acc hi hev ha
    have hsz := size_L s
    by_cases hlt : i + 1 < (L s).length
    · have hz : ((i + 1 : Nat) : Int) < (s.size : Int) := by omega
      have hz0 : (i : Int) < (s.size : Int) := by omega
      have hw : wrap64 ((i : Int) + 1) = ((i + 1 : Nat) : Int) := inc i (by omega)
      have ea := spec_l01At_ev dg (at_ (L s) i) (by omega)
      have eb := spec_l01At_ev dg (at_ (L s) (i + 1)) (by omega)
      have la := idx_lt (L dg) (at_ (L s) i)
      have lb := idx_lt (L dg) (at_ (L s) (i + 1))
      rw [← size_L] at la lb
      rw [drop_at _ _ (by omega : i < (L s).length), drop_at _ _ hlt]
      refine Ev.step (f := fun k => _) (fun k => by rw [spec_l01Pairs.l0, hw, if_pos hz, if_pos (by omega), if_pos hz0, bt_nat, bt_nat]) ?_
      refine Ev.bind ea ?_
      refine ev_pos (by omega) ?_
      refine Ev.bind eb ?_
      rw [pairs]
      by_cases h1 : idx (L dg) (at_ (L s) i) < 0
      · refine ev_pos h1 (ev_use (Ev.now _) ?_)
        rw [if_pos (.inl h1)]; rfl
      · refine ev_neg h1 ?_
        by_cases h2 : idx (L dg) (at_ (L s) (i + 1)) < 0
        · refine ev_pos h2 (ev_use (Ev.now _) ?_)
          rw [if_pos (.inr h2)]; rfl
        · refine ev_neg h2 (ev_pos (by simp; omega) ?_)
          rw [if_neg (by omega), pair_byte (by omega) (by omega) (by omega) (by omega), ← I_append]
          have e2 : wrap64 ((i : Int) + 2) = ((i + 2 : Nat) : Int) := by rw [w64 (by omega) (by omega)]; omega
          rw [e2]
          exact ih (d - 2) (by omega) (i + 2) _ (by omega) (by omega) (by simp; omega)
    · have hw : wrap64 ((i : Int) + 1) = ((i + 1 : Nat) : Int) := inc i (by omega)
      refine Ev.step (f := fun k => some (strOfNums (I acc), ((s.size : Int) % 2 == 0))) (fun k => by rw [spec_l01Pairs.l0, hw, if_neg (by omega)]) (ev_use (Ev.now _) ?_)
      rw [str_I]
      by_cases h0 : i = (L s).length
      · rw [h0, List.drop_length, pairs]
        have e : ((s.size : Int) % 2 == 0) = true := by rw [beq_iff_eq]; omega
        rw [e]
      · have h1 : i + 1 = (L s).length := by omega
        rw [drop_at _ _ (by omega : i < (L s).length), h1, List.drop_length, pairs]
        have e : ((s.size : Int) % 2 == 0) = false := by rw [beq_eq_false_iff_ne]; omega
        rw [e]
  exact key (L s).length 0 [] (by omega) rfl (by rw [← size_L]; simpa using hs)

theorem hexd_S : (⟨#[48, 49, 50, 51, 52, 53, 54, 55, 56, 57, 97, 98, 99, 100, 101, 102]⟩ : ByteArray) = S hexd := rfl
theorem spec_GetHex_ev (s : ByteArray) (hs : s.size ≤ 1099511627776) : Ev (fun k => spec_GetHex.f k s) (S (getHex (L s)).1, (getHex (L s)).2) := by
  have e := spec_l01Pairs_ev s (S hexd) hs rfl
  rw [L_S] at e
  unfold spec_GetHex.f getHex
  rw [hexd_S]
  refine Ev.bind e ?_
  by_cases h : (pairs hexd [] (L s)).2 = true
  · refine ev_pos h (ev_use (Ev.now _) ?_)
    rw [if_pos h, h]
  · refine ev_neg h (ev_use (Ev.now _) ?_)
    rw [if_neg h]; rfl

theorem impl_GetHex_ev (s : ByteArray) (hs : s.size ≤ 1099511627776) : Ev (fun k => impl_GetHex.f k s) (S (getHex (L s)).1, (getHex (L s)).2) := by
  have key : ∀ (d : Nat) (i : Nat) (acc : B), i + d = (L s).length → i % 2 = 0 → acc.length + d ≤ 1099511627776 → Ev (fun k => impl_GetHex.l0 k s (I acc) (i : Int)) (if (pairs hexd acc ((L s).drop i)).2 then (S (pairs hexd acc ((L s).drop i)).1, true) else (S [], false)) := by
    intro d
    induction d using Nat.strongRecOn with
    | _ d ih =>
    intro i acc hi hev ha
    have hsz := size_L s
    by_cases hlt : i + 1 < (L s).length
    · have hz : ((i + 1 : Nat) : Int) < (s.size : Int) := by omega
      have hz0 : (i : Int) < (s.size : Int) := by omega
      have hw : wrap64 ((i : Int) + 1) = ((i + 1 : Nat) : Int) := inc i (by omega)
      have la := idx_lt hexd (at_ (L s) i)
      have lb := idx_lt hexd (at_ (L s) (i + 1))
      have h16 : (hexd.length : Int) = 16 := rfl
      rw [drop_at _ _ (by omega : i < (L s).length), drop_at _ _ hlt]
      refine Ev.step (f := fun k => _) (fun k => by rw [impl_GetHex.l0, hw, if_pos hz, if_pos (by omega), if_pos hz0, hexd_S, bt_nat, bt_nat, strings_IndexByte_eq, strings_IndexByte_eq, Option.bind_some, if_pos (by omega), Option.bind_some, L_S]) ?_
      by_cases h1 : idx hexd (at_ (L s) i) < 0
      · refine ev_pos h1 (ev_use (Ev.now _) ?_)
        rw [show pairs hexd acc (at_ (L s) i :: at_ (L s) (i + 1) :: (L s).drop (i + 1 + 1)) = ([], false) by rw [pairs, if_pos (Or.inl h1)]]; rfl
      · refine ev_neg h1 ?_
        by_cases h2 : idx hexd (at_ (L s) (i + 1)) < 0
        · refine ev_pos h2 (ev_use (Ev.now _) ?_)
          rw [show pairs hexd acc (at_ (L s) i :: at_ (L s) (i + 1) :: (L s).drop (i + 1 + 1)) = ([], false) by rw [pairs, if_pos (Or.inr h2)]]; rfl
        · refine ev_neg h2 (ev_pos (by simp; omega) ?_)
          rw [show pairs hexd acc (at_ (L s) i :: at_ (L s) (i + 1) :: (L s).drop (i + 1 + 1)) = pairs hexd (acc ++ [UInt8.ofNat (16 * (idx hexd (at_ (L s) i)).toNat + (idx hexd (at_ (L s) (i + 1))).toNat)]) ((L s).drop (i + 1 + 1)) by rw [pairs, if_neg (by omega)], pair_byte (by omega) (by omega) (by omega) (by omega), ← I_append]
          have e2 : wrap64 ((i : Int) + 2) = ((i + 2 : Nat) : Int) := by rw [w64 (by omega) (by omega)]; omega
          rw [e2]
          exact ih (d - 2) (by omega) (i + 2) _ (by omega) (by omega) (by simp; omega)
    · have hw : wrap64 ((i : Int) + 1) = ((i + 1 : Nat) : Int) := inc i (by omega)
      by_cases h0 : i = (L s).length
      · refine Ev.step (f := fun k => some (strOfNums (I acc), true)) (fun k => by rw [impl_GetHex.l0, hw, if_neg (by omega), if_neg (by omega)]) (ev_use (Ev.now _) ?_)
        rw [h0, List.drop_length, pairs, str_I]; rfl
      · have h1 : i + 1 = (L s).length := by omega
        refine Ev.step (f := fun k => some (S [], false)) (fun k => by rw [impl_GetHex.l0, hw, if_neg (by omega), if_pos (by omega)]; rfl) (ev_use (Ev.now _) ?_)
        rw [drop_at _ _ (by omega : i < (L s).length), h1, List.drop_length, pairs]; rfl
  refine ev_use (key (L s).length 0 [] (by omega) rfl (by rw [← size_L]; simpa using hs)) ?_
  unfold getHex
  rw [List.drop_zero]
  by_cases h : (pairs hexd [] (L s)).2 = true
  · rw [if_pos h, if_pos h, h]
  · rw [if_neg h, if_neg h]

end Go.Proofs.YtgfaphlpkjikkaaDoor.U
