/- What is proved: the law FnExactIn answers true at every input that its row speaks of (part 2 of 2 of its proof, merged by wip/tools/merge.py). Conditions: the row's own. -/
import Derived.Test.YtbepbfibanmhoaaGreatDoorMFnExactIn0
import Derived.Test.YtbepbfibanmhoaaGreatDoorGspecDecText
import Derived.Test.YtbepbfibanmhoaaGreatDoorGimplDecText
import Derived.Lib.ItoaNum
import Derived.Test.YtbepbfibanmhoaaGreatDoorGspecl01In
import Derived.Test.YtbepbfibanmhoaaGreatDoorGimplwithin
import Derived.Test.YtbepbfibanmhoaaGreatDoorGspecReadDec
import Derived.Test.YtbepbfibanmhoaaGreatDoorGimplReadDec
import Derived.Test.YtbepbfibanmhoaaGreatDoorGspecVersionOk
import Derived.Test.YtbepbfibanmhoaaGreatDoorGimplVersionOk
import Derived.Test.YtbepbfibanmhoaaGreatDoorGspecVersionText
import Derived.Test.YtbepbfibanmhoaaGreatDoorGimplVersionText
import Derived.Lib.Join
import Derived.Test.YtbepbfibanmhoaaGreatDoorGspecl01Cut
import Derived.Test.YtbepbfibanmhoaaGreatDoorGstringsSplit
import Derived.Lib.SplitLaws
import Derived.Test.YtbepbfibanmhoaaGreatDoorGspecl01At
import Derived.Lib.Bytealg
import Derived.Test.YtbepbfibanmhoaaGreatDoorGspecReadVersion
import Derived.Test.YtbepbfibanmhoaaGreatDoorGimplReadVersion
import Derived.Lib.IndexMore
import Derived.Lib.TrimByte
import Derived.Sort.Statements
import Derived.Shelf.SlSortCmp.Insertion
import Derived.Lib.SlicesCompact
import Derived.Test.YtbepbfibanmhoaaGreatDoorGspecCompareVersion
import Derived.Test.YtbepbfibanmhoaaGreatDoorGspecRangeOk
import Derived.Test.YtbepbfibanmhoaaGreatDoorGimplRangeOk
import Derived.Test.YtbepbfibanmhoaaGreatDoorG0
import Derived.Test.YtbepbfibanmhoaaGreatDoorRows
import Derived.Test.YtbepbfibanmhoaaGreatDoorOp
import Derived.Test.YtbepbfibanmhoaaGreatDoorCards
import Derived.Test.YtbepbfibanmhoaaGreatDoorTie
import Derived.Test.YtbepbfibanmhoaaGreatDoorLaid
import Derived.Test.YtbepbfibanmhoaaGreatDoorFacts
import Derived.WalkKit
import Derived.ProofKit
import Derived.OpenShut
import Derived.ShutString
import Derived.ChangeOld
import Derived.Below
import Derived.SizedLaws
import Derived.Carry
import Derived.Deep.DeepHandedRow
import Derived.Deep.DeepWitnessRowRef
section
namespace Go.Proofs.YtbepbfibanmhoaaGreatDoor.U
open Go Go.RowKit Go.Proofs.YtbepbfibanmhoaaGreatDoorW.PrintWords Go.Proofs.YtbepbfibanmhoaaGreatDoor.G
set_option linter.unusedVariables false

def digits0 : ByteArray := ⟨#[48, 49, 50, 51, 52, 53, 54, 55, 56, 57]⟩
theorem digit_at (i : Nat) (h : i < 10) : digits0.extract i (i + 1) = S [UInt8.ofNat (48 + i)] := by
  apply L_inj
  rw [L_extract, L_S]
  have : ∀ j : Fin 10, ((L digits0).drop j.1).take (j.1 + 1 - j.1) = [UInt8.ofNat (48 + j.1)] := by decide
  exact this ⟨i, h⟩
/-- A number's digits; none of 0. -/
def dig (u : Nat) : B := if u = 0 then [] else Lib.decDigits u
theorem dig_step (u : Nat) (h : u ≠ 0) : dig u = dig (u / 10) ++ [UInt8.ofNat (48 + u % 10)] := by
  unfold dig
  rw [if_neg h]
  by_cases h1 : u < 10
  · rw [if_pos (by omega)]
    unfold Lib.decDigits
    rw [dif_pos h1, Nat.mod_eq_of_lt h1]; rfl
  · rw [if_neg (by omega)]
    conv => lhs; unfold Lib.decDigits
    rw [dif_neg h1]
theorem dec_arith (x4 : Int) (u : Nat) (h4 : x4.natAbs = u) (hlo : -9223372036854775808 ≤ x4) (hhi : x4 ≤ 9223372036854775807) :
    (Int.tdiv x4 10).natAbs = u / 10 ∧ (Int.tmod x4 10).natAbs = u % 10 ∧ -922337203685477580 ≤ Int.tdiv x4 10 ∧ Int.tdiv x4 10 ≤ 922337203685477580 := by
  have hd : (Int.tdiv x4 10).natAbs = u / 10 := by rw [Int.natAbs_tdiv, h4]; rfl
  have hm : (Int.tmod x4 10).natAbs = u % 10 := by rw [Int.natAbs_tmod, h4]; rfl
  refine ⟨hd, hm, ?_, ?_⟩ <;> omega
theorem dec_idx (t : Int) (v : Nat) (hv : v < 10) (hm : t.natAbs = v) (hn : t < 0) : wrap64 (-t) = (v : Int) := by rw [w64 (by omega) (by omega)]; omega
theorem dec_end (x0 : Int) (x3 : ByteArray) (h : x3.size ≤ 40) (k : Nat) : spec_DecText.l0 (k + 1) x0 x3 0 = some (S ((if x0 < 0 then [45] else []) ++ (dig 0 ++ L x3))) := by
  rw [spec_DecText.l0, if_pos rfl]
  by_cases hn : x0 < 0
  · rw [if_pos hn, if_pos hn, if_pos (by omega)]; rfl
  · rw [if_neg hn, if_neg hn]; rfl
theorem dec_go (x0 x4 t q : Int) (x3 : ByteArray) (v : Nat) (hv : v < 10) (hx : ¬ x4 = 0) (hT : Int.tmod x4 10 = t) (hQ : Int.tdiv x4 10 = q) (hq : wrap64 q = q) (hm : t.natAbs = v) (h3 : x3.size ≤ 40) (k : Nat) :
    spec_DecText.l0 (k + 1) x0 x3 x4 = spec_DecText.l0 k x0 (S [UInt8.ofNat (48 + v)] ++ x3) q := by
  have hone : (S [UInt8.ofNat (48 + v)]).size = 1 := by rw [size_S]; rfl
  have e2 : wrap64 ((v : Int) + 1) = ((v + 1 : Nat) : Int) := wa1 _ (by omega)
  have e3 := digit_at v hv
  unfold digits0 at e3
  have b1 : (0 : Int) ≤ (v : Int) := by omega
  have b2 : (v : Int) ≤ ((v + 1 : Nat) : Int) := by omega
  have b3 : ((v + 1 : Nat) : Int) ≤ 10 := by omega
  have b4 : (S [UInt8.ofNat (48 + v)]).size + x3.size ≤ 9223372036854775807 := by rw [hone]; omega
  rw [spec_DecText.l0, if_neg hx, hT, hQ, hq]
  by_cases hn : t < 0
  · rw [if_pos hn, dec_idx t v hv hm hn, e2, if_pos b1, if_pos b2, if_pos b3, Int.toNat_natCast, Int.toNat_natCast, e3, if_pos b4]
  · have e1 : t = (v : Int) := by omega
    rw [if_neg hn, e1, e2, if_pos b1, if_pos b2, if_pos b3, Int.toNat_natCast, Int.toNat_natCast, e3, if_pos b4]
theorem spec_DecText_l (x0 : Int) : ∀ d (u : Nat) (x4 : Int) (x3 : ByteArray), u < 10 ^ d → x4.natAbs = u → -9223372036854775808 ≤ x4 → x4 ≤ 9223372036854775807 → x3.size + d ≤ 40 →
    Ev (fun k => spec_DecText.l0 k x0 x3 x4) (S ((if x0 < 0 then [45] else []) ++ (dig u ++ L x3))) := by
  intro d
  induction d with
  | zero =>
    intro u x4 x3 hu h4 _ _ hs
    have e2 : u = 0 := by simpa using hu
    subst e2
    have e : x4 = 0 := Int.natAbs_eq_zero.1 h4
    subst e
    exact Ev.step (f := fun _ => some _) (dec_end x0 x3 (by omega)) (Ev.now _)
  | succ d ih =>
    intro u x4 x3 hu h4 hlo hhi hs
    by_cases hz : u = 0
    · subst hz
      have e : x4 = 0 := Int.natAbs_eq_zero.1 h4
      subst e
      exact Ev.step (f := fun _ => some _) (dec_end x0 x3 (by omega)) (Ev.now _)
    · have hx : ¬ x4 = 0 := fun e => hz (by rw [← h4, e]; rfl)
      obtain ⟨hd, hm, q1, q2⟩ := dec_arith x4 u h4 hlo hhi
      have h10 : u / 10 < 10 ^ d := by rw [Nat.div_lt_iff_lt_mul (by decide)]; rw [Nat.pow_succ] at hu; exact hu
      have hone : (S [UInt8.ofNat (48 + u % 10)]).size = 1 := by rw [size_S]; rfl
      clear hu h4
      rw [dig_step u hz]
      refine Ev.step (dec_go x0 x4 _ _ x3 (u % 10) (Nat.mod_lt _ (by decide)) hx rfl rfl (w64 (by omega) (by omega)) hm (by omega)) ?_
      refine ev_use (ih (u / 10) _ (S [UInt8.ofNat (48 + u % 10)] ++ x3) h10 hd (by omega) (by omega) (by rw [ByteArray.size_append, hone]; omega)) ?_
      rw [L_append, L_S]; simp
theorem itoa_dig (n : Int) (h : n ≠ 0) : Lib.itoa n = (if n < 0 then [45] else []) ++ dig n.natAbs := by
  unfold Lib.itoa dig
  by_cases hn : n < 0
  · rw [if_pos hn, if_pos hn, if_neg (by omega)]; rfl
  · rw [if_neg hn, if_neg hn, if_neg (by omega)]
    have : n.toNat = n.natAbs := by omega
    rw [this]; rfl
theorem spec_DecText_ev (n : Int) (h0 : -9223372036854775808 ≤ n) (h1 : n ≤ 9223372036854775807) : Ev (fun k => spec_DecText.f k n) (S (Lib.itoa n)) := by
  unfold spec_DecText.f
  by_cases h : n = 0
  · subst h; refine ev_pos rfl (ev_use (Ev.now _) ?_)
    apply L_inj; rw [L_S]; unfold Lib.itoa; rw [if_neg (by omega)]; unfold Lib.decDigits; rw [dif_pos (by decide)]; rfl
  · refine ev_neg h ?_
    rw [itoa_dig n h]
    refine ev_use (spec_DecText_l n 20 n.natAbs n ⟨#[]⟩ (by omega) rfl h0 h1 (by decide)) ?_
    congr 1
    show _ ++ (_ ++ ([] : B)) = _
    rw [List.append_nil]
theorem impl_DecText_eq (n : Int) (h0 : -9223372036854775808 ≤ n) (h1 : n ≤ 9223372036854775807) : impl_DecText.f n = some (S (Lib.itoa n)) := by
  unfold impl_DecText.f strconv_Itoa.f
  rw [if_pos ⟨h0, h1⟩]; rfl
end Go.Proofs.YtbepbfibanmhoaaGreatDoor.U
end

section
namespace Go.Proofs.YtbepbfibanmhoaaGreatDoor.U
open Go Go.RowKit Go.Proofs.YtbepbfibanmhoaaGreatDoorW.PrintWords Go.Proofs.YtbepbfibanmhoaaGreatDoor.G

theorem spec_l01In_eq (a b c : Int) : spec_l01In.f a b c = some (decide (b ≤ a ∧ a ≤ c)) := by
  unfold spec_l01In.f
  by_cases h : a ≥ b
  · rw [if_pos h]; by_cases h2 : a ≤ c <;> simp [h2] <;> omega
  · rw [if_neg h]; simp; omega
theorem impl_within_eq (a b c : Int) : impl_within.f a b c = some (decide (b ≤ a ∧ a ≤ c)) := by
  unfold impl_within.f
  by_cases h : b ≤ a
  · rw [if_pos h]; by_cases h2 : a ≤ c <;> simp [h2, h]
  · rw [if_neg h]; simp [h]

end Go.Proofs.YtbepbfibanmhoaaGreatDoor.U
end

section
namespace Go.Proofs.YtbepbfibanmhoaaGreatDoor.U
open Go Go.RowKit Go.Proofs.YtbepbfibanmhoaaGreatDoorW.PrintWords Go.Proofs.YtbepbfibanmhoaaGreatDoor.G
set_option linter.unusedVariables false
set_option linter.unusedSimpArgs false

theorem itoa_nat (u : Nat) : Lib.itoa (u : Int) = Lib.decDigits u := by unfold Lib.itoa; rw [if_neg (by omega)]; simp
theorem rdec_bad {l : B} (h : ∃ c ∈ l, dgt c = false) : rdec l = -1 := by
  unfold rdec
  rw [if_neg]
  rintro ⟨_, e⟩
  obtain ⟨c, hc, hd⟩ := h
  have := dec_dgt (val10 0 l) c (by rw [e]; exact hc)
  rw [hd] at this; cases this
theorem rdec_long {l : B} (h : 9 < l.length) : rdec l = -1 := by
  unfold rdec
  rw [if_neg]
  rintro ⟨e, _⟩; omega
theorem impl_ReadDec_eq (s : ByteArray) (hs : s.size ≤ 1099511627776) : impl_ReadDec.f s = some (rdec (L s)) := by
  unfold impl_ReadDec.f
  rw [if_pos (by omega)]
  show (match Lib.atoiAll (L s) with | .ok n => _ | _ => some (-1)) = _
  by_cases hr : rdec (L s) = -1
  · rw [hr]
    cases ha : Lib.atoiAll (L s) with
    | ok n =>
      simp only []
      rw [impl_within_eq, Option.bind_some]
      by_cases hn : 0 ≤ n ∧ n ≤ 999999999
      · rw [if_pos (decide_eq_true hn), impl_DecText_eq n (by omega) (by omega), Option.bind_some, toList_S, toList_L]
        by_cases e : Lib.itoa n = L s
        · exfalso
          have hu : n = ((n.toNat : Nat) : Int) := by omega
          rw [hu, itoa_nat] at e
          rw [← e, rdec_dec _ (by omega)] at hr
          omega
        · rw [if_neg e]
      · rw [if_neg (by simpa using hn)]
    | _ => rfl
  · obtain ⟨u, hu, hl, hv⟩ := rdec_some hr
    rw [hv, hl, atoi_dec u hu]
    simp only []
    rw [impl_within_eq, Option.bind_some, if_pos (decide_eq_true (by omega)), impl_DecText_eq _ (by omega) (by omega), Option.bind_some, toList_S, toList_L, hl, itoa_nat, if_pos rfl]
theorem step10 (a : Nat) (c : UInt8) (ha : a < 1000000000) (hc : dgt c = true) : wrap64 ((wrap64 ((wrap64 (10 * (a : Int))) + (wrap64 (c.toNat : Int)))) - 48) = ((a * 10 + (c.toNat - 48) : Nat) : Int) := by
  have h := (dgt_is c).1 hc
  rw [w64 (n := 10 * (a : Int)) (by omega) (by omega), w64 (n := (c.toNat : Int)) (by omega) (by omega), w64 (n := 10 * (a : Int) + (c.toNat : Int)) (by omega) (by omega), w64 (by omega) (by omega)]
  omega
theorem spec_ReadDec_ev (s : ByteArray) (hs : s.size ≤ 1099511627776) : Ev (fun k => spec_ReadDec.f k s) (rdec (L s)) := by
  have hsz := size_L s
  have key : ∀ (d i : Nat), i + d = (L s).length → i ≤ 9 → (∀ c ∈ (L s).take i, dgt c = true) → Ev (fun k => spec_ReadDec.l0 k s (val10 0 ((L s).take i) : Int) (i : Int)) (rdec (L s)) := by
    intro d
    induction d with
    | zero =>
      intro i hi h9 hall
      have e : (L s).take i = L s := List.take_of_length_le (by omega)
      rw [e] at hall ⊢
      have hlt : val10 0 (L s) < 1000000000 := by
        have := val10_lt (L s) 0 hall
        have h2 : 10 ^ (L s).length ≤ 10 ^ 9 := Nat.pow_le_pow_right (by decide) (by omega)
        rw [p9] at h2; omega
      have hd := spec_DecText_ev ((val10 0 (L s) : Nat) : Int) (by omega) (by omega)
      rw [itoa_nat] at hd
      refine Ev.step (f := fun k => if s.toList = ([] : List UInt8) then some (-1) else (spec_DecText.f k ((val10 0 (L s) : Nat) : Int)).bind fun t => if t.toList = s.toList then some ((val10 0 (L s) : Nat) : Int) else some (-1)) (fun k => by rw [spec_ReadDec.l0, if_neg (by omega)]) ?_
      rw [toList_L]
      unfold rdec
      by_cases h0 : L s = []
      · refine ev_pos h0 (ev_use (Ev.now _) ?_)
        rw [if_neg]
        rintro ⟨_, e2⟩
        rw [h0] at e2
        exact dec_ne _ e2
      · refine ev_neg h0 (Ev.bind hd ?_)
        rw [toList_S]
        by_cases h1 : Lib.decDigits (val10 0 (L s)) = L s
        · exact ev_use (ev_pos h1 (Ev.now _)) (if_pos ⟨by omega, h1⟩).symm
        · exact ev_use (ev_neg h1 (Ev.now _)) (if_neg (fun h => h1 h.2)).symm
    | succ d ih =>
      intro i hi h9 hall
      have hlt : i < (L s).length := by omega
      have hb : bt s (i : Int) = ((at_ (L s) i).toNat : Int) := bt_nat s i
      have hby := byte_lt (at_ (L s) i)
      by_cases hc : dgt (at_ (L s) i) = true
      · by_cases hl : (L s).length > 9
        · refine Ev.step (f := fun k => some (-1)) (fun k => ?_) (ev_use (Ev.now _) (rdec_long hl).symm)
          rw [spec_ReadDec.l0, if_pos (by omega), if_pos (by omega), hb, spec_l01In_eq, Option.bind_some, w64 (by omega) (by omega), if_pos (decide_eq_true (by have := (dgt_is _).1 hc; omega)), if_pos (by omega)]
        · have htk : (L s).take (i + 1) = (L s).take i ++ [at_ (L s) i] := take_at _ _ hlt
          have hv : val10 0 ((L s).take (i + 1)) = val10 0 ((L s).take i) * 10 + ((at_ (L s) i).toNat - 48) := by rw [htk, val10_append]; rfl
          have hlt9 : val10 0 ((L s).take i) < 1000000000 := by
            have := val10_lt ((L s).take i) 0 hall
            have h2 : 10 ^ ((L s).take i).length ≤ 10 ^ 9 := Nat.pow_le_pow_right (by decide) (by rw [List.length_take]; omega)
            rw [p9] at h2; omega
          refine Ev.step (f := fun k => spec_ReadDec.l0 k s (val10 0 ((L s).take (i + 1)) : Int) ((i + 1 : Nat) : Int)) (fun k => ?_) (ih (i + 1) (by omega) (by omega) ?_)
          · rw [spec_ReadDec.l0, if_pos (by omega), if_pos (by omega), hb, spec_l01In_eq, Option.bind_some, w64 (n := ((at_ (L s) i).toNat : Int)) (by omega) (by omega), if_pos (decide_eq_true (by have := (dgt_is _).1 hc; omega)), if_neg (by omega), hv, wa1 i (by omega)]
            have := step10 (val10 0 ((L s).take i)) (at_ (L s) i) hlt9 hc
            rw [w64 (n := ((at_ (L s) i).toNat : Int)) (by omega) (by omega)] at this
            rw [this]
          · intro c hcm
            rw [htk, List.mem_append, List.mem_singleton] at hcm
            rcases hcm with h | rfl
            · exact hall c h
            · exact hc
      · have hbad : rdec (L s) = -1 := rdec_bad ⟨at_ (L s) i, by rw [at_eq _ _ hlt]; exact List.getElem_mem hlt, by simpa using hc⟩
        refine Ev.step (f := fun k => some (-1)) (fun k => ?_) (ev_use (Ev.now _) hbad.symm)
        rw [spec_ReadDec.l0, if_pos (by omega), if_pos (by omega), hb, spec_l01In_eq, Option.bind_some, w64 (by omega) (by omega), if_neg]
        rw [decide_eq_true_iff]
        intro h; exact hc ((dgt_is _).2 (by omega))
  have := key (L s).length 0 (by omega) (by omega) (by simp)
  exact this
end Go.Proofs.YtbepbfibanmhoaaGreatDoor.U
end

section
namespace Go.Proofs.YtbepbfibanmhoaaGreatDoor.U
open Go Go.RowKit Go.Proofs.YtbepbfibanmhoaaGreatDoorW.PrintWords Go.Proofs.YtbepbfibanmhoaaGreatDoor.G
set_option linter.unusedVariables false
set_option linter.unusedSimpArgs false

/-- A loop that asks each member of a list, and something behind the last. -/
theorem all_loop {α : Type} (l : List α) (z : α) (p : α → Bool) (last : Bool) (g : Nat → Int → Option Bool) (hend : Ev (fun k => g k (l.length : Int)) last)
    (hstep : ∀ (i : Nat) (r : Bool), i < l.length → Ev (fun k => g k ((i + 1 : Nat) : Int)) r → Ev (fun k => g k (i : Int)) (p (l.getD i z) && r)) : Ev (fun k => g k 0) (l.all p && last) := by
  have key : ∀ d i, i + d = l.length → Ev (fun k => g k (i : Int)) ((l.drop i).all p && last) := by
    intro d
    induction d with
    | zero =>
      intro i hi
      have e : i = l.length := by omega
      subst e
      rw [List.drop_length]; exact hend
    | succ d ih =>
      intro i hi
      rw [drop_getD l i z (by omega), List.all_cons, Bool.and_assoc]
      exact hstep i _ (by omega) (ih (i + 1) (by omega))
  have := key l.length 0 (by omega)
  exact this
theorem getD_at (l : B) (i : Nat) : l.getD i 0 = at_ l i := rfl
def isNum (l : B) : Bool := l.all dgt && (l != [])
def idc (c : UInt8) : Bool := decide (97 ≤ c.toNat ∧ c.toNat ≤ 122) || decide (65 ≤ c.toNat ∧ c.toNat ≤ 90) || decide (48 ≤ c.toNat ∧ c.toNat ≤ 57) || c == 45
/-- An identifier that may stand behind a version. -/
def preOk (l : B) : Bool := l.all idc && (decide (1 ≤ l.length ∧ l.length ≤ 20) && (!isNum l || decide (0 ≤ rdec l)))
def num9 (n : Int) : Bool := decide (0 ≤ n ∧ n ≤ 999999999)
def verOk (a b c : Int) (l : List ByteArray) : Bool := (num9 a && num9 b && num9 c) && (l.all (fun p => preOk (L p)) && decide (l.length ≤ 5))
theorem spec_dgt (c : UInt8) : spec_l01In.f (wrap64 (c.toNat : Int)) 48 57 = some (dgt c) := by
  have := byte_lt c
  rw [spec_l01In_eq, w64 (by omega) (by omega)]
  congr 1
  unfold dgt
  by_cases h : 48 ≤ c.toNat ∧ c.toNat ≤ 57
  · rw [decide_eq_true h, decide_eq_true (by omega)]
  · rw [decide_eq_false h, decide_eq_false (by omega)]
theorem spec_l02Digits_ev (s : ByteArray) (hs : s.size ≤ 1099511627776) : Ev (fun k => spec_l02Digits.f k s) (isNum (L s)) := by
  have hsz := size_L s
  refine all_loop (L s) 0 dgt ((L s) != []) (fun k i => spec_l02Digits.l0 k s i) ?_ ?_
  · exact Ev.step (f := fun k => some (s.toList != ([] : List UInt8))) (fun k => by show spec_l02Digits.l0 (k + 1) s _ = _; rw [spec_l02Digits.l0, if_neg (by omega)]) (by rw [toList_L]; exact Ev.now _)
  · intro i r hi hr
    rw [getD_at]
    have hb : bt s (i : Int) = ((at_ (L s) i).toNat : Int) := bt_nat s i
    by_cases h : dgt (at_ (L s) i) = true
    · rw [h, Bool.true_and]
      refine Ev.step (fun k => ?_) hr
      show spec_l02Digits.l0 (k + 1) s _ = _
      rw [spec_l02Digits.l0, if_pos (by omega), if_pos (by omega), hb, spec_dgt, Option.bind_some, if_pos h, wa1 i (by omega)]
    · refine Ev.step (f := fun k => some false) (fun k => ?_) (by simp only [Bool.not_eq_true] at h; rw [h]; exact Ev.now _)
      show spec_l02Digits.l0 (k + 1) s _ = _
      rw [spec_l02Digits.l0, if_pos (by omega), if_pos (by omega), hb, spec_dgt, Option.bind_some, if_neg h]
theorem id_spec (c : UInt8) : ∃ a b, spec_l01Letter.f (c.toNat : Int) = some a ∧ spec_l01Great.f (c.toNat : Int) = some b ∧ idc c = (a || b || decide ((c.toNat : Int) = 45)) := by
  have ha : ∀ c : UInt8, spec_l01Letter.f (c.toNat : Int) = some (decide (97 ≤ c.toNat ∧ c.toNat ≤ 122) || decide (48 ≤ c.toNat ∧ c.toNat ≤ 57)) := by refine all_bytes ?_; decide +kernel
  have hb : ∀ c : UInt8, spec_l01Great.f (c.toNat : Int) = some (decide (65 ≤ c.toNat ∧ c.toNat ≤ 90)) := by refine all_bytes ?_; decide +kernel
  refine ⟨_, _, ha c, hb c, ?_⟩
  revert c; refine all_bytes ?_; decide +kernel
theorem spec_id {α : Type} (c : UInt8) (x : Option α) (y : Option α) : ((spec_l01Letter.f (c.toNat : Int)).bind fun t289 => (if t289 = true then x else ((spec_l01Great.f (c.toNat : Int)).bind fun t290 => (if t290 = true then x else (if (c.toNat : Int) = 45 then x else y))))) = if idc c = true then x else y := by
  obtain ⟨a, b, ha, hb, hc⟩ := id_spec c
  rw [ha, hb, hc, Option.bind_some, Option.bind_some]
  cases a <;> cases b <;> simp
theorem spec_l02Pre_ev (s : ByteArray) (hs : s.size ≤ 1099511627776) : Ev (fun k => spec_l02Pre.f k s) (preOk (L s)) := by
  have hsz := size_L s
  have hr := rdec_range (L s)
  refine all_loop (L s) 0 idc _ (fun k i => spec_l02Pre.l0 k s i) ?_ ?_
  · refine Ev.step (f := fun k => (spec_l01In.f (s.size : Int) 1 20).bind fun t286 => (if t286 = true then ((spec_l02Digits.f k s).bind fun t287 => (if t287 = true then ((spec_ReadDec.f k s).bind fun t288 => (some (decide (t288 ≥ 0)))) else (some true))) else (some false))) (fun k => by show spec_l02Pre.l0 (k + 1) s _ = _; rw [spec_l02Pre.l0, if_neg (by omega)]) ?_
    refine ev_const (spec_l01In_eq _ _ _) ?_
    by_cases h1 : 1 ≤ (L s).length ∧ (L s).length ≤ 20
    · rw [decide_eq_true h1, Bool.true_and]
      refine ev_pos (decide_eq_true (by omega)) (Ev.bind (spec_l02Digits_ev s hs) ?_)
      by_cases h2 : isNum (L s) = true
      · rw [h2, Bool.not_true, Bool.false_or]
        exact ev_pos rfl (Ev.bind (spec_ReadDec_ev s hs) (Ev.now _))
      · refine ev_use (ev_neg h2 (Ev.now _)) ?_
        simp only [Bool.not_eq_true] at h2; rw [h2]; rfl
    · rw [decide_eq_false h1]
      exact ev_neg (by simp; omega) (Ev.now _)
  · intro i r hi hr
    rw [getD_at]
    have hb : bt s (i : Int) = ((at_ (L s) i).toNat : Int) := bt_nat s i
    by_cases h : idc (at_ (L s) i) = true
    · rw [h, Bool.true_and]
      refine Ev.step (fun k => ?_) hr
      show spec_l02Pre.l0 (k + 1) s _ = _
      rw [spec_l02Pre.l0, if_pos (by omega), if_pos (by omega), hb, spec_id, if_pos h, wa1 i (by omega)]
    · refine Ev.step (f := fun k => some false) (fun k => ?_) (by simp only [Bool.not_eq_true] at h; rw [h]; exact Ev.now _)
      show spec_l02Pre.l0 (k + 1) s _ = _
      rw [spec_l02Pre.l0, if_pos (by omega), if_pos (by omega), hb, spec_id, if_neg h]
theorem spec_num9 (n : Int) : spec_l01In.f n 0 999999999 = some (num9 n) := spec_l01In_eq _ _ _
theorem impl_num9 (n : Int) : impl_within.f n 0 999999999 = some (num9 n) := impl_within_eq _ _ _
theorem len5 (n : Nat) : decide ((n : Int) ≤ 5) = decide (n ≤ 5) := by
  by_cases h : n ≤ 5
  · rw [decide_eq_true h, decide_eq_true (by omega)]
  · rw [decide_eq_false h, decide_eq_false (by omega)]
theorem spec_VersionOk_ev (a b c : Int) (l : List ByteArray) (hl : l.length ≤ 1125899906842624) (hs : ∀ x ∈ l, x.size ≤ 1099511627776) : Ev (fun k => spec_VersionOk.f k a b c l) (verOk a b c l) := by
  have hgo : Ev (fun k => spec_VersionOk.f k a b c l) (l.all (fun p => preOk (L p)) && (num9 a && (num9 b && (num9 c && decide (l.length ≤ 5))))) := by
    refine all_loop l ByteArray.empty (fun p => preOk (L p)) _ (fun k i => spec_VersionOk.l0 k i a b c l) ?_ ?_
    · refine Ev.step (f := fun k => some (num9 a && (num9 b && (num9 c && decide (l.length ≤ 5))))) (fun k => ?_) (Ev.now _)
      show spec_VersionOk.l0 (k + 1) _ a b c l = _
      rw [spec_VersionOk.l0, if_neg (by omega), spec_num9, spec_num9, spec_num9, len5]
      cases num9 a <;> cases num9 b <;> cases num9 c <;> rfl
    · intro i r hi hr
      have hx := spec_l02Pre_ev (l.getD i ByteArray.empty) (hs _ (getD_mem l i _ hi))
      refine Ev.step (f := fun k => (spec_l02Pre.f k (l.getD i ByteArray.empty)).bind fun t => if t = true then spec_VersionOk.l0 k ((i + 1 : Nat) : Int) a b c l else some false) (fun k => ?_) (Ev.bind hx ?_)
      · show spec_VersionOk.l0 (k + 1) _ a b c l = _
        rw [spec_VersionOk.l0, if_pos (by omega), if_pos (by omega), wa1 i (by omega)]; rfl
      · by_cases h : preOk (L (l.getD i ByteArray.empty)) = true
        · rw [h, Bool.true_and]; exact ev_pos rfl hr
        · simp only [Bool.not_eq_true] at h; rw [h]; exact ev_neg (by simp) (Ev.now _)
  refine ev_use hgo ?_
  unfold verOk
  cases num9 a <;> cases num9 b <;> cases num9 c <;> simp

theorem id_impl (c : UInt8) : impl_VersionOk_1.f (c.toNat : Int) = some (idc c) := by
  revert c; refine all_bytes ?_; decide +kernel
theorem impl_dgt (c : UInt8) : impl_isDigit.f (c.toNat : Int) = some (dgt c) := by
  revert c; refine all_bytes ?_; decide +kernel
theorem impl_all_id (s : ByteArray) (hs : s.size ≤ 1099511627776) : Ev (fun k => impl_all__impl_VersionOk_1.f k s) ((L s).all idc) := by
  have hsz := size_L s
  rw [← Bool.and_true ((L s).all idc)]
  refine all_loop (L s) 0 idc true (fun k i => impl_all__impl_VersionOk_1.l0 k s (s.size : Int) i) ?_ ?_
  · exact Ev.step (f := fun k => some true) (fun k => by show impl_all__impl_VersionOk_1.l0 (k + 1) s _ _ = _; rw [impl_all__impl_VersionOk_1.l0, if_neg (by omega)]) (Ev.now _)
  · intro i r hi hr
    rw [getD_at]
    have hb : bt s (i : Int) = ((at_ (L s) i).toNat : Int) := bt_nat s i
    by_cases h : idc (at_ (L s) i) = true
    · rw [h, Bool.true_and]
      refine Ev.step (fun k => ?_) hr
      show impl_all__impl_VersionOk_1.l0 (k + 1) s _ _ = _
      rw [impl_all__impl_VersionOk_1.l0, if_pos (by omega), if_pos (by omega), if_pos (by omega), hb, id_impl, Option.bind_some, if_pos h, wa1 i (by omega)]
    · refine Ev.step (f := fun k => some false) (fun k => ?_) (by simp only [Bool.not_eq_true] at h; rw [h]; exact Ev.now _)
      show impl_all__impl_VersionOk_1.l0 (k + 1) s _ _ = _
      rw [impl_all__impl_VersionOk_1.l0, if_pos (by omega), if_pos (by omega), if_pos (by omega), hb, id_impl, Option.bind_some, if_neg h]
theorem impl_all_dgt (s : ByteArray) (hs : s.size ≤ 1099511627776) : Ev (fun k => impl_all__impl_isDigit.f k s) ((L s).all dgt) := by
  have hsz := size_L s
  rw [← Bool.and_true ((L s).all dgt)]
  refine all_loop (L s) 0 dgt true (fun k i => impl_all__impl_isDigit.l0 k s (s.size : Int) i) ?_ ?_
  · exact Ev.step (f := fun k => some true) (fun k => by show impl_all__impl_isDigit.l0 (k + 1) s _ _ = _; rw [impl_all__impl_isDigit.l0, if_neg (by omega)]) (Ev.now _)
  · intro i r hi hr
    rw [getD_at]
    have hb : bt s (i : Int) = ((at_ (L s) i).toNat : Int) := bt_nat s i
    by_cases h : dgt (at_ (L s) i) = true
    · rw [h, Bool.true_and]
      refine Ev.step (fun k => ?_) hr
      show impl_all__impl_isDigit.l0 (k + 1) s _ _ = _
      rw [impl_all__impl_isDigit.l0, if_pos (by omega), if_pos (by omega), if_pos (by omega), hb, impl_dgt, Option.bind_some, if_pos h, wa1 i (by omega)]
    · refine Ev.step (f := fun k => some false) (fun k => ?_) (by simp only [Bool.not_eq_true] at h; rw [h]; exact Ev.now _)
      show impl_all__impl_isDigit.l0 (k + 1) s _ _ = _
      rw [impl_all__impl_isDigit.l0, if_pos (by omega), if_pos (by omega), if_pos (by omega), hb, impl_dgt, Option.bind_some, if_neg h]
theorem impl_isNumber_ev (s : ByteArray) (hs : s.size ≤ 1099511627776) : Ev (fun k => impl_isNumber.f k s) (isNum (L s)) := by
  unfold impl_isNumber.f isNum
  rw [toList_L]
  by_cases h : L s = []
  · refine ev_use (ev_pos h (Ev.now _)) ?_
    rw [h]; rfl
  · refine ev_use (ev_neg h (Ev.bind (impl_all_dgt s hs) (Ev.now _))) ?_
    have : (L s != []) = true := bne_iff_ne.2 h
    rw [this, Bool.and_true]
theorem impl_VersionOk_l1_ev (a b c : Int) (l : List ByteArray) (hl : l.length ≤ 1125899906842624) (hs : ∀ x ∈ l, x.size ≤ 1099511627776) : Ev (fun k => impl_VersionOk.l1 k l (l.length : Int) 0 a b c l) (l.all (fun p => preOk (L p)) && decide (l.length ≤ 5)) := by
  refine all_loop l ByteArray.empty (fun p => preOk (L p)) _ (fun k i => impl_VersionOk.l1 k l (l.length : Int) i a b c l) ?_ ?_
  · refine Ev.step (f := fun k => some (decide (l.length ≤ 5))) (fun k => ?_) (Ev.now _)
    show impl_VersionOk.l1 (k + 1) l _ _ a b c l = _
    rw [impl_VersionOk.l1, if_neg (by omega), len5]
  · intro i r hi hr
    have hm := hs _ (getD_mem l i ByteArray.empty hi)
    have ee : rdOf ByteArray.empty l (i : Int) = l.getD i ByteArray.empty := rfl
    refine Ev.step (f := fun k => (impl_within.f ((l.getD i ByteArray.empty).size : Int) 1 20).bind fun t320 => (if t320 = true then ((impl_all__impl_VersionOk_1.f k (l.getD i ByteArray.empty)).bind fun t321 => (if t321 = true then ((impl_isNumber.f k (l.getD i ByteArray.empty)).bind fun t322 => (if t322 = true then ((impl_ReadDec.f (l.getD i ByteArray.empty)).bind fun t323 => (if t323 < 0 then (some false) else (impl_VersionOk.l1 k l (l.length : Int) ((i + 1 : Nat) : Int) a b c l))) else (impl_VersionOk.l1 k l (l.length : Int) ((i + 1 : Nat) : Int) a b c l))) else (some false))) else (some false))) (fun k => ?_) ?_
    · show impl_VersionOk.l1 (k + 1) l _ _ a b c l = _
      rw [impl_VersionOk.l1, if_pos (by omega), if_pos (by omega), if_pos (by omega), wa1 i (by omega), ee]
    · generalize l.getD i ByteArray.empty = s at hm ⊢
      have hsz := size_L s
      refine ev_const (impl_within_eq _ _ _) ?_
      unfold preOk
      by_cases h1 : 1 ≤ (L s).length ∧ (L s).length ≤ 20
      · rw [decide_eq_true h1, Bool.true_and]
        refine ev_pos (decide_eq_true (by omega)) (Ev.bind (impl_all_id s hm) ?_)
        by_cases h2 : (L s).all idc = true
        · rw [h2, Bool.true_and]
          refine ev_pos rfl (Ev.bind (impl_isNumber_ev s hm) ?_)
          by_cases h3 : isNum (L s) = true
          · rw [h3, Bool.not_true, Bool.false_or]
            refine ev_pos rfl (ev_const (impl_ReadDec_eq s hm) ?_)
            by_cases h4 : 0 ≤ rdec (L s)
            · rw [decide_eq_true h4, Bool.true_and]; exact ev_neg (by omega) hr
            · rw [decide_eq_false h4, Bool.false_and]; exact ev_pos (by omega) (Ev.now _)
          · refine ev_neg h3 ?_
            simp only [Bool.not_eq_true] at h3; rw [h3, Bool.not_false, Bool.true_or, Bool.true_and]; exact hr
        · refine ev_neg h2 ?_
          simp only [Bool.not_eq_true] at h2; rw [h2]; exact Ev.now _
      · rw [decide_eq_false h1, Bool.false_and, Bool.and_false]
        exact ev_neg (by simp; omega) (Ev.now _)
theorem impl_VersionOk_ev (a b c : Int) (l : List ByteArray) (hl : l.length ≤ 1125899906842624) (hs : ∀ x ∈ l, x.size ≤ 1099511627776) : Ev (fun k => impl_VersionOk.f k a b c l) (verOk a b c l) := by
  have hgo : Ev (fun k => impl_VersionOk.l0 k [a, b, c] ((([a, b, c] : List Int).length : Nat) : Int) 0 a b c l) (([a, b, c] : List Int).all num9 && (l.all (fun p => preOk (L p)) && decide (l.length ≤ 5))) := by
    refine all_loop [a, b, c] 0 num9 _ (fun k i => impl_VersionOk.l0 k [a, b, c] ((([a, b, c] : List Int).length : Nat) : Int) i a b c l) ?_ ?_
    · refine Ev.step (fun k => ?_) (impl_VersionOk_l1_ev a b c l hl hs)
      show impl_VersionOk.l0 (k + 1) _ _ _ a b c l = _
      rw [impl_VersionOk.l0, if_neg (by omega)]
    · intro i r hi hr
      have ee : rd [a, b, c] (i : Int) = ([a, b, c] : List Int).getD i 0 := rfl
      have hi3 : i < 3 := hi
      refine Ev.step (f := fun k => if num9 (([a, b, c] : List Int).getD i 0) = true then impl_VersionOk.l0 k [a, b, c] ((([a, b, c] : List Int).length : Nat) : Int) ((i + 1 : Nat) : Int) a b c l else some false) (fun k => ?_) ?_
      · show impl_VersionOk.l0 (k + 1) _ _ _ a b c l = _
        rw [impl_VersionOk.l0, if_pos (by omega), if_pos (by omega), if_pos (by omega), wa1 i (by omega), ee, impl_num9, Option.bind_some]
      · by_cases h : num9 (([a, b, c] : List Int).getD i 0) = true
        · rw [h, Bool.true_and]; exact ev_pos rfl hr
        · simp only [Bool.not_eq_true] at h; rw [h]; exact ev_neg (by simp) (Ev.now _)
  refine ev_use (ev_some hgo) ?_
  unfold verOk
  simp [Bool.and_assoc]
end Go.Proofs.YtbepbfibanmhoaaGreatDoor.U
end

section
namespace Go.Proofs.YtbepbfibanmhoaaGreatDoor.U
open Go Go.RowKit Go.Proofs.YtbepbfibanmhoaaGreatDoorW.PrintWords Go.Proofs.YtbepbfibanmhoaaGreatDoor.G
set_option linter.unusedVariables false
set_option linter.unusedSimpArgs false

/-- What stands behind a version's three numbers. -/
def vtail (l : List ByteArray) : B := if l = [] then [] else 45 :: Lib.join (l.map L) [46]
def vcore (a b c : Int) : B := Lib.itoa a ++ (46 :: (Lib.itoa b ++ (46 :: Lib.itoa c)))
def vtext (a b c : Int) (l : List ByteArray) : B := if verOk a b c l = true then vcore a b c ++ vtail l else []
theorem num9_is {n : Int} (h : num9 n = true) : 0 ≤ n ∧ n ≤ 999999999 := of_decide_eq_true h
theorem verOk_is {a b c : Int} {l : List ByteArray} (h : verOk a b c l = true) : (0 ≤ a ∧ a ≤ 999999999) ∧ (0 ≤ b ∧ b ≤ 999999999) ∧ (0 ≤ c ∧ c ≤ 999999999) ∧ l.length ≤ 5 ∧ ∀ x ∈ l, preOk (L x) = true := by
  unfold verOk at h
  simp only [Bool.and_eq_true, List.all_eq_true, decide_eq_true_eq] at h
  exact ⟨num9_is h.1.1.1, num9_is h.1.1.2, num9_is h.1.2, h.2.2, h.2.1⟩
theorem preOk_len {l : B} (h : preOk l = true) : 1 ≤ l.length ∧ l.length ≤ 20 := by
  unfold preOk at h
  simp only [Bool.and_eq_true, decide_eq_true_eq] at h
  exact h.2.1
theorem itoa9 {n : Int} (h : 0 ≤ n ∧ n ≤ 999999999) : (Lib.itoa n).length ≤ 9 := by
  have e : n = ((n.toNat : Nat) : Int) := by omega
  rw [e, itoa_nat]
  exact dec_len_le 8 _ (by rw [show 8 + 1 = 9 from rfl, p9]; omega)
theorem joinTail_len : ∀ (r : List ByteArray), (∀ x ∈ r, (L x).length ≤ 20) → (Lib.joinTail [46] (r.map L)).length ≤ 21 * r.length
  | [], _ => by simp [Lib.joinTail]
  | x :: r, h => by
    have := joinTail_len r fun y hy => h y (by simp [hy])
    have hx := h x (by simp)
    unfold Lib.joinTail at *
    rw [List.map_cons, List.map_cons, List.flatten_cons, List.length_append, List.length_append, List.length_cons]
    simp at *; omega
theorem vtail_len {l : List ByteArray} (h5 : l.length ≤ 5) (h : ∀ x ∈ l, (L x).length ≤ 20) : (vtail l).length ≤ 106 := by
  unfold vtail
  cases l with
  | nil => simp
  | cons x r =>
    rw [if_neg (by simp), List.map_cons, Lib.join_cons, List.length_cons, List.length_append]
    have := joinTail_len r fun y hy => h y (by simp [hy])
    have hx := h x (by simp)
    simp at h5; omega
theorem vcore_len {a b c : Int} (ha : 0 ≤ a ∧ a ≤ 999999999) (hb : 0 ≤ b ∧ b ≤ 999999999) (hc : 0 ≤ c ∧ c ≤ 999999999) : (vcore a b c).length ≤ 29 := by
  have := itoa9 ha; have := itoa9 hb; have := itoa9 hc
  unfold vcore; simp; omega
theorem vtext_len (a b c : Int) (l : List ByteArray) : (vtext a b c l).length ≤ 135 := by
  unfold vtext
  by_cases h : verOk a b c l = true
  · obtain ⟨ha, hb, hc, h5, hl⟩ := verOk_is h
    have := vcore_len ha hb hc
    have := vtail_len h5 fun x hx => (preOk_len (hl x hx)).2
    rw [if_pos h, List.length_append]; omega
  · rw [if_neg h]; simp
theorem core_S (a b c : Int) : (((S (Lib.itoa a) ++ (⟨#[46]⟩ : ByteArray)) ++ S (Lib.itoa b)) ++ (⟨#[46]⟩ : ByteArray)) ++ S (Lib.itoa c) = S (vcore a b c) := by
  apply L_inj
  rw [L_S]
  simp only [L_append, L_S]
  show ((Lib.itoa a ++ [46]) ++ Lib.itoa b ++ [46]) ++ Lib.itoa c = _
  unfold vcore; simp
theorem one_size (c : UInt8) : (⟨#[c]⟩ : ByteArray).size = 1 := rfl
theorem put_sep (acc : B) (c : UInt8) (x : ByteArray) : (S acc ++ (⟨#[c]⟩ : ByteArray)) ++ x = S (acc ++ (c :: L x)) := by
  apply L_inj; rw [L_S, L_append, L_append, L_S]
  show (acc ++ [c]) ++ L x = _
  simp
theorem spec_VersionText_l (a b c : Int) (l : List ByteArray) (h5 : l.length ≤ 5) (h20 : ∀ x ∈ l, (L x).length ≤ 20) : ∀ d i (acc : B), i + d = l.length → 1 ≤ i → acc.length ≤ 100 + 21 * i →
    Ev (fun k => spec_VersionText.l0 k (S acc) (i : Int) a b c l) (S (acc ++ Lib.joinTail [46] ((l.drop i).map L))) := by
  intro d
  induction d with
  | zero =>
    intro i acc hi h1 ha
    rw [List.drop_of_length_le (by omega)]
    refine Ev.step (f := fun k => some (S acc)) (fun k => by rw [spec_VersionText.l0, if_neg (by omega)]) (ev_use (Ev.now _) ?_)
    simp [Lib.joinTail]
  | succ d ih =>
    intro i acc hi h1 ha
    have hlt : i < l.length := by omega
    have hm := h20 _ (getD_mem l i ByteArray.empty hlt)
    have ee : rdOf ByteArray.empty l (i : Int) = l.getD i ByteArray.empty := rfl
    rw [drop_getD l i ByteArray.empty hlt, List.map_cons]
    have e2 : Lib.joinTail [46] (L (l.getD i ByteArray.empty) :: (l.drop (i + 1)).map L) = (46 :: L (l.getD i ByteArray.empty)) ++ Lib.joinTail [46] ((l.drop (i + 1)).map L) := by
      unfold Lib.joinTail; rw [List.map_cons, List.flatten_cons]; rfl
    rw [e2, ← List.append_assoc]
    refine Ev.step (fun k => ?_) (ih (i + 1) _ (by omega) (by omega) (by rw [List.length_append, List.length_cons]; omega))
    rw [spec_VersionText.l0, if_pos (by omega), if_neg (by omega), if_pos (by rw [size_S]; omega), if_pos (by omega), ee, if_pos (by rw [ByteArray.size_append, size_S, one_size, size_L]; omega), put_sep, wa1 i (by omega)]
theorem spec_VersionText_ev (a b c : Int) (l : List ByteArray) (hl : l.length ≤ 1125899906842624) (hs : ∀ x ∈ l, x.size ≤ 1099511627776) : Ev (fun k => spec_VersionText.f k a b c l) (S (vtext a b c l)) := by
  unfold spec_VersionText.f vtext
  refine Ev.bind (spec_VersionOk_ev a b c l hl hs) ?_
  by_cases h : verOk a b c l = true
  · obtain ⟨ha, hb, hc, h5, hall⟩ := verOk_is h
    have h20 : ∀ x ∈ l, (L x).length ≤ 20 := fun x hx => (preOk_len (hall x hx)).2
    have la := itoa9 ha; have lb := itoa9 hb; have lc := itoa9 hc
    rw [if_pos h]
    refine ev_pos h (Ev.bind (spec_DecText_ev a (by omega) (by omega)) (ev_pos (by rw [size_S]; omega) (Ev.bind (spec_DecText_ev b (by omega) (by omega)) ?_)))
    refine ev_pos (by rw [ByteArray.size_append, size_S, size_S, one_size]; omega) (ev_pos (by rw [ByteArray.size_append, ByteArray.size_append, size_S, size_S, one_size]; omega) (Ev.bind (spec_DecText_ev c (by omega) (by omega)) ?_))
    refine ev_pos (by simp only [ByteArray.size_append, size_S, one_size]; omega) ?_
    rw [core_S]
    have lv := vcore_len ha hb hc
    cases l with
    | nil =>
      refine Ev.step (f := fun k => some (S (vcore a b c))) (fun k => by rw [spec_VersionText.l0, if_neg (by simp)]) (ev_use (Ev.now _) ?_)
      simp [vtail]
    | cons x r =>
      have hx := h20 x (by simp)
      have e2 : vcore a b c ++ vtail (x :: r) = (vcore a b c ++ (45 :: L x)) ++ Lib.joinTail [46] (((x :: r).drop 1).map L) := by
        unfold vtail
        rw [if_neg (by simp), List.map_cons, Lib.join_cons, List.append_assoc]; rfl
      rw [e2]
      refine Ev.step (fun k => ?_) (spec_VersionText_l a b c (x :: r) h5 h20 r.length 1 _ (by simp; omega) (by omega) (by rw [List.length_append, List.length_cons]; omega))
      have ee : rdOf ByteArray.empty (x :: r) 0 = x := rfl
      rw [spec_VersionText.l0, if_pos (by simp), if_pos rfl, if_pos (by rw [size_S]; omega), if_pos (by omega), ee, if_pos (by rw [ByteArray.size_append, size_S, one_size, size_L]; omega), put_sep, show wrap64 (0 + 1) = ((1 : Nat) : Int) from wa1 0 (by omega)]
  · rw [if_neg h]
    exact ev_neg h (Ev.now _)
theorem join_some (l : List ByteArray) (h5 : l.length ≤ 5) (h20 : ∀ x ∈ l, (L x).length ≤ 20) : strings_Join.f l (⟨#[46]⟩ : ByteArray) = some (S (Lib.join (l.map L) [46])) := by
  unfold strings_Join.f
  have e : (l.map (·.data.toList)) = l.map L := rfl
  have e2 : (⟨#[46]⟩ : ByteArray).data.toList = [46] := rfl
  rw [e, e2, if_pos]
  · rfl
  · refine ⟨by omega, ?_⟩
    cases l with
    | nil => simp [Lib.join, List.intercalate]
    | cons x r =>
      rw [List.map_cons, Lib.join_cons, List.length_append]
      have := joinTail_len r fun y hy => h20 y (by simp [hy])
      have hx := h20 x (by simp)
      simp at h5; omega
theorem impl_VersionText_ev (a b c : Int) (l : List ByteArray) (hl : l.length ≤ 1125899906842624) (hs : ∀ x ∈ l, x.size ≤ 1099511627776) : Ev (fun k => impl_VersionText.f k a b c l) (S (vtext a b c l)) := by
  unfold impl_VersionText.f vtext
  refine Ev.bind (impl_VersionOk_ev a b c l hl hs) ?_
  by_cases h : verOk a b c l = true
  · obtain ⟨ha, hb, hc, h5, hall⟩ := verOk_is h
    have h20 : ∀ x ∈ l, (L x).length ≤ 20 := fun x hx => (preOk_len (hall x hx)).2
    have la := itoa9 ha; have lb := itoa9 hb; have lc := itoa9 hc
    refine ev_pos h ?_
    rw [if_pos h]
    refine ev_const (impl_DecText_eq a (by omega) (by omega)) ?_
    refine ev_pos (by rw [size_S]; omega) (ev_const (impl_DecText_eq b (by omega) (by omega)) ?_)
    refine ev_pos (by rw [ByteArray.size_append, size_S, size_S, one_size]; omega) (ev_pos (by rw [ByteArray.size_append, ByteArray.size_append, size_S, size_S, one_size]; omega) (ev_const (impl_DecText_eq c (by omega) (by omega)) ?_))
    refine ev_pos (by simp only [ByteArray.size_append, size_S, one_size]; omega) ?_
    rw [core_S]
    have lv := vcore_len ha hb hc
    cases l with
    | nil => exact ev_use (ev_neg (by simp) (Ev.now _)) (by simp [vtail])
    | cons x r =>
      have lt := vtail_len h5 h20
      have et : vtail (x :: r) = 45 :: Lib.join ((x :: r).map L) [46] := by unfold vtail; rw [if_neg (by simp)]
      rw [et, List.length_cons] at lt
      rw [et]
      refine ev_pos (by simp only [List.length_cons]; omega) ?_
      refine ev_const (join_some _ h5 h20) ?_
      refine ev_pos (by rw [size_S]; omega) ?_
      refine ev_pos (by simp only [ByteArray.size_append, size_S, one_size]; omega) ?_
      refine ev_use (Ev.now _) ?_
      apply L_inj
      rw [L_append, L_append, L_S, L_S, L_S]; rfl
  · exact ev_use (ev_neg h (Ev.now _)) (by rw [if_neg h]; rfl)
end Go.Proofs.YtbepbfibanmhoaaGreatDoor.U
end

section
namespace Go.Proofs.YtbepbfibanmhoaaGreatDoor.U
open Go Go.RowKit Go.Proofs.YtbepbfibanmhoaaGreatDoorW.PrintWords Go.Proofs.YtbepbfibanmhoaaGreatDoor.G
set_option linter.unusedVariables false

/-- The pieces of l, cut at every c; p stands ahead of the first. -/
def cutP (c : UInt8) : B → B → List B
  | p, [] => [p]
  | p, x :: l => if x = c then p :: cutP c [] l else cutP c (p ++ [x]) l
theorem cutP_len (c : UInt8) : ∀ l p, 1 ≤ (cutP c p l).length ∧ (cutP c p l).length ≤ l.length + 1 := by
  intro l
  induction l with
  | nil => intro p; simp [cutP]
  | cons x l ih =>
    intro p
    unfold cutP
    by_cases h : x = c
    · rw [if_pos h]; have := ih []; simp only [List.length_cons]; omega
    · rw [if_neg h]; have := ih (p ++ [x]); simp only [List.length_cons]; omega
theorem spec_l01Cut_l (s : ByteArray) (c : UInt8) (hs : s.size ≤ 1048576) : ∀ d j (a : Nat) (x5 : List ByteArray), j + d = (L s).length → a ≤ j → x5.length ≤ j →
    Ev (fun k => spec_l01Cut.l0 k s (c.toNat : Int) x5 (a : Int) (j : Int)) (x5 ++ (cutP c (((L s).take j).drop a) ((L s).drop j)).map S) := by
  rw [size_L] at hs
  intro d
  induction d with
  | zero =>
    intro j a x5 hj ha h5
    have e : j = (L s).length := by omega
    subst e
    rw [List.drop_length, List.take_length]
    refine Ev.step (f := fun _ => some (x5 ++ (cutP c ((L s).drop a) []).map S)) (fun k => ?_) (Ev.now _)
    have e1 : s.extract (((a : Nat) : Int)).toNat s.size = S ((L s).drop a) := by
      apply L_inj; rw [L_extract, L_S, Int.toNat_natCast, size_L, List.take_of_length_le (by rw [List.length_drop]; omega)]
    rw [spec_l01Cut.l0, if_neg (by rw [size_L]; omega), if_pos (by omega), if_pos (by rw [size_L]; omega), if_pos (by omega), e1]
    rfl
  | succ d ih =>
    intro j a x5 hj ha h5
    have h : j < (L s).length := by omega
    rw [drop_at (L s) j h]
    by_cases hc : at_ (L s) j = c
    · have e1 : s.extract (((a : Nat) : Int)).toNat ((j : Int)).toNat = S (((L s).take j).drop a) := by
        apply L_inj; rw [L_extract, L_S, Int.toNat_natCast, Int.toNat_natCast, List.drop_take]
      refine Ev.step (f := fun k => spec_l01Cut.l0 k s (c.toNat : Int) (x5 ++ [S (((L s).take j).drop a)]) ((j + 1 : Nat) : Int) ((j + 1 : Nat) : Int)) (fun k => ?_) ?_
      · rw [spec_l01Cut.l0, if_pos (by rw [size_L]; omega), if_pos (by omega), bt_nat, if_pos (by rw [hc]), if_pos (by omega), if_pos (by omega), if_pos (by rw [size_L]; omega), if_pos (by omega), e1, wa1 j (by omega)]
      · refine ev_use (ih (j + 1) (j + 1) _ (by omega) (Nat.le_refl _) (by rw [List.length_append]; simp; omega)) ?_
        have e2 : ((L s).take (j + 1)).drop (j + 1) = [] := List.drop_eq_nil_of_le (by rw [List.length_take]; omega)
        rw [e2]
        conv => rhs; unfold cutP
        rw [if_pos hc, List.map_cons, List.append_assoc]; rfl
    · have hb : ¬ ((at_ (L s) j).toNat : Int) = (c.toNat : Int) := fun e => hc (byte_inj e)
      refine Ev.step (f := fun k => spec_l01Cut.l0 k s (c.toNat : Int) x5 (a : Int) ((j + 1 : Nat) : Int)) (fun k => ?_) ?_
      · rw [spec_l01Cut.l0, if_pos (by rw [size_L]; omega), if_pos (by omega), bt_nat, if_neg hb, wa1 j (by omega)]
      · refine ev_use (ih (j + 1) a x5 (by omega) (by omega) (by omega)) ?_
        have e2 : ((L s).take (j + 1)).drop a = ((L s).take j).drop a ++ [at_ (L s) j] := by
          rw [take_at (L s) j h, List.drop_append_of_le_length (by rw [List.length_take]; omega)]
        rw [e2]
        conv => rhs; unfold cutP
        rw [if_neg hc]
theorem spec_l01Cut_ev (s : ByteArray) (c : UInt8) (hs : s.size ≤ 1048576) : Ev (fun k => spec_l01Cut.f k s (c.toNat : Int)) ((cutP c [] (L s)).map S) := by
  have := spec_l01Cut_l s c hs (L s).length 0 0 [] (by omega) (by omega) (by simp)
  unfold spec_l01Cut.f
  simpa using this

theorem index_free (c : UInt8) : ∀ (p l : B), c ∉ p → Lib.indexByte (p ++ c :: l) c = (p.length : Int) := by
  intro p
  induction p with
  | nil => intro l _; simp [Lib.indexByte]
  | cons x p ih =>
    intro l h
    simp only [List.mem_cons, not_or] at h
    have hx : ¬ x = c := fun e => h.1 e.symm
    have := ih l h.2
    rw [List.cons_append]
    unfold Lib.indexByte
    rw [if_neg (by simpa using hx), this, if_neg (by simp), List.length_cons]; omega
theorem splitK_cut (c : UInt8) : ∀ (l p : B), c ∉ p → Lib.splitK [c] 0 ((p ++ l).count c) (p ++ l) = cutP c p l := by
  intro l
  induction l with
  | nil =>
    intro p hp
    rw [List.append_nil, List.count_eq_zero_of_not_mem hp]; rfl
  | cons x l ih =>
    intro p hp
    unfold cutP
    by_cases h : x = c
    · subst h
      rw [if_pos rfl]
      have e : (p ++ x :: l).count x = l.count x + 1 := by rw [List.count_append, List.count_eq_zero_of_not_mem hp, List.count_cons_self]; omega
      have ei : Lib.index (p ++ x :: l) [x] = (p.length : Int) := by rw [Lib.index_one, index_free x p l hp]
      rw [e, Lib.splitK, if_neg (by rw [ei]; simp), ei, Int.toNat_natCast, List.take_left']
      · have ed : (p ++ x :: l).drop (p.length + [x].length) = l := by rw [List.drop_append]; simp
        rw [ed]; congr 1
        exact ih [] (by simp)
      · simp
    · rw [if_neg h]
      have := ih (p ++ [x]) (by simp only [List.mem_append, List.mem_singleton, not_or]; exact ⟨hp, fun e => h e.symm⟩)
      rw [List.append_assoc] at this; exact this
theorem split_one (s : ByteArray) (c : UInt8) (hs : s.size ≤ 1048576) : strings_Split.f s (S [c]) = some ((cutP c [] (L s)).map S) := by
  unfold strings_Split.f
  rw [if_pos ⟨by omega, by simp⟩]
  congr 1
  have e1 : (S [c]).data.toList = [c] := L_S [c]
  have e2 : Lib.countB s (S [c]) = (L s).count c := by
    show Lib.count s.data.toList (S [c]).data.toList = _
    rw [e1, Lib.count_one]; rfl
  have e3 := Lib.splitB_data (S [c]) 0 (Lib.countB s (S [c])) s
  rw [e1, e2] at e3
  have e4 := splitK_cut c (L s) [] (by simp)
  rw [List.nil_append] at e4
  rw [e2]
  have e5 : (Lib.splitB (S [c]) 0 ((L s).count c) s).map L = cutP c [] (L s) := e3.trans e4
  rw [← e5, List.map_map]
  have : (S ∘ L) = (id : ByteArray → ByteArray) := by funext x; exact S_L x
  rw [this, List.map_id]
end Go.Proofs.YtbepbfibanmhoaaGreatDoor.U
end

section
namespace Go.Proofs.YtbepbfibanmhoaaGreatDoor.U
open Go Go.RowKit Go.Proofs.YtbepbfibanmhoaaGreatDoorW.PrintWords Go.Proofs.YtbepbfibanmhoaaGreatDoor.G
set_option linter.unusedVariables false
set_option linter.unusedSimpArgs false

/-- The place of a byte in a text, -1 if it is not there. -/
def idx (l : B) (c : UInt8) : Int := Lib.indexByte l c
theorem idx_nil (c : UInt8) : idx [] c = -1 := rfl
theorem idx_cons (b : UInt8) (l : B) (c : UInt8) : idx (b :: l) c = if b = c then 0 else if idx l c = -1 then -1 else idx l c + 1 := by
  show Lib.indexByte (b :: l) c = _
  rw [Lib.indexByte]
  by_cases h : b = c
  · simp [h]
  · simp [h]; rfl
theorem idx_ge (l : B) (c : UInt8) : -1 ≤ idx l c := Lib.indexByte_ge l c
theorem idx_lt (l : B) (c : UInt8) : idx l c < l.length := by
  induction l with
  | nil => rw [idx_nil]; simp
  | cons b l ih =>
    rw [idx_cons, List.length_cons]
    split
    · omega
    · split <;> omega
/-- Found from place i on. -/
def idxFrom (l : B) (c : UInt8) (i : Nat) : Int := if idx (l.drop i) c = -1 then -1 else (i : Int) + idx (l.drop i) c
theorem idxFrom_zero (l : B) (c : UInt8) : idxFrom l c 0 = idx l c := by
  unfold idxFrom; rw [List.drop_zero]; split
  · rename_i h; rw [h]
  · simp

theorem spec_l01At_ev (s : ByteArray) (c : UInt8) (hs : s.size ≤ 1099511627776) : Ev (fun k => spec_l01At.f k s (c.toNat : Int)) (idx (L s) c) := by
  rw [← idxFrom_zero]
  refine loop_up (fun k i (_ : Unit) => spec_l01At.l0 k s (c.toNat : Int) i) (L s).length (fun _ _ => True) (fun i _ => idxFrom (L s) c i) ?_ ?_ 0 () (by omega) trivial
  · intro st _
    refine Ev.step (f := fun k => some (-1)) (fun k => by rw [spec_l01At.l0, if_neg (by rw [size_L]; omega)]) ?_
    refine ev_use (Ev.now _) ?_
    unfold idxFrom; rw [List.drop_length, idx_nil, if_pos rfl]
  · intro i st hi _ ih
    have hz : (i : Int) < (s.size : Int) := by rw [size_L]; omega
    by_cases h : at_ (L s) i = c
    · refine Ev.step (f := fun k => some (i : Int)) (fun k => ?_) (ev_use (Ev.now _) ?_)
      · rw [spec_l01At.l0, if_pos hz, if_pos (by omega), bt_nat, h, if_pos rfl]
      · unfold idxFrom; rw [drop_at _ _ hi, idx_cons, if_pos h]; simp
    · refine Ev.step (f := fun k => spec_l01At.l0 k s (c.toNat : Int) ((i + 1 : Nat) : Int)) (fun k => ?_) (ev_use (ih () trivial) ?_)
      · rw [spec_l01At.l0, if_pos hz, if_pos (by omega), bt_nat, if_neg (fun e => h (byte_inj e)), inc i (by rw [← size_L] at hi; omega)]
      · unfold idxFrom; rw [drop_at _ _ hi, idx_cons, if_neg h]
        have := idx_ge ((L s).drop (i + 1)) c
        split
        · rfl
        · rw [if_neg (by omega)]; omega

end Go.Proofs.YtbepbfibanmhoaaGreatDoor.U
end

section
namespace Go.Proofs.YtbepbfibanmhoaaGreatDoor.U
open Go Go.RowKit Go.Proofs.YtbepbfibanmhoaaGreatDoorW.PrintWords Go.Proofs.YtbepbfibanmhoaaGreatDoor.G
set_option linter.unusedVariables false
set_option linter.unusedSimpArgs false

theorem cutP_mem (c : UInt8) : ∀ (l p x : B), x ∈ cutP c p l → x.length ≤ p.length + l.length := by
  intro l
  induction l with
  | nil => intro p x h; simp only [cutP, List.mem_singleton] at h; subst h; simp
  | cons y l ih =>
    intro p x h
    unfold cutP at h
    by_cases hy : y = c
    · rw [if_pos hy, List.mem_cons] at h
      rcases h with rfl | h
      · omega
      · have := ih [] x h; simp at *; omega
    · rw [if_neg hy] at h
      have := ih _ x h; simp at *; omega
/-- What stands ahead of the first '-', and the identifiers behind it. -/
def vhead (l : B) : B := if 0 ≤ idx l 45 then l.take (idx l 45).toNat else l
def vpre (l : B) : List ByteArray := if 0 ≤ idx l 45 then (cutP 46 [] (l.drop ((idx l 45).toNat + 1))).map S else []
def vpart (l : B) (i : Nat) : Int := rdec ((cutP 46 [] (vhead l)).getD i [])
def zeroV : Int × Int × Int × List ByteArray × Bool := (0, 0, 0, [], false)
/-- The version whose text l is, and whether there is one. -/
def readVer (l : B) : Int × Int × Int × List ByteArray × Bool :=
  if (cutP 46 [] (vhead l)).length = 3 ∧ vtext (vpart l 0) (vpart l 1) (vpart l 2) (vpre l) = l then (vpart l 0, vpart l 1, vpart l 2, vpre l, true) else zeroV
theorem vhead_len (l : B) : (vhead l).length ≤ l.length := by
  unfold vhead; split
  · rw [List.length_take]; omega
  · omega
theorem vpre_len (l : B) : (vpre l).length ≤ l.length + 1 := by
  unfold vpre; split
  · rw [List.length_map]; have := (cutP_len 46 (l.drop ((idx l 45).toNat + 1)) []).2; rw [List.length_drop] at this; omega
  · simp
theorem vpre_mem (l : B) : ∀ x ∈ vpre l, x.size ≤ l.length := by
  intro x hx
  unfold vpre at hx
  split at hx
  · obtain ⟨y, hy, rfl⟩ := List.mem_map.1 hx
    have := cutP_mem 46 _ [] y hy
    rw [size_S]; simp at this; omega
  · simp at hx
theorem rd_cut (q : List B) (i : Nat) : rdOf ByteArray.empty (q.map S) (i : Int) = S (q.getD i []) := by
  show (q.map S).getD i ByteArray.empty = _
  rw [List.getD_eq_getElem?_getD, List.getD_eq_getElem?_getD, List.getElem?_map]
  cases q[i]? <;> rfl
theorem getD_len (q : List B) (i n : Nat) (h : ∀ x ∈ q, x.length ≤ n) : (q.getD i []).length ≤ n := by
  rw [List.getD_eq_getElem?_getD]
  cases e : q[i]? with
  | none => simp
  | some y => exact h y (List.mem_of_getElem? e)
theorem head_part (l : B) (i : Nat) : ((cutP 46 [] (vhead l)).getD i []).length ≤ l.length :=
  getD_len _ _ _ fun x hx => by have := cutP_mem 46 _ [] x hx; have := vhead_len l; simp at *; omega
theorem vhead_nil : vhead [] = [] := rfl
theorem three_ne {l : B} (h : (cutP 46 [] (vhead l)).length = 3) : l ≠ [] := by
  rintro rfl
  rw [vhead_nil] at h
  simp [cutP] at h
theorem spec_ReadVersion_j0 (s : ByteArray) (hs : s.size ≤ 1048576) : Ev (fun k => spec_ReadVersion.j0 k s (S (vhead (L s))) 0 0 0 (vpre (L s))) (readVer (L s)) := by
  have hsz := size_L s
  have hh := vhead_len (L s)
  have hc := spec_l01Cut_ev (S (vhead (L s))) 46 (by rw [size_S]; omega)
  rw [L_S] at hc
  have hp : ∀ i, (S ((cutP 46 [] (vhead (L s))).getD i [])).size ≤ 1099511627776 := fun i => by have := head_part (L s) i; rw [size_S]; omega
  have hd : ∀ i, Ev (fun k => spec_ReadDec.f k (S ((cutP 46 [] (vhead (L s))).getD i []))) (vpart (L s) i) := fun i => by
    have := spec_ReadDec_ev _ (hp i); rw [L_S] at this; exact this
  have r0 : rdOf ByteArray.empty ((cutP 46 [] (vhead (L s))).map S) 0 = S ((cutP 46 [] (vhead (L s))).getD 0 []) := rd_cut _ 0
  have r1 : rdOf ByteArray.empty ((cutP 46 [] (vhead (L s))).map S) 1 = S ((cutP 46 [] (vhead (L s))).getD 1 []) := rd_cut _ 1
  have r2 : rdOf ByteArray.empty ((cutP 46 [] (vhead (L s))).map S) 2 = S ((cutP 46 [] (vhead (L s))).getD 2 []) := rd_cut _ 2
  refine Ev.step (fun k => by rw [spec_ReadVersion.j0]) ?_
  refine Ev.bind hc ?_
  rw [List.length_map]
  unfold readVer
  by_cases h3 : (cutP 46 [] (vhead (L s))).length = 3
  · refine ev_pos (by omega) (ev_pos (by omega) ?_)
    rw [r0]
    refine Ev.bind (hd 0) (ev_pos (by omega) ?_)
    rw [r1]
    refine Ev.bind (hd 1) (ev_pos (by omega) ?_)
    rw [r2]
    refine Ev.bind (hd 2) ?_
    have hv := vpre_len (L s); have hm := vpre_mem (L s)
    refine Ev.bind (spec_VersionText_ev _ _ _ _ (by omega) fun x hx => by have := hm x hx; omega) ?_
    rw [toList_S, toList_L]
    by_cases hv : vtext (vpart (L s) 0) (vpart (L s) 1) (vpart (L s) 2) (vpre (L s)) = L s
    · exact ev_use (ev_pos hv (Ev.now _)) (if_pos ⟨h3, hv⟩).symm
    · exact ev_use (ev_neg hv (Ev.now _)) (if_neg fun h => hv h.2).symm
  · exact ev_use (ev_neg (by omega) (Ev.now _)) (if_neg fun h => h3 h.1).symm
theorem spec_ReadVersion_ev (s : ByteArray) (hs : s.size ≤ 1048576) : Ev (fun k => spec_ReadVersion.f k s) (readVer (L s)) := by
  have hsz := size_L s
  have h := spec_ReadVersion_j0 s hs
  have hl := idx_lt (L s) 45
  have hg := idx_ge (L s) 45
  unfold spec_ReadVersion.f
  refine Ev.bind (spec_l01At_ev s 45 (by omega)) ?_
  unfold vhead vpre at h
  by_cases h0 : 0 ≤ idx (L s) 45
  · rw [if_pos h0, if_pos h0] at h
    have hw : wrap64 (idx (L s) 45 + 1) = (((idx (L s) 45).toNat + 1 : Nat) : Int) := by rw [w64 (by omega) (by omega)]; omega
    rw [hw]
    refine ev_pos h0 (ev_pos h0 (ev_pos (by omega) (ev_pos (by omega) (ev_pos (by omega) ?_))))
    have e1 : s.extract ((((idx (L s) 45).toNat + 1 : Nat) : Int)).toNat s.size = S ((L s).drop ((idx (L s) 45).toNat + 1)) := by
      apply L_inj; rw [L_extract, L_S, Int.toNat_natCast, size_L, List.take_of_length_le (by rw [List.length_drop]; omega)]
    have e2 : s.extract 0 (idx (L s) 45).toNat = S ((L s).take (idx (L s) 45).toNat) := by
      apply L_inj; rw [L_extract, L_S, List.drop_zero, Nat.sub_zero]
    have hc := spec_l01Cut_ev (S ((L s).drop ((idx (L s) 45).toNat + 1))) 46 (by rw [size_S, List.length_drop]; omega)
    rw [L_S] at hc
    rw [e1, e2]
    exact Ev.bind hc h
  · rw [if_neg h0, if_neg h0, S_L] at h
    exact ev_neg h0 h
theorem impl_cut (s : ByteArray) (hs : s.size ≤ 1048576) : strings_Cut.f s (⟨#[45]⟩ : ByteArray) = some (S (vhead (L s)), (if 0 ≤ idx (L s) 45 then S ((L s).drop ((idx (L s) 45).toNat + 1)) else ByteArray.empty), decide (0 ≤ idx (L s) 45)) := by
  unfold strings_Cut.f
  rw [if_pos (by omega)]
  have e : (⟨#[45]⟩ : ByteArray).data.toList = [45] := rfl
  have e2 : s.data.toList = L s := rfl
  rw [e, e2]
  unfold Lib.cut
  rw [Lib.index_one]
  show some (_, _, _) = _
  unfold vhead
  by_cases h : 0 ≤ idx (L s) 45
  · have h' : 0 ≤ Lib.indexByte (L s) 45 := h
    rw [if_pos h', if_pos h, if_pos h, decide_eq_true h]; rfl
  · have h' : ¬ 0 ≤ Lib.indexByte (L s) 45 := h
    rw [if_neg h', if_neg h, if_neg h, decide_eq_false h]; rfl
theorem impl_ReadVersion_ev (s : ByteArray) (hs : s.size ≤ 1048576) : Ev (fun k => impl_ReadVersion.f k s) (readVer (L s)) := by
  have hsz := size_L s
  have hh := vhead_len (L s)
  have hl := idx_lt (L s) 45
  have hp : ∀ i, (S ((cutP 46 [] (vhead (L s))).getD i [])).size ≤ 1099511627776 := fun i => by have := head_part (L s) i; rw [size_S]; omega
  have hd : ∀ i, impl_ReadDec.f (S ((cutP 46 [] (vhead (L s))).getD i [])) = some (vpart (L s) i) := fun i => by
    have := impl_ReadDec_eq _ (hp i); rw [L_S] at this; exact this
  have r0 : rdOf ByteArray.empty ((cutP 46 [] (vhead (L s))).map S) 0 = S ((cutP 46 [] (vhead (L s))).getD 0 []) := rd_cut _ 0
  have r1 : rdOf ByteArray.empty ((cutP 46 [] (vhead (L s))).map S) 1 = S ((cutP 46 [] (vhead (L s))).getD 1 []) := rd_cut _ 1
  have r2 : rdOf ByteArray.empty ((cutP 46 [] (vhead (L s))).map S) 2 = S ((cutP 46 [] (vhead (L s))).getD 2 []) := rd_cut _ 2
  have hsp := split_one (S (vhead (L s))) 46 (by rw [size_S]; omega)
  rw [L_S] at hsp
  have e46 : (⟨#[46]⟩ : ByteArray) = S [46] := rfl
  unfold impl_ReadVersion.f
  refine ev_const (impl_cut s hs) ?_
  rw [e46]
  refine ev_const hsp ?_
  rw [List.length_map]
  unfold readVer
  by_cases h3 : (cutP 46 [] (vhead (L s))).length = 3
  · have hne := three_ne h3
    refine ev_pos (by omega) (ev_pos (by omega) ?_)
    rw [r0]
    refine ev_const (hd 0) (ev_pos (by omega) ?_)
    rw [r1]
    refine ev_const (hd 1) (ev_pos (by omega) ?_)
    rw [r2]
    refine ev_const (hd 2) ?_
    have hv := vpre_len (L s); have hm := vpre_mem (L s)
    have ht := impl_VersionText_ev (vpart (L s) 0) (vpart (L s) 1) (vpart (L s) 2) (vpre (L s)) (by omega) fun x hx => by have := hm x hx; omega
    have fin : Ev (fun k => (impl_VersionText.f k (vpart (L s) 0) (vpart (L s) 1) (vpart (L s) 2) (vpre (L s))).bind fun t => if t.toList = s.toList then (if s.toList = ([] : List UInt8) then some (0, 0, 0, ([] : List ByteArray), false) else some (vpart (L s) 0, vpart (L s) 1, vpart (L s) 2, vpre (L s), true)) else some (0, 0, 0, ([] : List ByteArray), false)) (if (cutP 46 [] (vhead (L s))).length = 3 ∧ vtext (vpart (L s) 0) (vpart (L s) 1) (vpart (L s) 2) (vpre (L s)) = L s then (vpart (L s) 0, vpart (L s) 1, vpart (L s) 2, vpre (L s), true) else zeroV) := by
      refine Ev.bind ht ?_
      rw [toList_S, toList_L]
      by_cases hv : vtext (vpart (L s) 0) (vpart (L s) 1) (vpart (L s) 2) (vpre (L s)) = L s
      · exact ev_use (ev_pos hv (ev_neg hne (Ev.now _))) (if_pos ⟨h3, hv⟩).symm
      · exact ev_use (ev_neg hv (Ev.now _)) (if_neg fun h => hv h.2).symm
    by_cases h0 : 0 ≤ idx (L s) 45
    · have hc := split_one (S ((L s).drop ((idx (L s) 45).toNat + 1))) 46 (by rw [size_S, List.length_drop]; omega)
      rw [L_S] at hc
      refine ev_pos (decide_eq_true h0) ?_
      simp only [if_pos h0]
      refine ev_const hc ?_
      have ev : vpre (L s) = (cutP 46 [] ((L s).drop ((idx (L s) 45).toNat + 1))).map S := if_pos h0
      rw [ev] at fin ⊢
      exact fin
    · refine ev_neg (by simpa using h0) ?_
      have ev : vpre (L s) = [] := if_neg h0
      rw [ev] at fin ⊢
      exact fin
  · exact ev_use (ev_neg (by omega) (Ev.now _)) (if_neg fun h => h3 h.1).symm
end Go.Proofs.YtbepbfibanmhoaaGreatDoor.U
end

section
namespace Go.Proofs.YtbepbfibanmhoaaGreatDoor.U
open Go Go.RowKit Go.Proofs.YtbepbfibanmhoaaGreatDoorW.PrintWords Go.Proofs.YtbepbfibanmhoaaGreatDoor.G
set_option linter.unusedVariables false

/-- A version's text. -/
def isVer (l : B) : Bool := (readVer l).2.2.2.2
def verOr (l : B) : Bool := isVer l || l == []
theorem isVer_text {l : B} (h : isVer l = true) : ∃ a b c p, vtext a b c p = l ∧ readVer l = (a, b, c, p, true) := by
  unfold isVer at h
  unfold readVer at h ⊢
  split at h
  · rename_i hc
    exact ⟨_, _, _, _, hc.2, by rw [if_pos hc]⟩
  · simp [zeroV] at h
theorem isVer_len {l : B} (h : isVer l = true) : l.length ≤ 135 := by
  obtain ⟨a, b, c, p, e, _⟩ := isVer_text h
  rw [← e]; exact vtext_len _ _ _ _
theorem isVer_nil : isVer [] = false := by
  unfold isVer readVer
  rw [if_neg]
  · rfl
  · rintro ⟨h, _⟩; exact absurd rfl (three_ne h)
theorem verOr_len {l : B} (h : verOr l = true) : l.length ≤ 135 := by
  unfold verOr at h
  rw [Bool.or_eq_true] at h
  rcases h with h | h
  · exact isVer_len h
  · rw [beq_iff_eq] at h; rw [h]; simp
end Go.Proofs.YtbepbfibanmhoaaGreatDoor.U
end

section
namespace Go.Proofs.YtbepbfibanmhoaaGreatDoor.U
open Go Go.RowKit
set_option linter.unusedVariables false
set_option linter.unusedSimpArgs false

def cmpI (a b : Int) : Int := if a < b then -1 else if b < a then 1 else 0
def cmpP (a b : B) : Int := if 0 ≤ rdec a then (if 0 ≤ rdec b then cmpI (rdec a) (rdec b) else -1) else (if 0 ≤ rdec b then 1 else Lib.compareBytes a b)
def cmpL : List B → List B → Int
  | [], [] => 0
  | [], _ :: _ => -1
  | _ :: _, [] => 1
  | x :: l, y :: m => if cmpP x y = 0 then cmpL l m else cmpP x y
def cmpV (a b c : Int) (l : List B) (a' b' c' : Int) (l' : List B) : Int :=
  if cmpI a a' = 0 then (if cmpI b b' = 0 then (if cmpI c c' = 0 then (if l = [] ∨ l' = [] then cmpI l'.length l.length else cmpL l l') else cmpI c c') else cmpI b b') else cmpI a a'
def lex : List Int → List Int → Int
  | [], [] => 0
  | [], _ :: _ => -1
  | _ :: _, [] => 1
  | x :: l, y :: m => if x < y then -1 else if y < x then 1 else lex l m
theorem lex_self : ∀ l, lex l l = 0
  | [] => rfl
  | x :: l => by rw [lex, if_neg (by omega), if_neg (by omega), lex_self l]
theorem lex_eq : ∀ l m, lex l m = 0 → l = m
  | [], [], _ => rfl
  | [], _ :: _, h => by rw [lex] at h; omega
  | _ :: _, [], h => by rw [lex] at h; omega
  | x :: l, y :: m, h => by
    rw [lex] at h
    by_cases h1 : x < y
    · rw [if_pos h1] at h; omega
    · rw [if_neg h1] at h
      by_cases h2 : y < x
      · rw [if_pos h2] at h; omega
      · rw [if_neg h2] at h
        rw [lex_eq l m h, show x = y by omega]
theorem lex_anti : ∀ l m, lex l m = - lex m l
  | [], [] => rfl
  | [], _ :: _ => rfl
  | _ :: _, [] => rfl
  | x :: l, y :: m => by
    rw [lex, lex]
    by_cases h1 : x < y
    · rw [if_pos h1, if_neg (by omega), if_pos h1]
    · rw [if_neg h1]
      by_cases h2 : y < x
      · rw [if_pos h2, if_pos h2]; rfl
      · rw [if_neg h2, if_neg h2, if_neg h1, lex_anti l m]
theorem lex_le : ∀ l m n, lex l m ≤ 0 → lex m n ≤ 0 → lex l n ≤ 0
  | [], _, [], _, _ => Int.le_refl _
  | [], _, _ :: _, _, _ => by rw [lex]; omega
  | _ :: _, [], _, h, _ => by rw [lex] at h; omega
  | _ :: _, _ :: _, [], _, h => by rw [lex] at h; omega
  | x :: l, y :: m, z :: n, h, k => by
    rw [lex] at h k ⊢
    by_cases h1 : x < y
    · by_cases k1 : y < z
      · rw [if_pos (by omega)]; omega
      · rw [if_neg k1] at k
        by_cases k2 : z < y
        · rw [if_pos k2] at k; omega
        · rw [if_pos (by omega)]; omega
    · rw [if_neg h1] at h
      by_cases h2 : y < x
      · rw [if_pos h2] at h; omega
      · rw [if_neg h2] at h
        by_cases k1 : y < z
        · rw [if_pos (by omega)]; omega
        · rw [if_neg k1] at k
          by_cases k2 : z < y
          · rw [if_pos k2] at k; omega
          · rw [if_neg k2] at k
            rw [if_neg (by omega), if_neg (by omega)]
            exact lex_le l m n h k
theorem lex_cons (x : Int) (l m : List Int) : lex (x :: l) (x :: m) = lex l m := by rw [lex, if_neg (by omega), if_neg (by omega)]
/-- A text's bytes as numbers, with an end less than all. -/
def kT (x : B) : List Int := x.map fun c => (c.toNat : Int) + 1
def kP (x : B) : List Int := if 0 ≤ rdec x then [1, rdec x] else 2 :: (kT x ++ [0])
def kL (l : List B) : List Int := l.flatMap kP ++ [0]
def kV (a b c : Int) (l : List B) : List Int := a :: b :: c :: (if l = [] then [1] else 0 :: kL l)
theorem lex_kT : ∀ (x y : B) (r s : List Int), lex (kT x ++ 0 :: r) (kT y ++ 0 :: s) = if Lib.compareBytes x y = 0 then lex r s else Lib.compareBytes x y
  | [], [], r, s => by rw [Lib.compareBytes, if_pos rfl]; exact lex_cons 0 r s
  | [], y :: ys, r, s => by
    rw [Lib.compareBytes, if_neg (by omega)]
    show lex (0 :: r) (((y.toNat : Int) + 1) :: _) = -1
    rw [lex, if_pos (by omega)]
  | x :: xs, [], r, s => by
    rw [Lib.compareBytes, if_neg (by omega)]
    show lex (((x.toNat : Int) + 1) :: _) (0 :: s) = 1
    rw [lex, if_neg (by omega), if_pos (by omega)]
  | x :: xs, y :: ys, r, s => by
    show lex (((x.toNat : Int) + 1) :: (kT xs ++ 0 :: r)) (((y.toNat : Int) + 1) :: (kT ys ++ 0 :: s)) = _
    rw [lex, Lib.compareBytes]
    by_cases h1 : x < y
    · have := UInt8.lt_iff_toNat_lt.1 h1
      rw [if_pos (by omega), if_pos h1, if_neg (by omega)]
    · have h1' : ¬ x.toNat < y.toNat := fun h => h1 (UInt8.lt_iff_toNat_lt.2 h)
      rw [if_neg (by omega), if_neg h1]
      by_cases h2 : y < x
      · have := UInt8.lt_iff_toNat_lt.1 h2
        rw [if_pos (by omega), if_pos h2, if_neg (by omega)]
      · have h2' : ¬ y.toNat < x.toNat := fun h => h2 (UInt8.lt_iff_toNat_lt.2 h)
        rw [if_neg (by omega), if_neg h2]
        exact lex_kT xs ys r s
theorem cmpI_zero {a b : Int} (h : cmpI a b = 0) : a = b := by
  unfold cmpI at h
  by_cases h1 : a < b
  · rw [if_pos h1] at h; omega
  · rw [if_neg h1] at h
    by_cases h2 : b < a
    · rw [if_pos h2] at h; omega
    · omega
theorem cmpI_self (a : Int) : cmpI a a = 0 := by unfold cmpI; rw [if_neg (by omega), if_neg (by omega)]
theorem lex_cmpI (a b : Int) (r s : List Int) : lex (a :: r) (b :: s) = if cmpI a b = 0 then lex r s else cmpI a b := by
  rw [lex]
  unfold cmpI
  by_cases h1 : a < b
  · rw [if_pos h1, if_pos h1, if_neg (by omega)]
  · rw [if_neg h1, if_neg h1]
    by_cases h2 : b < a
    · rw [if_pos h2, if_pos h2, if_neg (by omega)]
    · rw [if_neg h2, if_neg h2, if_pos rfl]
theorem lex_kP (x y : B) (r s : List Int) : lex (kP x ++ r) (kP y ++ s) = if cmpP x y = 0 then lex r s else cmpP x y := by
  unfold kP cmpP
  by_cases h1 : 0 ≤ rdec x
  · rw [if_pos h1, if_pos h1]
    by_cases h2 : 0 ≤ rdec y
    · rw [if_pos h2, if_pos h2]
      show lex (1 :: rdec x :: r) (1 :: rdec y :: s) = _
      rw [lex_cons, lex_cmpI]
    · rw [if_neg h2, if_neg h2]
      show lex (1 :: rdec x :: r) (2 :: _) = _
      rw [lex, if_pos (by omega), if_neg (by omega)]
  · rw [if_neg h1, if_neg h1]
    by_cases h2 : 0 ≤ rdec y
    · rw [if_pos h2, if_pos h2]
      show lex (2 :: _) (1 :: rdec y :: s) = _
      rw [lex, if_neg (by omega), if_pos (by omega), if_neg (by omega)]
    · rw [if_neg h2, if_neg h2]
      show lex (2 :: ((kT x ++ [0]) ++ r)) (2 :: ((kT y ++ [0]) ++ s)) = _
      rw [lex_cons, List.append_assoc, List.append_assoc]
      exact lex_kT x y r s
theorem kP_head (x : B) : ∃ h t, kP x = h :: t ∧ 0 < h := by
  unfold kP
  by_cases h1 : 0 ≤ rdec x
  · rw [if_pos h1]; exact ⟨1, _, rfl, by omega⟩
  · rw [if_neg h1]; exact ⟨2, _, rfl, by omega⟩
theorem lex_kL : ∀ l m : List B, lex (kL l) (kL m) = cmpL l m
  | [], [] => by rw [cmpL]; exact lex_self _
  | [], y :: m => by
    obtain ⟨h, t, e, hp⟩ := kP_head y
    unfold kL
    rw [cmpL, List.flatMap_cons, e]
    show lex (0 :: []) (h :: _) = -1
    rw [lex, if_pos hp]
  | x :: l, [] => by
    obtain ⟨h, t, e, hp⟩ := kP_head x
    unfold kL
    rw [cmpL, List.flatMap_cons, e]
    show lex (h :: _) (0 :: []) = 1
    rw [lex, if_neg (by omega), if_pos hp]
  | x :: l, y :: m => by
    have ih := lex_kL l m
    unfold kL at ih ⊢
    rw [cmpL, List.flatMap_cons, List.flatMap_cons, List.append_assoc, List.append_assoc, lex_kP, ih]
theorem lex_kV (a b c : Int) (l : List B) (a' b' c' : Int) (l' : List B) : lex (kV a b c l) (kV a' b' c' l') = cmpV a b c l a' b' c' l' := by
  unfold kV cmpV
  rw [lex_cmpI, lex_cmpI, lex_cmpI]
  by_cases h1 : l = []
  · subst h1
    rw [if_pos rfl, if_pos (Or.inl rfl)]
    by_cases h2 : l' = []
    · subst h2; rw [if_pos rfl]; rfl
    · have h3 : 0 < l'.length := by cases l' with
        | nil => exact absurd rfl h2
        | cons x m => simp
      have e1 : lex [1] (0 :: kL l') = 1 := by rw [lex, if_neg (by omega), if_pos (by omega)]
      have e2 : cmpI (l'.length : Int) (([] : List B).length : Int) = 1 := by unfold cmpI; rw [List.length_nil, if_neg (by omega), if_pos (by omega)]
      rw [if_neg h2, e1, e2]
  · have h4 : 0 < l.length := by cases l with
        | nil => exact absurd rfl h1
        | cons x m => simp
    rw [if_neg h1]
    by_cases h2 : l' = []
    · subst h2
      have e1 : lex (0 :: kL l) [1] = -1 := by rw [lex, if_pos (by omega)]
      have e2 : cmpI (([] : List B).length : Int) (l.length : Int) = -1 := by unfold cmpI; rw [List.length_nil, if_pos (by omega)]
      rw [if_pos rfl, if_pos (Or.inr rfl), e1, e2]
    · rw [if_neg h2, lex_cons, lex_kL, if_neg (show ¬ (l = [] ∨ l' = []) from fun h => h.elim h1 h2)]

/-! ### when two stand alike -/
theorem bytes_zero : ∀ x y : B, Lib.compareBytes x y = 0 → x = y
  | [], [], _ => rfl
  | [], _ :: _, h => by rw [Lib.compareBytes] at h; omega
  | _ :: _, [], h => by rw [Lib.compareBytes] at h; omega
  | a :: x, b :: y, h => by
    rw [Lib.compareBytes] at h
    by_cases h1 : a < b
    · rw [if_pos h1] at h; omega
    · rw [if_neg h1] at h
      by_cases h2 : b < a
      · rw [if_pos h2] at h; omega
      · rw [if_neg h2] at h
        have h1' : ¬ a.toNat < b.toNat := fun h => h1 (UInt8.lt_iff_toNat_lt.2 h)
        have h2' : ¬ b.toNat < a.toNat := fun h => h2 (UInt8.lt_iff_toNat_lt.2 h)
        rw [bytes_zero x y h, UInt8.toNat_inj.1 (show a.toNat = b.toNat by omega)]
theorem rdec_inj {x y : B} (h : 0 ≤ rdec x) (e : rdec x = rdec y) : x = y := by
  obtain ⟨u, _, hx, hu⟩ := rdec_some (l := x) (by omega)
  obtain ⟨v, _, hy, hv⟩ := rdec_some (l := y) (by omega)
  have : u = v := by omega
  rw [hx, hy, this]
theorem cmpP_zero {x y : B} (h : cmpP x y = 0) : x = y := by
  unfold cmpP at h
  by_cases h1 : 0 ≤ rdec x
  · rw [if_pos h1] at h
    by_cases h2 : 0 ≤ rdec y
    · rw [if_pos h2] at h; exact rdec_inj h1 (cmpI_zero h)
    · rw [if_neg h2] at h; omega
  · rw [if_neg h1] at h
    by_cases h2 : 0 ≤ rdec y
    · rw [if_pos h2] at h; omega
    · rw [if_neg h2] at h; exact bytes_zero x y h
theorem cmpL_zero : ∀ l m : List B, cmpL l m = 0 → l = m
  | [], [], _ => rfl
  | [], _ :: _, h => by rw [cmpL] at h; omega
  | _ :: _, [], h => by rw [cmpL] at h; omega
  | x :: l, y :: m, h => by
    rw [cmpL] at h
    by_cases h1 : cmpP x y = 0
    · rw [if_pos h1] at h; rw [cmpP_zero h1, cmpL_zero l m h]
    · rw [if_neg h1] at h; exact absurd h h1
theorem cmpV_zero {a b c : Int} {l : List B} {a' b' c' : Int} {l' : List B} (h : cmpV a b c l a' b' c' l' = 0) : a = a' ∧ b = b' ∧ c = c' ∧ l = l' := by
  unfold cmpV at h
  by_cases h1 : cmpI a a' = 0
  · rw [if_pos h1] at h
    by_cases h2 : cmpI b b' = 0
    · rw [if_pos h2] at h
      by_cases h3 : cmpI c c' = 0
      · rw [if_pos h3] at h
        refine ⟨cmpI_zero h1, cmpI_zero h2, cmpI_zero h3, ?_⟩
        by_cases h4 : l = [] ∨ l' = []
        · rw [if_pos h4] at h
          have := cmpI_zero h
          rcases h4 with rfl | rfl
          · cases l' with
            | nil => rfl
            | cons x m => simp at this; omega
          · cases l with
            | nil => rfl
            | cons x m => simp at this; omega
        · rw [if_neg h4] at h; exact cmpL_zero l l' h
      · rw [if_neg h3] at h; exact absurd h h3
    · rw [if_neg h2] at h; exact absurd h h2
  · rw [if_neg h1] at h; exact absurd h h1

/-! ### numerals: the longer is the greater, of equal length their bytes tell -/
theorem val10_at : ∀ (x y : B) (a b : Nat), x.length = y.length → (∀ c ∈ x, dgt c = true) → (∀ c ∈ y, dgt c = true) → a < b → val10 a x < val10 b y
  | [], [], a, b, _, _, _, h => h
  | [], _ :: _, _, _, h, _, _, _ => by simp at h
  | _ :: _, [], _, _, h, _, _, _ => by simp at h
  | c :: x, d :: y, a, b, h, hx, hy, hab => by
    have hc := (dgt_is c).1 (hx c (by simp))
    exact val10_at x y _ _ (by simpa using h) (fun e he => hx e (by simp [he])) (fun e he => hy e (by simp [he])) (by omega)
theorem compare_val : ∀ (x y : B) (a : Nat), x.length = y.length → (∀ c ∈ x, dgt c = true) → (∀ c ∈ y, dgt c = true) → Lib.compareBytes x y = cmpI (val10 a x) (val10 a y)
  | [], [], a, _, _, _ => (cmpI_self _).symm
  | [], _ :: _, _, h, _, _ => by simp at h
  | _ :: _, [], _, h, _, _ => by simp at h
  | c :: x, d :: y, a, h, hx, hy => by
    have hc := (dgt_is c).1 (hx c (by simp))
    have hd := (dgt_is d).1 (hy d (by simp))
    have hx' : ∀ e ∈ x, dgt e = true := fun e he => hx e (by simp [he])
    have hy' : ∀ e ∈ y, dgt e = true := fun e he => hy e (by simp [he])
    have hl : x.length = y.length := by simpa using h
    rw [Lib.compareBytes]
    show _ = cmpI (val10 (a * 10 + (c.toNat - 48)) x) (val10 (a * 10 + (d.toNat - 48)) y)
    by_cases h1 : c < d
    · have h1' := UInt8.lt_iff_toNat_lt.1 h1
      have := val10_at x y (a * 10 + (c.toNat - 48)) (a * 10 + (d.toNat - 48)) hl hx' hy' (by omega)
      rw [if_pos h1]; unfold cmpI; rw [if_pos (by omega)]
    · have h1' : ¬ c.toNat < d.toNat := fun h => h1 (UInt8.lt_iff_toNat_lt.2 h)
      rw [if_neg h1]
      by_cases h2 : d < c
      · have h2' := UInt8.lt_iff_toNat_lt.1 h2
        have := val10_at y x (a * 10 + (d.toNat - 48)) (a * 10 + (c.toNat - 48)) hl.symm hy' hx' (by omega)
        rw [if_pos h2]; unfold cmpI; rw [if_neg (by omega), if_pos (by omega)]
      · have h2' : ¬ d.toNat < c.toNat := fun h => h2 (UInt8.lt_iff_toNat_lt.2 h)
        rw [if_neg h2, show d = c from UInt8.toNat_inj.1 (by omega)]
        exact compare_val x y _ hl hx' hy'
/-- A numeral without its leading zeros. -/
def stripz (x : B) : B := Lib.trimLeftB x 48
theorem strip_is (u : Nat) : (∀ c ∈ stripz (Lib.decDigits u), dgt c = true) ∧ val10 0 (stripz (Lib.decDigits u)) = u ∧ (∀ n, (stripz (Lib.decDigits u)).length = n + 1 → 10 ^ n ≤ u) := by
  have key : ∀ n v, v < n → 0 < v → ∃ c r, Lib.decDigits v = c :: r ∧ c ≠ 48 ∧ 10 ^ r.length ≤ v := by
    intro n
    induction n with
    | zero => intro v h; omega
    | succ n ih =>
      intro v hv h0
      by_cases h : v < 10
      · rw [Lib.decDigits_one h]
        refine ⟨_, [], rfl, ?_, by simp; omega⟩
        intro e
        have := congrArg UInt8.toNat e
        rw [dgt_of v h] at this
        simp at this; omega
      · obtain ⟨c, r, e, hc, hl⟩ := ih (v / 10) (by omega) (by omega)
        rw [decDigits_step v h, e]
        refine ⟨c, r ++ [UInt8.ofNat (48 + v % 10)], rfl, hc, ?_⟩
        rw [List.length_append, List.length_singleton, Nat.pow_succ]
        have := Nat.mul_le_mul_right 10 hl
        omega
  by_cases h0 : u = 0
  · subst h0
    have e : stripz (Lib.decDigits 0) = [] := by rw [Lib.decDigits_one (by omega)]; rfl
    rw [e]
    exact ⟨by simp, rfl, fun n h => by simp at h⟩
  · obtain ⟨c, r, e, hc, hl⟩ := key (u + 1) u (by omega) (by omega)
    have hs : stripz (Lib.decDigits u) = Lib.decDigits u := by
      unfold stripz Lib.trimLeftB
      rw [e, List.dropWhile_cons_of_neg (by simpa using hc)]
    rw [hs]
    refine ⟨dec_dgt u, dec_val u, fun n h => ?_⟩
    rw [e, List.length_cons] at h
    have : r.length = n := by omega
    rw [← this]; exact hl
theorem cmp_strip {x y : B} (hx : 0 ≤ rdec x) (hy : 0 ≤ rdec y) : (if cmpI (stripz x).length (stripz y).length = 0 then Lib.compareBytes (stripz x) (stripz y) else cmpI (stripz x).length (stripz y).length) = cmpI (rdec x) (rdec y) := by
  obtain ⟨u, _, ex, hu⟩ := rdec_some (l := x) (by omega)
  obtain ⟨v, _, ey, hv⟩ := rdec_some (l := y) (by omega)
  rw [hu, hv, ex, ey]
  obtain ⟨a1, a2, a3⟩ := strip_is u
  obtain ⟨b1, b2, b3⟩ := strip_is v
  generalize stripz (Lib.decDigits u) = p at *
  generalize stripz (Lib.decDigits v) = q at *
  have big : ∀ (p q : B) (u v : Nat), (∀ c ∈ p, dgt c = true) → val10 0 p = u → (∀ n, q.length = n + 1 → 10 ^ n ≤ v) → p.length < q.length → u < v := by
    intro p q u v h1 h2 h3 h4
    have := val10_lt p 0 h1
    rw [h2] at this
    have h5 := h3 (q.length - 1) (by omega)
    have h6 : 10 ^ p.length ≤ 10 ^ (q.length - 1) := Nat.pow_le_pow_right (by decide) (by omega)
    omega
  by_cases h : p.length = q.length
  · have e : cmpI (p.length : Int) (q.length : Int) = 0 := by rw [h]; exact cmpI_self _
    rw [if_pos e, compare_val p q 0 h a1 b1, a2, b2]
  · have lt : ∀ a b : Int, a < b → cmpI a b = -1 := fun a b h => by unfold cmpI; rw [if_pos h]
    have gt : ∀ a b : Int, b < a → cmpI a b = 1 := fun a b h => by unfold cmpI; rw [if_neg (by omega), if_pos h]
    by_cases h1 : p.length < q.length
    · have := big p q u v a1 a2 b3 h1
      rw [lt _ _ (show (p.length : Int) < q.length by omega), if_neg (by omega), lt _ _ (show (u : Int) < v by omega)]
    · have := big q p v u b1 b2 a3 (by omega)
      rw [gt _ _ (show (q.length : Int) < p.length by omega), if_neg (by omega), gt _ _ (show (v : Int) < u by omega)]
theorem text_less (a b : B) : (if Op.bytesLess a b = true then (-1 : Int) else if Op.bytesLess b a = true then 1 else 0) = Lib.compareBytes a b := by
  have h1 : ∀ a b : B, (Op.bytesLess a b = true ↔ Lib.compareBytes a b = -1) ∧ (Op.bytesLess b a = true ↔ Lib.compareBytes a b = 1) ∧ (Lib.compareBytes a b = -1 ∨ Lib.compareBytes a b = 0 ∨ Lib.compareBytes a b = 1) := by
    intro a
    induction a with
    | nil => intro b; cases b <;> simp [Op.bytesLess, Lib.compareBytes]
    | cons x a ih =>
      intro b
      cases b with
      | nil => simp [Op.bytesLess, Lib.compareBytes]
      | cons y b =>
        obtain ⟨i1, i2, i3⟩ := ih b
        rw [Op.bytesLess, Op.bytesLess, Lib.compareBytes]
        by_cases h1 : x < y
        · have h1' := UInt8.lt_iff_toNat_lt.1 h1
          have n2 : ¬ y < x := fun h => by have := UInt8.lt_iff_toNat_lt.1 h; omega
          have n3 : ¬ y = x := fun h => by rw [h] at h1'; omega
          simp [h1, n2, n3]
        · by_cases h2 : y < x
          · have h2' := UInt8.lt_iff_toNat_lt.1 h2
            have n3 : ¬ x = y := fun h => by rw [h] at h2'; omega
            simp [h1, h2, n3]
          · have h1' : ¬ x.toNat < y.toNat := fun h => h1 (UInt8.lt_iff_toNat_lt.2 h)
            have h2' : ¬ y.toNat < x.toNat := fun h => h2 (UInt8.lt_iff_toNat_lt.2 h)
            have e : x = y := UInt8.toNat_inj.1 (by omega)
            subst e
            simp [h1]
            exact ⟨i1, i2, i3⟩
  obtain ⟨i1, i2, i3⟩ := h1 a b
  by_cases c1 : Op.bytesLess a b = true
  · rw [if_pos c1, i1.1 c1]
  · rw [if_neg c1]
    by_cases c2 : Op.bytesLess b a = true
    · rw [if_pos c2, i2.1 c2]
    · rw [if_neg c2]
      rcases i3 with h | h | h
      · exact absurd (i1.2 h) c1
      · exact h.symm
      · exact absurd (i2.2 h) c2
end Go.Proofs.YtbepbfibanmhoaaGreatDoor.U
end

section
namespace Go.Proofs.YtbepbfibanmhoaaGreatDoor.U
open Go Go.RowKit Go.Sort Go.Lib
set_option linter.unusedVariables false
set_option linter.unusedSimpArgs false

variable {β : Type}
def Keyed (cf : β → β → Int) (k : β → List Int) : Prop := ∀ x y, cf x y = lex (k x) (k y)
section
variable {cf : β → β → Int} {k : β → List Int}
theorem Keyed.anti (h : Keyed cf k) (x y : β) : cf x y = - cf y x := by rw [h, h]; exact lex_anti _ _
theorem Keyed.self (h : Keyed cf k) (x : β) : cf x x = 0 := by rw [h]; exact lex_self _
theorem Keyed.le (h : Keyed cf k) {x y z : β} (a : cf x y ≤ 0) (b : cf y z ≤ 0) : cf x z ≤ 0 := by rw [h] at *; exact lex_le _ _ _ a b
theorem Keyed.le_lt (h : Keyed cf k) {x y z : β} (a : cf x y ≤ 0) (b : cf y z < 0) : cf x z < 0 := by
  have c := h.le a (by omega : cf y z ≤ 0)
  by_cases e : cf x z = 0
  · have d := h.le (x := z) (y := x) (z := y) (by rw [h.anti]; omega) a
    rw [h.anti] at d; omega
  · omega
theorem Keyed.lt_le (h : Keyed cf k) {x y z : β} (a : cf x y < 0) (b : cf y z ≤ 0) : cf x z < 0 := by
  have c := h.le (by omega : cf x y ≤ 0) b
  by_cases e : cf x z = 0
  · have d := h.le (x := y) (y := z) (z := x) b (by rw [h.anti]; omega)
    rw [h.anti] at d; omega
  · omega
theorem Keyed.swo (h : Keyed cf k) : SWO (ltOf cf) where
  irrefl x := by unfold ltOf; rw [h.self]; rfl
  trans x y z a b := by
    unfold ltOf at *
    rw [decide_eq_true_iff] at *
    exact h.lt_le a (by omega)
  ntrans x y z a b := by
    unfold ltOf at *
    rw [decide_eq_false_iff_not] at *
    have a' := h.anti x y
    have b' := h.anti y z
    have c' := h.anti x z
    have := h.le (x := z) (y := y) (z := x) (by omega) (by omega)
    omega
def Strict (cf : β → β → Int) (l : List β) : Prop := l.Pairwise fun x y => cf x y < 0
theorem strict_uniq (h : Keyed cf k) : ∀ l m : List β, Strict cf l → Strict cf m → (∀ x, x ∈ l ↔ x ∈ m) → l = m
  | [], [], _, _, _ => rfl
  | [], y :: m, _, _, e => absurd ((e y).2 (by simp)) (by simp)
  | x :: l, [], _, _, e => absurd ((e x).1 (by simp)) (by simp)
  | x :: l, y :: m, hl, hm, e => by
    unfold Strict at hl hm
    rw [List.pairwise_cons] at hl hm
    have xy : x = y := by
      have h1 := (e x).1 (by simp)
      have h2 := (e y).2 (by simp)
      rw [List.mem_cons] at h1 h2
      rcases h1 with h1 | h1
      · exact h1
      · rcases h2 with h2 | h2
        · exact h2.symm
        · have a := hm.1 x h1
          have b := hl.1 y h2
          have := h.anti x y
          omega
    subst xy
    rw [strict_uniq h l m hl.2 hm.2 fun z => ?_]
    have := e z
    rw [List.mem_cons, List.mem_cons] at this
    constructor
    · intro hz
      rcases this.1 (Or.inr hz) with rfl | h1
      · have := hl.1 z hz; rw [h.self] at this; omega
      · exact h1
    · intro hz
      rcases this.2 (Or.inr hz) with rfl | h1
      · have := hm.1 z hz; rw [h.self] at this; omega
      · exact h1
variable [DecidableEq β]
def ins (cf : β → β → Int) (s : β) : List β → List β
  | [] => [s]
  | w :: l => if cf w s < 0 then w :: ins cf s l else if w = s then w :: l else s :: w :: l
theorem mem_ins (s x : β) : ∀ l : List β, x ∈ ins cf s l ↔ x = s ∨ x ∈ l
  | [] => by simp [ins]
  | w :: l => by
    rw [ins]
    by_cases h1 : cf w s < 0
    · rw [if_pos h1, List.mem_cons, mem_ins s x l, List.mem_cons]
      constructor
      · rintro (h | h | h)
        · exact Or.inr (Or.inl h)
        · exact Or.inl h
        · exact Or.inr (Or.inr h)
      · rintro (h | h | h)
        · exact Or.inr (Or.inl h)
        · exact Or.inl h
        · exact Or.inr (Or.inr h)
    · rw [if_neg h1]
      by_cases h2 : w = s
      · subst h2; rw [if_pos rfl]; simp
      · rw [if_neg h2, List.mem_cons]
theorem strict_ins (h : Keyed cf k) (s : β) : ∀ l : List β, (∀ w ∈ l, cf w s = 0 → w = s) → Strict cf l → Strict cf (ins cf s l)
  | [], _, _ => by simp [ins, Strict]
  | w :: l, hi, hl => by
    unfold Strict at hl
    rw [List.pairwise_cons] at hl
    rw [ins]
    by_cases h1 : cf w s < 0
    · rw [if_pos h1]
      refine List.pairwise_cons.2 ⟨fun x hx => ?_, strict_ins h s l (fun v hv => hi v (by simp [hv])) hl.2⟩
      rcases (mem_ins s x l).1 hx with rfl | hx
      · exact h1
      · exact hl.1 x hx
    · rw [if_neg h1]
      by_cases h2 : w = s
      · rw [if_pos h2]; exact List.pairwise_cons.2 hl
      · rw [if_neg h2]
        have h3 : cf s w < 0 := by
          have a := h.anti s w
          have : cf w s ≠ 0 := fun e => h2 (hi w (by simp) e)
          omega
        refine List.pairwise_cons.2 ⟨fun x hx => ?_, List.pairwise_cons.2 hl⟩
        rw [List.mem_cons] at hx
        rcases hx with rfl | hx
        · exact h3
        · exact h.lt_le h3 (by have := hl.1 x hx; omega)
def sorted (cf : β → β → Int) (l : List β) : List β := l.foldl (fun out s => ins cf s out) []
theorem sorted_go (h : Keyed cf k) : ∀ (l out : List β), (∀ x, x ∈ l ∨ x ∈ out → ∀ y, y ∈ l ∨ y ∈ out → cf x y = 0 → x = y) → Strict cf out → Strict cf (l.foldl (fun out s => ins cf s out) out) ∧ ∀ x, x ∈ l.foldl (fun out s => ins cf s out) out ↔ x ∈ l ∨ x ∈ out
  | [], out, _, ho => ⟨ho, fun x => by simp⟩
  | s :: l, out, hi, ho => by
    have hs := strict_ins h s out (fun w hw => hi w (Or.inr hw) s (Or.inl (by simp))) ho
    have back : ∀ x, x ∈ l ∨ x ∈ ins cf s out → x ∈ s :: l ∨ x ∈ out := fun x hx => by
      rcases hx with hx | hx
      · exact Or.inl (by simp [hx])
      · rcases (mem_ins s x out).1 hx with rfl | hx
        · exact Or.inl (by simp)
        · exact Or.inr hx
    obtain ⟨h1, h2⟩ := sorted_go h l (ins cf s out) (fun x hx y hy => hi x (back x hx) y (back y hy)) hs
    refine ⟨h1, fun x => ?_⟩
    rw [List.foldl_cons, h2 x, mem_ins, List.mem_cons]
    constructor
    · rintro (h | h | h)
      · exact Or.inl (Or.inr h)
      · exact Or.inl (Or.inl h)
      · exact Or.inr h
    · rintro ((h | h) | h)
      · exact Or.inr (Or.inl h)
      · exact Or.inl h
      · exact Or.inr (Or.inr h)
theorem sorted_is (h : Keyed cf k) (l : List β) (hi : ∀ x ∈ l, ∀ y ∈ l, cf x y = 0 → x = y) : Strict cf (sorted cf l) ∧ ∀ x, x ∈ sorted cf l ↔ x ∈ l := by
  obtain ⟨h1, h2⟩ := sorted_go h l [] (fun x hx y hy => hi x (by simpa using hx) y (by simpa using hy)) List.Pairwise.nil
  exact ⟨h1, fun x => by have := h2 x; simpa [sorted] using this⟩
variable [Inhabited β]
theorem compact_is (h : Keyed cf k) (zs : List β) (hs : ∀ i j, i < j → j < zs.length → ¬ cf zs.toArray[j]! zs.toArray[i]! < 0) (hi : ∀ x ∈ zs, ∀ y ∈ zs, cf x y = 0 → x = y) :
    Strict cf (Lib.compact zs) ∧ ∀ x, x ∈ Lib.compact zs ↔ x ∈ zs := by
  have mem : ∀ j, j < zs.length → zs.toArray[j]! ∈ zs := fun j hj => by
    rw [getElem!_pos _ j (by simpa using hj)]; simp
  have key : ∀ m, m ≤ zs.length → Strict cf (compactUpTo zs.toArray m) ∧ (∀ x, x ∈ compactUpTo zs.toArray m ↔ ∃ j, j < m ∧ zs.toArray[j]! = x) ∧ (∀ x ∈ compactUpTo zs.toArray m, cf x zs.toArray[m - 1]! ≤ 0) := by
    intro m
    induction m with
    | zero => intro _; exact ⟨List.Pairwise.nil, fun x => by simp [compactUpTo], fun x hx => by simp [compactUpTo] at hx⟩
    | succ m ih =>
      intro hm
      obtain ⟨i1, i2, i3⟩ := ih (by omega)
      rw [compactUpTo_succ, Nat.add_sub_cancel]
      have step : ∀ x, (∃ j, j < m + 1 ∧ zs.toArray[j]! = x) ↔ (∃ j, j < m ∧ zs.toArray[j]! = x) ∨ x = zs.toArray[m]! := fun x => by
        constructor
        · rintro ⟨j, hj, e⟩
          by_cases c : j = m
          · subst c; exact Or.inr e.symm
          · exact Or.inl ⟨j, by omega, e⟩
        · rintro (⟨j, hj, e⟩ | e)
          · exact ⟨j, by omega, e⟩
          · exact ⟨m, by omega, e.symm⟩
      by_cases hk : keeps zs.toArray m = true
      · have low : ∀ x ∈ compactUpTo zs.toArray m, cf x zs.toArray[m]! < 0 := by
          intro x hx
          unfold keeps at hk
          rw [decide_eq_true_iff] at hk
          rcases hk with rfl | hk
          · simp [compactUpTo] at hx
          · have hm0 : 0 < m := by
              rcases Nat.eq_zero_or_pos m with rfl | h0
              · simp [compactUpTo] at hx
              · exact h0
            have a := hs (m - 1) m (by omega) (by omega)
            have b := h.anti zs.toArray[m - 1]! zs.toArray[m]!
            have c : cf zs.toArray[m - 1]! zs.toArray[m]! ≠ 0 := fun e => hk (hi _ (mem (m - 1) (by omega)) _ (mem m (by omega)) e).symm
            exact h.le_lt (i3 x hx) (by omega)
        rw [if_pos hk]
        refine ⟨List.pairwise_append.2 ⟨i1, by simp, fun x hx y hy => ?_⟩, fun x => ?_, fun x hx => ?_⟩
        · rw [List.mem_singleton] at hy; subst hy; exact low x hx
        · rw [List.mem_append, List.mem_singleton, i2, step]
        · rw [List.mem_append, List.mem_singleton] at hx
          rcases hx with hx | rfl
          · have := low x hx; omega
          · rw [h.self]; omega
      · have hk' : keeps zs.toArray m = false := by simpa using hk
        unfold keeps at hk'
        rw [decide_eq_false_iff_not] at hk'
        have h0 : m ≠ 0 := fun e => hk' (Or.inl e)
        have e : zs.toArray[m]! = zs.toArray[m - 1]! := by
          by_cases c : zs.toArray[m]! = zs.toArray[m - 1]!
          · exact c
          · exact absurd (Or.inr c) hk'
        rw [if_neg hk, List.append_nil]
        refine ⟨i1, fun x => ?_, fun x hx => ?_⟩
        · rw [i2, step]
          constructor
          · exact Or.inl
          · rintro (h | h)
            · exact h
            · exact ⟨m - 1, by omega, by rw [h, e]⟩
        · rw [e]; exact i3 x hx
  obtain ⟨k1, k2, _⟩ := key zs.length (Nat.le_refl _)
  refine ⟨k1, fun x => ?_⟩
  unfold compact
  rw [k2]
  constructor
  · rintro ⟨j, hj, rfl⟩; exact mem j hj
  · intro hx
    obtain ⟨j, hj, e⟩ := List.getElem_of_mem hx
    exact ⟨j, hj, by rw [getElem!_pos _ j (by simpa using hj)]; simpa using e⟩
end
end Go.Proofs.YtbepbfibanmhoaaGreatDoor.U
end

section
namespace Go.Proofs.YtbepbfibanmhoaaGreatDoor.U
open Go Go.RowKit Go.Proofs.YtbepbfibanmhoaaGreatDoorW.PrintWords Go.Proofs.YtbepbfibanmhoaaGreatDoor.G
set_option linter.unusedVariables false
set_option linter.unusedSimpArgs false

theorem cmpI_impl (a b : Int) : impl_compareInts.f a b = some (cmpI a b) := by
  unfold impl_compareInts.f cmpI
  by_cases h : a < b
  · rw [if_pos h, if_pos h]
  · rw [if_neg h, if_neg h]
    by_cases h2 : b < a
    · rw [if_pos (show a > b from h2), if_pos h2]
    · rw [if_neg (show ¬ a > b from h2), if_neg h2]
theorem cmpI_spec (a b : Int) : spec_l02Less.f a b = some (cmpI a b) := by
  unfold spec_l02Less.f cmpI
  by_cases h : a < b
  · rw [if_pos h, if_pos h]
  · rw [if_neg h, if_neg h]
    by_cases h2 : b < a
    · rw [if_pos (show a > b from h2), if_pos h2]
    · rw [if_neg (show ¬ a > b from h2), if_neg h2]
theorem spec_l02Texts_eq (a b : ByteArray) : spec_l02Texts.f a b = some (Lib.compareBytes (L a) (L b)) := by
  unfold spec_l02Texts.f
  rw [toList_L, toList_L, ← text_less]
  by_cases h : Op.bytesLess (L a) (L b) = true
  · rw [if_pos h, if_pos h]
  · rw [if_neg h, if_neg h]
    by_cases h2 : Op.bytesLess (L b) (L a) = true
    · rw [if_pos h2, if_pos h2]
    · rw [if_neg h2, if_neg h2]
theorem compare_eq (a b : ByteArray) : strings_Compare.f a b = some (Lib.compareBytes (L a) (L b)) := rfl
theorem spec_l02Part_ev (a b : ByteArray) (ha : a.size ≤ 1099511627776) (hb : b.size ≤ 1099511627776) : Ev (fun k => spec_l02Part.f k a b) (cmpP (L a) (L b)) := by
  unfold spec_l02Part.f cmpP
  refine Ev.bind (spec_ReadDec_ev a ha) (Ev.bind (spec_ReadDec_ev b hb) ?_)
  by_cases h1 : 0 ≤ rdec (L a)
  · rw [if_pos h1]
    refine ev_pos h1 ?_
    by_cases h2 : 0 ≤ rdec (L b)
    · rw [if_pos h2]
      refine Ev.step (f := fun _ => some (cmpI (rdec (L a)) (rdec (L b)))) (fun k => ?_) (Ev.now _)
      rw [spec_l02Part.j0, if_pos (decide_eq_true h2), cmpI_spec]; rfl
    · rw [if_neg h2]
      refine Ev.step (f := fun _ => some (-1)) (fun k => ?_) (Ev.now _)
      rw [spec_l02Part.j0, if_neg (by simpa using h2), if_pos h1]
  · rw [if_neg h1]
    refine ev_neg h1 ?_
    by_cases h2 : 0 ≤ rdec (L b)
    · rw [if_pos h2]
      refine Ev.step (f := fun _ => some 1) (fun k => ?_) (Ev.now _)
      rw [spec_l02Part.j0, if_neg (by decide), if_neg h1, if_pos h2]
    · rw [if_neg h2]
      refine Ev.step (f := fun _ => some (Lib.compareBytes (L a) (L b))) (fun k => ?_) (Ev.now _)
      rw [spec_l02Part.j0, if_neg (by decide), if_neg h1, if_neg h2, spec_l02Texts_eq]; rfl
theorem cmpL_end (l m : List ByteArray) (i : Nat) (h : (i = l.length ∧ i ≤ m.length) ∨ (i = m.length ∧ i ≤ l.length)) : cmpL ((l.drop i).map L) ((m.drop i).map L) = cmpI l.length m.length := by
  unfold cmpI
  by_cases h1 : l.length = i
  · rw [List.drop_of_length_le (by omega)]
    by_cases h2 : m.length = i
    · rw [List.drop_of_length_le (by omega), if_neg (by omega), if_neg (by omega)]; rfl
    · rw [drop_getD m i ByteArray.empty (by omega), if_pos (by omega)]; rfl
  · rw [drop_getD l i ByteArray.empty (by omega), List.drop_of_length_le (show m.length ≤ i by omega), if_neg (by omega), if_pos (by omega)]; rfl
theorem spec_cmp_l1 (a b c : Int) (l : List ByteArray) (a' b' c' : Int) (m : List ByteArray) (hl : l.length ≤ 1048577) (hs : ∀ x ∈ l, x.size ≤ 1048576) (ht : ∀ x ∈ m, x.size ≤ 1048576) : ∀ d i, i + d = l.length → i ≤ m.length →
    Ev (fun k => spec_CompareVersion.l1 k (i : Int) a b c l a' b' c' m) (cmpL ((l.drop i).map L) ((m.drop i).map L)) := by
  intro d
  induction d with
  | zero =>
    intro i hi hm
    rw [cmpL_end l m i (Or.inl ⟨by omega, hm⟩)]
    refine Ev.step (f := fun k => spec_CompareVersion.j3 k (i : Int) false a b c l a' b' c' m) (fun k => by rw [spec_CompareVersion.l1, if_neg (by omega)]) ?_
    exact Ev.step (f := fun _ => some (cmpI l.length m.length)) (fun k => by rw [spec_CompareVersion.j3, if_neg (by decide), cmpI_spec]; rfl) (Ev.now _)
  | succ d ih =>
    intro i hi hm
    refine Ev.step (f := fun k => spec_CompareVersion.j3 k (i : Int) (decide ((i : Int) < (m.length : Int))) a b c l a' b' c' m) (fun k => by rw [spec_CompareVersion.l1, if_pos (by omega)]) ?_
    by_cases h : i < m.length
    · have e1 : rdOf ByteArray.empty l (i : Int) = l.getD i ByteArray.empty := rfl
      have e2 : rdOf ByteArray.empty m (i : Int) = m.getD i ByteArray.empty := rfl
      have p1 := hs _ (getD_mem l i ByteArray.empty (by omega))
      have p2 := ht _ (getD_mem m i ByteArray.empty h)
      rw [drop_getD l i ByteArray.empty (by omega), drop_getD m i ByteArray.empty h, List.map_cons, List.map_cons, cmpL]
      refine Ev.step (f := fun k => (spec_l02Part.f k (l.getD i ByteArray.empty) (m.getD i ByteArray.empty)).bind fun t => if t = 0 then spec_CompareVersion.l1 k ((i + 1 : Nat) : Int) a b c l a' b' c' m else some t) (fun k => ?_) (Ev.bind (spec_l02Part_ev _ _ (by omega) (by omega)) ?_)
      · rw [spec_CompareVersion.j3, if_pos (decide_eq_true (by omega)), if_pos (by omega), if_pos (by omega), if_pos (by omega), e1, e2, wa1 i (by omega)]
      · by_cases hz : cmpP (L (l.getD i ByteArray.empty)) (L (m.getD i ByteArray.empty)) = 0
        · rw [if_pos hz]; exact ev_pos hz (ih (i + 1) (by omega) (by omega))
        · rw [if_neg hz]; exact ev_neg hz (Ev.now _)
    · rw [cmpL_end l m i (Or.inr ⟨by omega, by omega⟩)]
      exact Ev.step (f := fun _ => some (cmpI l.length m.length)) (fun k => by rw [spec_CompareVersion.j3, if_neg (by rw [decide_eq_true_iff]; omega), cmpI_spec]; rfl) (Ev.now _)
theorem map_nil {l : List ByteArray} : l.map L = [] ↔ l = [] := List.map_eq_nil_iff
theorem cmp_tail (l m : List ByteArray) : (if l.map L = [] ∨ m.map L = [] then cmpI (m.map L).length (l.map L).length else cmpL (l.map L) (m.map L)) = if l = [] ∨ m = [] then cmpI m.length l.length else cmpL (l.map L) (m.map L) := by
  by_cases h : l = [] ∨ m = []
  · rw [if_pos h, if_pos (h.imp map_nil.2 map_nil.2), List.length_map, List.length_map]
  · rw [if_neg h, if_neg fun k => h (k.imp map_nil.1 map_nil.1)]
theorem spec_CompareVersion_ev (a b c : Int) (l : List ByteArray) (a' b' c' : Int) (m : List ByteArray) (hl : l.length ≤ 1048577) (hs : ∀ x ∈ l, x.size ≤ 1048576) (ht : ∀ x ∈ m, x.size ≤ 1048576) : Ev (fun k => spec_CompareVersion.f k a b c l a' b' c' m) (cmpV a b c (l.map L) a' b' c' (m.map L)) := by
  unfold spec_CompareVersion.f cmpV
  refine ev_const (cmpI_spec _ _) (ev_const (cmpI_spec _ _) (ev_const (cmpI_spec _ _) ?_))
  generalize cmpI a a' = x
  generalize cmpI b b' = y
  generalize cmpI c c' = z
  have h3 : Ev (fun k => spec_CompareVersion.l0 k [x, y, z] ((2 + 1 : Nat) : Int) a b c l a' b' c' m) (if l.map L = [] ∨ m.map L = [] then cmpI (m.map L).length (l.map L).length else cmpL (l.map L) (m.map L)) := by
    rw [cmp_tail]
    have e : ∀ k, spec_CompareVersion.l0 (k + 1) [x, y, z] ((2 + 1 : Nat) : Int) a b c l a' b' c' m = spec_CompareVersion.j1 k (decide (l = [] ∨ m = [])) a b c l a' b' c' m := fun k => by
      rw [spec_CompareVersion.l0, if_neg (by omega)]
      cases l with
      | nil => rw [if_pos (by simp)]; simp
      | cons p l =>
        rw [if_neg (by rw [List.length_cons]; omega)]
        cases m with
        | nil => simp
        | cons q m => rw [beq_eq_false_iff_ne.2 (show ¬ ((q :: m).length : Int) = 0 by rw [List.length_cons]; omega)]; simp
    refine Ev.step e ?_
    by_cases h : l = [] ∨ m = []
    · rw [if_pos h]
      exact Ev.step (f := fun _ => some (cmpI m.length l.length)) (fun k => by rw [spec_CompareVersion.j1, if_pos (decide_eq_true h), cmpI_spec]; rfl) (Ev.now _)
    · rw [if_neg h]
      refine Ev.step (fun k => ?_) (spec_cmp_l1 a b c l a' b' c' m hl hs ht l.length 0 (by omega) (by omega))
      rw [spec_CompareVersion.j1, if_neg (by simpa using h)]; rfl
  have st : ∀ (i : Nat), i < 3 → ∀ {q : Int}, Ev (fun k => spec_CompareVersion.l0 k [x, y, z] ((i + 1 : Nat) : Int) a b c l a' b' c' m) q → Ev (fun k => spec_CompareVersion.l0 k [x, y, z] (i : Int) a b c l a' b' c' m) (if rd [x, y, z] (i : Int) = 0 then q else rd [x, y, z] (i : Int)) := by
    intro i hi q hq
    by_cases h : rd [x, y, z] (i : Int) = 0
    · rw [if_pos h]
      refine Ev.step (fun k => ?_) hq
      rw [spec_CompareVersion.l0, if_pos (by omega), if_pos (by omega), if_pos (by simp; omega), if_pos h, wa1 i (by omega)]
    · rw [if_neg h]
      refine Ev.step (f := fun _ => some (rd [x, y, z] (i : Int))) (fun k => ?_) (Ev.now _)
      rw [spec_CompareVersion.l0, if_pos (by omega), if_pos (by omega), if_pos (by simp; omega), if_neg h]
  exact st 0 (by omega) (st 1 (by omega) (st 2 (by omega) h3))

/-! ### the program's -/
theorem num_rdec {l : B} (h : preOk l = true) : isNum l = decide (0 ≤ rdec l) := by
  unfold preOk at h
  simp only [Bool.and_eq_true, Bool.or_eq_true, Bool.not_eq_true', decide_eq_true_eq] at h
  by_cases h1 : isNum l = true
  · rw [h1]
    rcases h.2.2 with h2 | h2
    · rw [h1] at h2; cases h2
    · rw [decide_eq_true h2]
  · rw [Bool.not_eq_true] at h1
    rw [h1]
    by_cases h2 : 0 ≤ rdec l
    · obtain ⟨u, _, e, _⟩ := rdec_some (l := l) (by omega)
      exfalso
      unfold isNum at h1
      rw [e] at h1
      have h3 : (Lib.decDigits u).all dgt = true := List.all_eq_true.2 (dec_dgt u)
      have h4 : (Lib.decDigits u != []) = true := bne_iff_ne.2 (dec_ne u)
      rw [h3, h4] at h1; cases h1
    · rw [decide_eq_false h2]
theorem trim0 (s : ByteArray) (hs : s.size ≤ 1048576) : strings_TrimLeft.f s (⟨#[48]⟩ : ByteArray) = some (S (stripz (L s))) := by
  unfold strings_TrimLeft.f
  rw [dif_pos (show (⟨#[48]⟩ : ByteArray).size = 1 from rfl), if_pos ⟨by decide, by omega⟩]
  rfl
theorem impl_comparePre_ev (a b : ByteArray) (ha : preOk (L a) = true) (hb : preOk (L b) = true) : Ev (fun k => impl_comparePre.f k a b) (cmpP (L a) (L b)) := by
  have la := preOk_len ha
  have lb := preOk_len hb
  rw [← size_L] at la lb
  unfold impl_comparePre.f cmpP
  refine Ev.bind (impl_isNumber_ev a (by omega)) (Ev.bind (impl_isNumber_ev b (by omega)) ?_)
  rw [num_rdec ha, num_rdec hb]
  by_cases h1 : 0 ≤ rdec (L a)
  · rw [if_pos h1]
    refine ev_pos (decide_eq_true h1) ?_
    by_cases h2 : 0 ≤ rdec (L b)
    · rw [if_pos h2]
      have hc := cmp_strip h1 h2
      refine Ev.step (f := fun _ => some (cmpI (rdec (L a)) (rdec (L b)))) (fun k => ?_) (Ev.now _)
      rw [impl_comparePre.j0, if_pos (decide_eq_true h2), trim0 a (by omega), Option.bind_some, trim0 b (by omega), Option.bind_some, cmpI_impl, Option.bind_some, size_S, size_S, compare_eq, Option.bind_some, L_S, L_S, ← hc]
      by_cases h3 : cmpI (stripz (L a)).length (stripz (L b)).length = 0
      · rw [if_pos h3, if_pos h3]
      · rw [if_neg h3, if_neg h3]
    · rw [if_neg h2]
      refine Ev.step (f := fun _ => some (-1)) (fun k => ?_) (Ev.now _)
      rw [impl_comparePre.j0, if_neg (by simpa using h2), if_pos (decide_eq_true h1)]
  · rw [if_neg h1]
    refine ev_neg (by simpa using h1) ?_
    by_cases h2 : 0 ≤ rdec (L b)
    · rw [if_pos h2]
      refine Ev.step (f := fun _ => some 1) (fun k => ?_) (Ev.now _)
      rw [impl_comparePre.j0, if_neg (by decide), if_neg (by simpa using h1), if_pos (decide_eq_true h2)]
    · rw [if_neg h2]
      refine Ev.step (f := fun _ => some (Lib.compareBytes (L a) (L b))) (fun k => ?_) (Ev.now _)
      rw [impl_comparePre.j0, if_neg (by decide), if_neg (by simpa using h1), if_neg (by simpa using h2), compare_eq]; rfl
theorem mn_nat (a b : Nat) : mn (a : Int) (b : Int) = ((min a b : Nat) : Int) := by
  unfold mn
  split <;> omega
theorem impl_cmp_l1 (a b c : Int) (l : List ByteArray) (a' b' c' : Int) (m : List ByteArray) (hl : l.length ≤ 1048577) (hs : ∀ x ∈ l, preOk (L x) = true) (ht : ∀ x ∈ m, preOk (L x) = true) : ∀ d i, i + d = min l.length m.length →
    Ev (fun k => impl_CompareVersion.l1 k ((min l.length m.length : Nat) : Int) (i : Int) a b c l a' b' c' m) (cmpL ((l.drop i).map L) ((m.drop i).map L)) := by
  intro d
  induction d with
  | zero =>
    intro i hi
    rw [cmpL_end l m i (by omega)]
    exact Ev.step (f := fun _ => some (cmpI l.length m.length)) (fun k => by rw [impl_CompareVersion.l1, if_neg (by omega), cmpI_impl]; rfl) (Ev.now _)
  | succ d ih =>
    intro i hi
    have e1 : rdOf ByteArray.empty l (i : Int) = l.getD i ByteArray.empty := rfl
    have e2 : rdOf ByteArray.empty m (i : Int) = m.getD i ByteArray.empty := rfl
    have p1 := hs _ (getD_mem l i ByteArray.empty (by omega))
    have p2 := ht _ (getD_mem m i ByteArray.empty (by omega))
    rw [drop_getD l i ByteArray.empty (by omega), drop_getD m i ByteArray.empty (by omega), List.map_cons, List.map_cons, cmpL]
    refine Ev.step (f := fun k => (impl_comparePre.f k (l.getD i ByteArray.empty) (m.getD i ByteArray.empty)).bind fun t => if t = 0 then impl_CompareVersion.l1 k ((min l.length m.length : Nat) : Int) ((i + 1 : Nat) : Int) a b c l a' b' c' m else some t) (fun k => ?_) (Ev.bind (impl_comparePre_ev _ _ p1 p2) ?_)
    · rw [impl_CompareVersion.l1, if_pos (by omega), if_pos (by omega), if_pos (by omega), if_pos (by omega), e1, e2, wa1 i (by omega)]
    · by_cases hz : cmpP (L (l.getD i ByteArray.empty)) (L (m.getD i ByteArray.empty)) = 0
      · rw [if_pos hz]; exact ev_pos hz (ih (i + 1) (by omega))
      · rw [if_neg hz]; exact ev_neg hz (Ev.now _)
theorem impl_CompareVersion_ev (a b c : Int) (l : List ByteArray) (a' b' c' : Int) (m : List ByteArray) (hl : l.length ≤ 1048577) (hs : ∀ x ∈ l, preOk (L x) = true) (ht : ∀ x ∈ m, preOk (L x) = true) : Ev (fun k => impl_CompareVersion.f k a b c l a' b' c' m) (cmpV a b c (l.map L) a' b' c' (m.map L)) := by
  unfold impl_CompareVersion.f cmpV
  refine ev_const (cmpI_impl _ _) (ev_const (cmpI_impl _ _) (ev_const (cmpI_impl _ _) (ev_some ?_)))
  generalize cmpI a a' = x
  generalize cmpI b b' = y
  generalize cmpI c c' = z
  have h3 : Ev (fun k => impl_CompareVersion.l0 k [x, y, z] (([x, y, z] : List Int).length : Int) ((2 + 1 : Nat) : Int) a b c l a' b' c' m) (if l.map L = [] ∨ m.map L = [] then cmpI (m.map L).length (l.map L).length else cmpL (l.map L) (m.map L)) := by
    rw [cmp_tail]
    have go := impl_cmp_l1 a b c l a' b' c' m hl hs ht _ 0 (Nat.zero_add _)
    by_cases h : ((((l.length : Int)) == 0) != (((m.length : Int)) == 0)) = true
    · have h' : l = [] ∨ m = [] := by
        cases l with
        | nil => exact Or.inl rfl
        | cons p l =>
          cases m with
          | nil => exact Or.inr rfl
          | cons q m =>
            exfalso
            have e1 : (((p :: l).length : Int) == 0) = false := beq_eq_false_iff_ne.2 (by rw [List.length_cons]; omega)
            have e2 : (((q :: m).length : Int) == 0) = false := beq_eq_false_iff_ne.2 (by rw [List.length_cons]; omega)
            rw [e1, e2] at h; cases h
      rw [if_pos h']
      exact Ev.step (f := fun _ => some (cmpI m.length l.length)) (fun k => by rw [impl_CompareVersion.l0, if_neg (by simp), if_pos h, cmpI_impl]; rfl) (Ev.now _)
    · have e : (if l = [] ∨ m = [] then cmpI m.length l.length else cmpL (l.map L) (m.map L)) = cmpL (l.map L) (m.map L) := by
        by_cases h' : l = [] ∨ m = []
        · have hb : l = [] ∧ m = [] := by
            cases l with
            | nil =>
              cases m with
              | nil => exact ⟨rfl, rfl⟩
              | cons q m =>
                exfalso; apply h
                have e2 : (((q :: m).length : Int) == 0) = false := beq_eq_false_iff_ne.2 (by rw [List.length_cons]; omega)
                rw [e2]; rfl
            | cons p l =>
              cases m with
              | nil =>
                exfalso; apply h
                have e1 : (((p :: l).length : Int) == 0) = false := beq_eq_false_iff_ne.2 (by rw [List.length_cons]; omega)
                rw [e1]; rfl
              | cons q m => simp at h'
          obtain ⟨rfl, rfl⟩ := hb
          rfl
        · rw [if_neg h']
      rw [e]
      refine Ev.step (fun k => ?_) go
      rw [impl_CompareVersion.l0, if_neg (by simp), if_neg h, mn_nat]; rfl
  have st : ∀ (i : Nat), i < 3 → ∀ {q : Int}, Ev (fun k => impl_CompareVersion.l0 k [x, y, z] (([x, y, z] : List Int).length : Int) ((i + 1 : Nat) : Int) a b c l a' b' c' m) q → Ev (fun k => impl_CompareVersion.l0 k [x, y, z] (([x, y, z] : List Int).length : Int) (i : Int) a b c l a' b' c' m) (if rd [x, y, z] (i : Int) = 0 then q else rd [x, y, z] (i : Int)) := by
    intro i hi q hq
    by_cases h : rd [x, y, z] (i : Int) = 0
    · rw [if_pos h]
      refine Ev.step (fun k => ?_) hq
      rw [impl_CompareVersion.l0, if_pos (by simp; omega), if_pos (by omega), if_pos (by simp; omega), if_pos h, wa1 i (by omega)]
    · rw [if_neg h]
      refine Ev.step (f := fun _ => some (rd [x, y, z] (i : Int))) (fun k => ?_) (Ev.now _)
      rw [impl_CompareVersion.l0, if_pos (by simp; omega), if_pos (by omega), if_pos (by simp; omega), if_neg h]
  exact st 0 (by omega) (st 1 (by omega) (st 2 (by omega) h3))

/-! ### texts of versions -/
theorem ver_good (l : B) : (readVer l).2.2.2.1.length ≤ 5 ∧ ∀ x ∈ (readVer l).2.2.2.1, preOk (L x) = true := by
  unfold readVer
  split
  · rename_i hc
    have hv : verOk (vpart l 0) (vpart l 1) (vpart l 2) (vpre l) = true := by
      by_cases h : verOk (vpart l 0) (vpart l 1) (vpart l 2) (vpre l) = true
      · exact h
      · exfalso
        have := hc.2
        unfold vtext at this
        rw [if_neg h] at this
        exact three_ne hc.1 this.symm
    obtain ⟨_, _, _, h5, h6⟩ := verOk_is hv
    exact ⟨h5, h6⟩
  · exact ⟨by simp [zeroV], fun x hx => by simp [zeroV] at hx⟩
theorem ver_sizes (l : B) : ∀ x ∈ (readVer l).2.2.2.1, x.size ≤ 1048576 := fun x hx => by
  have := preOk_len ((ver_good l).2 x hx)
  rw [size_L]; omega
def cmpS (x y : B) : Int := cmpV (readVer x).1 (readVer x).2.1 (readVer x).2.2.1 ((readVer x).2.2.2.1.map L) (readVer y).1 (readVer y).2.1 (readVer y).2.2.1 ((readVer y).2.2.2.1.map L)
def verK (x : B) : List Int := kV (readVer x).1 (readVer x).2.1 (readVer x).2.2.1 ((readVer x).2.2.2.1.map L)
theorem cmpS_keyed : Keyed cmpS verK := fun x y => (lex_kV _ _ _ _ _ _ _ _).symm
theorem map_L_inj : ∀ {l m : List ByteArray}, l.map L = m.map L → l = m
  | [], [], _ => rfl
  | [], _ :: _, h => by simp at h
  | _ :: _, [], h => by simp at h
  | x :: l, y :: m, h => by
    rw [List.map_cons, List.map_cons, List.cons.injEq] at h
    rw [L_inj h.1, map_L_inj h.2]
theorem cmpS_inj {x y : B} (hx : isVer x = true) (hy : isVer y = true) (h : cmpS x y = 0) : x = y := by
  obtain ⟨a, b, c, p, e1, e2⟩ := isVer_text hx
  obtain ⟨a', b', c', p', e3, e4⟩ := isVer_text hy
  unfold cmpS at h
  rw [e2, e4] at h
  obtain ⟨h1, h2, h3, h4⟩ := cmpV_zero h
  have h4' := map_L_inj h4
  simp only at h1 h2 h3 h4'
  rw [← e1, ← e3, h1, h2, h3, h4']
theorem impl_compareTexts_ev (s t : ByteArray) (hs : s.size ≤ 1048576) (ht : t.size ≤ 1048576) : Ev (fun k => impl_compareTexts.f k s t) (cmpS (L s) (L t)) := by
  unfold impl_compareTexts.f
  have h1 := ver_good (L s)
  have h2 := ver_good (L t)
  exact Ev.bind (impl_ReadVersion_ev s hs) (Ev.bind (impl_ReadVersion_ev t ht) (Ev.bind (impl_CompareVersion_ev _ _ _ _ _ _ _ _ (by omega) h1.2 h2.2) (Ev.now _)))
theorem spec_compare_ev (x y : B) : Ev (fun k => spec_CompareVersion.f k (readVer x).1 (readVer x).2.1 (readVer x).2.2.1 (readVer x).2.2.2.1 (readVer y).1 (readVer y).2.1 (readVer y).2.2.1 (readVer y).2.2.2.1) (cmpS x y) :=
  spec_CompareVersion_ev _ _ _ _ _ _ _ _ (by have := (ver_good x).1; omega) (ver_sizes x) (ver_sizes y)
end Go.Proofs.YtbepbfibanmhoaaGreatDoor.U
end

section
namespace Go.Proofs.YtbepbfibanmhoaaGreatDoor.U
open Go Go.RowKit Go.Proofs.YtbepbfibanmhoaaGreatDoorW.PrintWords Go.Proofs.YtbepbfibanmhoaaGreatDoor.G
set_option linter.unusedVariables false
set_option linter.unusedSimpArgs false

def bOk (b : S55) : Bool := verOr (L b.f0) && verOr (L b.f1)
def rangeOk (l : List S55) : Bool := l.all bOk && decide (1 ≤ l.length ∧ l.length ≤ 8)
theorem rangeOk_is {l : List S55} (h : rangeOk l = true) : (∀ b ∈ l, (L b.f0).length ≤ 135 ∧ (L b.f1).length ≤ 135) ∧ 1 ≤ l.length ∧ l.length ≤ 8 := by
  unfold rangeOk at h
  simp only [Bool.and_eq_true, List.all_eq_true, decide_eq_true_eq] at h
  refine ⟨fun b hb => ?_, h.2⟩
  have := h.1 b hb
  unfold bOk at this
  rw [Bool.and_eq_true] at this
  exact ⟨verOr_len this.1, verOr_len this.2⟩
theorem spec_l03Is_ev (s : ByteArray) (hs : s.size ≤ 1048576) : Ev (fun k => spec_l03Is.f k s) (verOr (L s)) := by
  unfold spec_l03Is.f verOr isVer
  refine Ev.bind (spec_ReadVersion_ev s hs) ?_
  rw [toList_L]
  by_cases h : (readVer (L s)).2.2.2.2 = true
  · rw [h]; exact ev_pos rfl (Ev.now _)
  · refine ev_use (ev_neg h (Ev.now _)) ?_
    simp only [Bool.not_eq_true] at h; rw [h]; rfl
theorem impl_isVersion_ev (s : ByteArray) (hs : s.size ≤ 1048576) : Ev (fun k => impl_isVersion.f k s) (isVer (L s)) := by
  unfold impl_isVersion.f isVer
  exact Ev.bind (impl_ReadVersion_ev s hs) (Ev.now _)
theorem spec_RangeOk_ev (l : List S55) (hl : l.length ≤ 1048576) (hs : ∀ b ∈ l, b.f0.size ≤ 1048576 ∧ b.f1.size ≤ 1048576) : Ev (fun k => spec_RangeOk.f k l) (rangeOk l) := by
  refine all_loop l z55 bOk _ (fun k i => spec_RangeOk.l0 k l i) ?_ ?_
  · refine Ev.step (f := fun k => some (decide (1 ≤ l.length ∧ l.length ≤ 8))) (fun k => ?_) (Ev.now _)
    show spec_RangeOk.l0 (k + 1) l _ = _
    rw [spec_RangeOk.l0, if_neg (by omega), spec_l01In_eq, Option.bind_some]
    congr 1
    by_cases h : 1 ≤ l.length ∧ l.length ≤ 8
    · rw [decide_eq_true h, decide_eq_true (by omega)]
    · rw [decide_eq_false h, decide_eq_false (by omega)]
  · intro i r hi hr
    have hm := hs _ (getD_mem l i z55 hi)
    have ee : rd_T55 l (i : Int) = l.getD i z55 := rfl
    refine Ev.step (f := fun k => (spec_l03Is.f k (l.getD i z55).f0).bind fun t => if t = true then ((spec_l03Is.f k (l.getD i z55).f1).bind fun u => if u = true then spec_RangeOk.l0 k l ((i + 1 : Nat) : Int) else some false) else some false) (fun k => ?_) ?_
    · show spec_RangeOk.l0 (k + 1) l _ = _
      rw [spec_RangeOk.l0, if_pos (by omega), if_pos (by omega), ee, wa1 i (by omega)]
    · generalize l.getD i z55 = b at hm ⊢
      unfold bOk
      refine Ev.bind (spec_l03Is_ev b.f0 hm.1) ?_
      by_cases h0 : verOr (L b.f0) = true
      · rw [h0, Bool.true_and]
        refine ev_pos rfl (Ev.bind (spec_l03Is_ev b.f1 hm.2) ?_)
        by_cases h1 : verOr (L b.f1) = true
        · rw [h1, Bool.true_and]; exact ev_pos rfl hr
        · simp only [Bool.not_eq_true] at h1; rw [h1]; exact ev_neg (by simp) (Ev.now _)
      · simp only [Bool.not_eq_true] at h0; rw [h0]; exact ev_neg (by simp) (Ev.now _)
/-- The program's question of an end, and what comes behind it. -/
theorem ask_end {s : ByteArray} (hs : s.size ≤ 1048576) {f : Nat → Option Bool} {r : Bool} (hr : Ev f r) : Ev (fun k => if s.toList = ([] : List UInt8) then f k else (impl_isVersion.f k s).bind fun t => if t = true then f k else some false) (verOr (L s) && r) := by
  rw [toList_L]
  unfold verOr
  by_cases h : L s = []
  · have : (L s == ([] : B)) = true := beq_iff_eq.2 h
    rw [this, Bool.or_true, Bool.true_and]; exact ev_pos h hr
  · have : (L s == ([] : B)) = false := beq_eq_false_iff_ne.2 h
    rw [this, Bool.or_false]
    refine ev_neg h (Ev.bind (impl_isVersion_ev s hs) ?_)
    by_cases h1 : isVer (L s) = true
    · rw [h1, Bool.true_and]; exact ev_pos rfl hr
    · simp only [Bool.not_eq_true] at h1; rw [h1]; exact ev_neg (by simp) (Ev.now _)
theorem impl_RangeOk_ev (l : List S55) (hl : l.length ≤ 1048576) (hs : ∀ b ∈ l, b.f0.size ≤ 1048576 ∧ b.f1.size ≤ 1048576) : Ev (fun k => impl_RangeOk.f k l) (rangeOk l) := by
  refine all_loop l z55 bOk _ (fun k i => impl_RangeOk.l0 k l l (l.length : Int) i) ?_ ?_
  · refine Ev.step (f := fun k => some (decide (1 ≤ l.length ∧ l.length ≤ 8))) (fun k => ?_) (Ev.now _)
    show impl_RangeOk.l0 (k + 1) l l _ _ = _
    rw [impl_RangeOk.l0, if_neg (by omega), impl_within_eq, Option.bind_some]
    congr 1
    by_cases h : 1 ≤ l.length ∧ l.length ≤ 8
    · rw [decide_eq_true h, decide_eq_true (by omega)]
    · rw [decide_eq_false h, decide_eq_false (by omega)]
  · intro i r hi hr
    have hm := hs _ (getD_mem l i z55 hi)
    have ee : rd_T55 l (i : Int) = l.getD i z55 := rfl
    refine ev_use (Ev.step (fun k => ?_) (ask_end hm.1 (ask_end hm.2 hr))) (by unfold bOk; rw [Bool.and_assoc])
    show impl_RangeOk.l0 (k + 1) l l _ _ = _
    rw [impl_RangeOk.l0, if_pos (by omega), if_pos (by omega), if_pos (by omega), ee, wa1 i (by omega)]
end Go.Proofs.YtbepbfibanmhoaaGreatDoor.U
end

section
namespace Go.Proofs.YtbepbfibanmhoaaGreatDoor.U
open Go Go.RowKit Go.Proofs.YtbepbfibanmhoaaGreatDoorW.PrintWords Go.Proofs.YtbepbfibanmhoaaGreatDoor.G
set_option linter.unusedVariables false
set_option linter.unusedSimpArgs false

/-- A loop that seeks one member of a list. -/
theorem any_loop {α : Type} (l : List α) (z : α) (p : α → Bool) (g : Nat → Int → Option Bool) (hend : Ev (fun k => g k (l.length : Int)) false)
    (hstep : ∀ (i : Nat) (r : Bool), i < l.length → Ev (fun k => g k ((i + 1 : Nat) : Int)) r → Ev (fun k => g k (i : Int)) (p (l.getD i z) || r)) : Ev (fun k => g k 0) (l.any p) := by
  have key : ∀ d i, i + d = l.length → Ev (fun k => g k (i : Int)) ((l.drop i).any p) := by
    intro d
    induction d with
    | zero =>
      intro i hi
      have e : i = l.length := by omega
      subst e
      rw [List.drop_length]; exact hend
    | succ d ih =>
      intro i hi
      rw [drop_getD l i z (by omega), List.any_cons]
      exact hstep i _ (by omega) (ih (i + 1) (by omega))
  have := key l.length 0 (by omega)
  exact this
/-- A version without identifiers, or one of the numbers of a bound's low end that has some. -/
def finB (x y : B) : Bool := decide ((readVer x).2.2.2.1 = []) || (decide ((readVer y).2.2.2.1 ≠ []) && (decide ((readVer y).1 = (readVer x).1) && (decide ((readVer y).2.1 = (readVer x).2.1) && decide ((readVer y).2.2.1 = (readVer x).2.2.1))))
def outB (x : B) (b : S55) : Bool := (isVer (L b.f0) && decide (cmpS x (L b.f0) < 0)) || (isVer (L b.f1) && decide (0 ≤ cmpS x (L b.f1)))
def inOne (x : B) (b : S55) : Bool := !outB x b && finB x (L b.f0)
def inL (x : B) (r : List S55) : Bool := (isVer x && rangeOk r) && r.any (inOne x)
theorem fin_eq (a b c a' b' c' : Int) (p q : List ByteArray) : (if (p.length : Int) = 0 then some true else (if (q.length : Int) > 0 then (if a' = a then (if b' = b then some (c' == c) else some false) else some false) else some false)) = some (decide (p = []) || (decide (q ≠ []) && (decide (a' = a) && (decide (b' = b) && decide (c' = c))))) := by
  cases p with
  | nil => rw [if_pos (by simp)]; simp
  | cons x p =>
    rw [if_neg (by rw [List.length_cons]; omega)]
    cases q with
    | nil => rw [if_neg (by simp)]; simp
    | cons y q =>
      rw [if_pos (by rw [List.length_cons]; omega)]
      by_cases h1 : a' = a
      · rw [if_pos h1]
        by_cases h2 : b' = b
        · rw [if_pos h2]; by_cases h3 : c' = c <;> simp [h1, h2, h3]
        · rw [if_neg h2]; simp [h2]
      · rw [if_neg h1]; simp [h1]
theorem fin_no (p : List ByteArray) : (if (p.length : Int) = 0 then some true else some false) = some (decide (p = [])) := by
  cases p with
  | nil => rw [if_pos (by simp)]; simp
  | cons x p => rw [if_neg (by rw [List.length_cons]; omega)]; simp
theorem no_pre {y : B} (h : ¬ isVer y = true) : (readVer y).2.2.2.1 = [] := by
  unfold isVer at h
  unfold readVer at h ⊢
  split at h
  · exact absurd rfl h
  · rename_i hc; rw [if_neg hc]; rfl
theorem finB_no {x y : B} (h : ¬ isVer y = true) : finB x y = decide ((readVer x).2.2.2.1 = []) := by
  unfold finB; rw [no_pre h]; simp
theorem spec_takes_hi (x hi : B) {f : Nat → Option Bool} {q : Bool} (hf : Ev f q) : Ev (fun k => if (readVer hi).2.2.2.2 = true then ((spec_CompareVersion.f k (readVer x).1 (readVer x).2.1 (readVer x).2.2.1 (readVer x).2.2.2.1 (readVer hi).1 (readVer hi).2.1 (readVer hi).2.2.1 (readVer hi).2.2.2.1).bind fun t => if t ≥ 0 then some false else f k) else f k) (!(isVer hi && decide (0 ≤ cmpS x hi)) && q) := by
  by_cases h : isVer hi = true
  · rw [h, Bool.true_and]
    refine ev_pos h (Ev.bind (spec_compare_ev x hi) ?_)
    by_cases h2 : 0 ≤ cmpS x hi
    · rw [decide_eq_true h2]; exact ev_pos h2 (Ev.now _)
    · rw [decide_eq_false h2]; exact ev_neg h2 hf
  · have h' : isVer hi = false := by simpa using h
    rw [h']; exact ev_neg h hf
theorem spec_l03Takes_ev (x : B) (b0 b1 : ByteArray) (h0 : b0.size ≤ 1048576) (h1 : b1.size ≤ 1048576) : Ev (fun k => spec_l03Takes.f k b0 b1 (readVer x).1 (readVer x).2.1 (readVer x).2.2.1 (readVer x).2.2.2.1) (inOne x ⟨b0, b1⟩) := by
  unfold spec_l03Takes.f inOne outB
  refine Ev.bind (spec_ReadVersion_ev b0 h0) (Ev.bind (spec_ReadVersion_ev b1 h1) ?_)
  show Ev _ (!((isVer (L b0) && decide (cmpS x (L b0) < 0)) || (isVer (L b1) && decide (0 ≤ cmpS x (L b1)))) && finB x (L b0))
  rw [fin_eq, fin_no, Bool.not_or, Bool.and_assoc]
  by_cases h : isVer (L b0) = true
  · rw [h, Bool.true_and]
    refine ev_pos h (Ev.bind (spec_compare_ev x (L b0)) ?_)
    by_cases h2 : cmpS x (L b0) < 0
    · rw [decide_eq_true h2]; exact ev_pos h2 (Ev.now _)
    · rw [decide_eq_false h2]
      exact ev_neg h2 (spec_takes_hi x (L b1) (Ev.now _))
  · have h' : isVer (L b0) = false := by simpa using h
    rw [h', finB_no h]
    exact ev_neg h (spec_takes_hi x (L b1) (Ev.now _))
theorem spec_In_ev (s : ByteArray) (l : List S55) (hsz : s.size ≤ 1048576) (hl : l.length ≤ 1048576) (hs : ∀ b ∈ l, b.f0.size ≤ 1048576 ∧ b.f1.size ≤ 1048576) : Ev (fun k => spec_In.f k s l) (inL (L s) l) := by
  unfold spec_In.f
  refine Ev.bind (spec_ReadVersion_ev s hsz) ?_
  have go : Ev (fun k => spec_In.l0 k l (isVer (L s)) 0 (readVer (L s)).1 (readVer (L s)).2.1 (readVer (L s)).2.2.1 (readVer (L s)).2.2.2.1) (l.any fun b => (isVer (L s) && rangeOk l) && inOne (L s) b) := by
    refine any_loop l z55 _ (fun k i => spec_In.l0 k l (isVer (L s)) i (readVer (L s)).1 (readVer (L s)).2.1 (readVer (L s)).2.2.1 (readVer (L s)).2.2.2.1) ?_ ?_
    · exact Ev.step (f := fun _ => some false) (fun k => by show spec_In.l0 (k + 1) l _ _ _ _ _ _ = _; rw [spec_In.l0, if_neg (by omega)]) (Ev.now _)
    · intro i r hi hr
      have hm := hs _ (getD_mem l i z55 hi)
      have ee : rd_T55 l (i : Int) = l.getD i z55 := rfl
      refine Ev.step (f := fun k => if isVer (L s) = true then ((spec_RangeOk.f k l).bind fun t => if t = true then ((spec_l03Takes.f k (l.getD i z55).f0 (l.getD i z55).f1 (readVer (L s)).1 (readVer (L s)).2.1 (readVer (L s)).2.2.1 (readVer (L s)).2.2.2.1).bind fun u => if u = true then some true else spec_In.l0 k l (isVer (L s)) ((i + 1 : Nat) : Int) (readVer (L s)).1 (readVer (L s)).2.1 (readVer (L s)).2.2.1 (readVer (L s)).2.2.2.1) else spec_In.l0 k l (isVer (L s)) ((i + 1 : Nat) : Int) (readVer (L s)).1 (readVer (L s)).2.1 (readVer (L s)).2.2.1 (readVer (L s)).2.2.2.1) else spec_In.l0 k l (isVer (L s)) ((i + 1 : Nat) : Int) (readVer (L s)).1 (readVer (L s)).2.1 (readVer (L s)).2.2.1 (readVer (L s)).2.2.2.1) (fun k => ?_) ?_
      · show spec_In.l0 (k + 1) l _ _ _ _ _ _ = _
        rw [spec_In.l0, if_pos (by omega), if_pos (show (0 : Int) ≤ (i : Int) by omega), ee, wa1 i (by omega)]
      · generalize l.getD i z55 = b at hm ⊢
        by_cases h1 : isVer (L s) = true
        · rw [h1] at hr ⊢
          rw [Bool.true_and]
          refine ev_pos rfl (Ev.bind (spec_RangeOk_ev l hl hs) ?_)
          by_cases h2 : rangeOk l = true
          · rw [h2, Bool.true_and]
            refine ev_pos rfl (Ev.bind (spec_l03Takes_ev (L s) b.f0 b.f1 hm.1 hm.2) ?_)
            show Ev _ (inOne (L s) ⟨b.f0, b.f1⟩ || r)
            by_cases h3 : inOne (L s) ⟨b.f0, b.f1⟩ = true
            · rw [h3, Bool.true_or]; exact ev_pos rfl (Ev.now _)
            · have h3' : inOne (L s) ⟨b.f0, b.f1⟩ = false := by simpa using h3
              rw [h3', Bool.false_or]; exact ev_neg (by simp) hr
          · have h2' : rangeOk l = false := by simpa using h2
            rw [h2', Bool.false_and, Bool.false_or]; exact ev_neg (by simp) hr
        · have h1' : isVer (L s) = false := by simpa using h1
          rw [h1'] at hr ⊢
          rw [Bool.false_and, Bool.false_and, Bool.false_or]; exact ev_neg (by simp) hr
  refine ev_use go ?_
  unfold inL
  cases isVer (L s) && rangeOk l with
  | true => simp
  | false => simp
theorem impl_In_j2 (s : ByteArray) (l : List S55) (n i : Int) (flag : Bool) (b0 b1 : ByteArray) (h0 : b0.size ≤ 1048576) {r : Bool} (hr : Ev (fun k => impl_In.l0 k s l n (wrap64 (i + 1)) (readVer (L s)).1 (readVer (L s)).2.1 (readVer (L s)).2.2.1 (readVer (L s)).2.2.2.1) r) :
    Ev (fun k => impl_In.j2 k s l n i flag (readVer (L s)).1 (readVer (L s)).2.1 (readVer (L s)).2.2.1 (readVer (L s)).2.2.2.1 b0 b1) ((!flag && finB (L s) (L b0)) || r) := by
  cases flag with
  | true =>
    refine ev_use (Ev.step (fun k => ?_) hr) (by simp)
    rw [impl_In.j2, if_pos rfl]
  | false =>
    refine Ev.step (fun k => by rw [impl_In.j2, if_neg (by decide)]) (Ev.bind (impl_ReadVersion_ev b0 h0) ?_)
    rw [Bool.not_false, Bool.true_and]
    unfold finB
    generalize readVer (L b0) = v
    generalize (readVer (L s)).2.2.2.1 = p at hr ⊢
    cases p with
    | nil => exact ev_pos (by simp) (ev_use (Ev.now _) (by simp))
    | cons x p =>
      refine ev_neg (by rw [List.length_cons]; omega) ?_
      rw [decide_eq_false (show ¬ x :: p = [] by simp), Bool.false_or]
      by_cases h1 : v.2.2.2.1 = []
      · rw [h1]; exact ev_neg (by simp) (ev_use hr (by simp))
      · have hp : 0 < v.2.2.2.1.length := List.length_pos_iff.2 h1
        refine ev_pos (by omega) ?_
        rw [decide_eq_true h1, Bool.true_and]
        by_cases h2 : v.1 = (readVer (L s)).1
        · refine ev_pos h2 ?_
          rw [decide_eq_true h2, Bool.true_and]
          by_cases h3 : v.2.1 = (readVer (L s)).2.1
          · refine ev_pos h3 ?_
            rw [decide_eq_true h3, Bool.true_and]
            by_cases h4 : v.2.2.1 = (readVer (L s)).2.2.1
            · rw [decide_eq_true h4, Bool.true_or]; exact ev_pos h4 (Ev.now _)
            · rw [decide_eq_false h4, Bool.false_or]; exact ev_neg h4 hr
          · rw [decide_eq_false h3, Bool.false_and, Bool.false_or]; exact ev_neg h3 hr
        · rw [decide_eq_false h2, Bool.false_and, Bool.false_or]; exact ev_neg h2 hr
theorem verOr_nil {l : B} (h : l = []) : isVer l = false := by rw [h]; exact isVer_nil
theorem verOr_ne {l : B} (h : verOr l = true) (hne : ¬ l = []) : isVer l = true := by
  unfold verOr at h
  rw [Bool.or_eq_true] at h
  rcases h with h | h
  · exact h
  · exact absurd (beq_iff_eq.1 h) hne
/-- The program's question of the high end. -/
theorem ask_high (s b1 : ByteArray) (hs : s.size ≤ 1048576) (h1 : b1.size ≤ 1048576) (hv : verOr (L b1) = true) {F : Nat → Bool → Option Bool} {a : Bool → Bool} (hF : ∀ f, Ev (fun k => F k f) (a f)) :
    Ev (fun k => if b1.toList = ([] : List UInt8) then F k false else ((impl_compareTexts.f k s b1).bind fun t => F k (decide (t ≥ 0)))) (a (isVer (L b1) && decide (0 ≤ cmpS (L s) (L b1)))) := by
  rw [toList_L]
  by_cases h : L b1 = []
  · rw [verOr_nil h, Bool.false_and]; exact ev_pos h (hF false)
  · rw [verOr_ne hv h, Bool.true_and]
    exact ev_neg h (Ev.bind (impl_compareTexts_ev s b1 hs h1) (hF _))
theorem impl_In_ev (s : ByteArray) (l : List S55) (hsz : s.size ≤ 1048576) (hl : l.length ≤ 1048576) (hs : ∀ b ∈ l, b.f0.size ≤ 1048576 ∧ b.f1.size ≤ 1048576) : Ev (fun k => impl_In.f k s l) (inL (L s) l) := by
  unfold impl_In.f
  refine Ev.bind (impl_ReadVersion_ev s hsz) ?_
  have stop : Ev (fun k => impl_In.j0 k s l true (readVer (L s)).1 (readVer (L s)).2.1 (readVer (L s)).2.2.1 (readVer (L s)).2.2.2.1) false :=
    Ev.step (f := fun _ => some false) (fun k => by rw [impl_In.j0, if_pos rfl]) (Ev.now _)
  unfold inL
  by_cases h1 : isVer (L s) = true
  · refine ev_pos h1 (Ev.bind (impl_RangeOk_ev l hl hs) ?_)
    rw [h1, Bool.true_and]
    by_cases h2 : rangeOk l = true
    · rw [h2, Bool.true_and]
      have hb : ∀ b ∈ l, bOk b = true := by
        unfold rangeOk at h2
        simp only [Bool.and_eq_true, List.all_eq_true, decide_eq_true_eq] at h2
        exact h2.1
      refine Ev.step (f := fun k => impl_In.l0 k s l (l.length : Int) 0 (readVer (L s)).1 (readVer (L s)).2.1 (readVer (L s)).2.2.1 (readVer (L s)).2.2.2.1) (fun k => by rw [impl_In.j0, if_neg (by decide)]) ?_
      refine any_loop l z55 _ (fun k i => impl_In.l0 k s l (l.length : Int) i (readVer (L s)).1 (readVer (L s)).2.1 (readVer (L s)).2.2.1 (readVer (L s)).2.2.2.1) ?_ ?_
      · exact Ev.step (f := fun _ => some false) (fun k => by show impl_In.l0 (k + 1) s l _ _ _ _ _ _ = _; rw [impl_In.l0, if_neg (by omega)]) (Ev.now _)
      · intro i r hi hr
        have hmem := getD_mem l i z55 hi
        have hm := hs _ hmem
        have hk := hb _ hmem
        have ee : rd_T55 l (i : Int) = l.getD i z55 := rfl
        rw [← wa1 i (by omega)] at hr
        unfold bOk at hk
        rw [Bool.and_eq_true] at hk
        generalize hbb : l.getD i z55 = b at hm hk
        have j2 := fun f => impl_In_j2 s l (l.length : Int) (i : Int) f b.f0 b.f1 hm.1 hr
        refine ev_use (Ev.step (f := fun k => if b.f0.toList = ([] : List UInt8) then (if b.f1.toList = ([] : List UInt8) then impl_In.j2 k s l (l.length : Int) (i : Int) false (readVer (L s)).1 (readVer (L s)).2.1 (readVer (L s)).2.2.1 (readVer (L s)).2.2.2.1 b.f0 b.f1 else ((impl_compareTexts.f k s b.f1).bind fun t => impl_In.j2 k s l (l.length : Int) (i : Int) (decide (t ≥ 0)) (readVer (L s)).1 (readVer (L s)).2.1 (readVer (L s)).2.2.1 (readVer (L s)).2.2.2.1 b.f0 b.f1)) else ((impl_compareTexts.f k s b.f0).bind fun t => if t < 0 then impl_In.j2 k s l (l.length : Int) (i : Int) true (readVer (L s)).1 (readVer (L s)).2.1 (readVer (L s)).2.2.1 (readVer (L s)).2.2.2.1 b.f0 b.f1 else (if b.f1.toList = ([] : List UInt8) then impl_In.j2 k s l (l.length : Int) (i : Int) false (readVer (L s)).1 (readVer (L s)).2.1 (readVer (L s)).2.2.1 (readVer (L s)).2.2.2.1 b.f0 b.f1 else ((impl_compareTexts.f k s b.f1).bind fun t => impl_In.j2 k s l (l.length : Int) (i : Int) (decide (t ≥ 0)) (readVer (L s)).1 (readVer (L s)).2.1 (readVer (L s)).2.2.1 (readVer (L s)).2.2.2.1 b.f0 b.f1)))) (r := (!outB (L s) b && finB (L s) (L b.f0)) || r) (fun k => ?_) ?_) rfl
        · show impl_In.l0 (k + 1) s l _ _ _ _ _ _ = _
          rw [impl_In.l0, if_pos (by omega), if_pos (by omega), if_pos (by omega), ee, hbb]
        · have high := ask_high s b.f1 hsz hm.2 hk.2 (a := fun f => (!f && finB (L s) (L b.f0)) || r) j2
          rw [toList_L]
          unfold outB
          by_cases c : L b.f0 = []
          · rw [verOr_nil c, Bool.false_and, Bool.false_or]; exact ev_pos c high
          · rw [verOr_ne hk.1 c, Bool.true_and]
            refine ev_neg c (Ev.bind (impl_compareTexts_ev s b.f0 hsz hm.1) ?_)
            by_cases h3 : cmpS (L s) (L b.f0) < 0
            · rw [decide_eq_true h3, Bool.true_or]; exact ev_pos h3 (j2 true)
            · rw [decide_eq_false h3, Bool.false_or]; exact ev_neg h3 high
    · have h2' : rangeOk l = false := by simpa using h2
      rw [h2']; exact stop
  · have h1' : isVer (L s) = false := by simpa using h1
    rw [h1']; exact ev_neg h1 stop
end Go.Proofs.YtbepbfibanmhoaaGreatDoor.U
end

section
namespace Go.Proofs.YtbepbfibanmhoaaGreatDoor.U
open Go Go.RowKit Go.Proofs.YtbepbfibanmhoaaGreatDoorW.PrintWords Go.Proofs.YtbepbfibanmhoaaGreatDoor.G
set_option linter.unusedVariables false
set_option maxRecDepth 100000
def w_Bound (f0 : ByteArray) (f1 : ByteArray) : Int := (f0.size : Int) + ((f1.size : Int) + (0))
theorem w_Bound_nonneg (f0 : ByteArray) (f1 : ByteArray) : 0 ≤ w_Bound f0 f1 := by
  unfold w_Bound
  omega

end Go.Proofs.YtbepbfibanmhoaaGreatDoor.U
end

section
namespace Go.Proofs.YtbepbfibanmhoaaGreatDoor.U
open Go Go.RowKit Go.Proofs.YtbepbfibanmhoaaGreatDoorW.PrintWords Go.Proofs.YtbepbfibanmhoaaGreatDoor.G
set_option linter.unusedVariables false
set_option maxRecDepth 100000
def w_BoundS (l : List S48) : Int := wList (fun x => w_Bound x.f0 x.f1) l
theorem w_BoundS_nonneg (l : List S48) : 0 ≤ w_BoundS l := wList_nonneg fun x _ => w_Bound_nonneg _ _
theorem w_BoundS_len (l : List S48) : (l.length : Int) ≤ w_BoundS l := wList_len fun x _ => w_Bound_nonneg _ _
theorem w_BoundS_mem {l : List S48} {x : S48} (hx : x ∈ l) : w_Bound x.f0 x.f1 ≤ w_BoundS l := wList_mem (w := fun x : S48 => w_Bound x.f0 x.f1) (fun x _ => w_Bound_nonneg _ _) hx

end Go.Proofs.YtbepbfibanmhoaaGreatDoor.U
end

section
namespace Go.Proofs.YtbepbfibanmhoaaGreatDoor.U
open Go Go.RowKit Go.Proofs.YtbepbfibanmhoaaGreatDoorW.PrintWords Go.Proofs.YtbepbfibanmhoaaGreatDoor.G
set_option linter.unusedVariables false
set_option maxRecDepth 100000
theorem szBound_ok (f0 : ByteArray) (h0 : f0.size ≤ maxLen) (f1 : ByteArray) (h1 : f1.size ≤ maxLen) : Sz (fun k left => laws_szBound.f f0 f1 left) (w_Bound f0 f1) := by
  refine ⟨w_Bound_nonneg f0 f1, fun left hr => ?_⟩
  show Ev (fun k => laws_szBound.f f0 f1 left) _
  unfold laws_szBound.f w_Bound
  rw [room_sub hr h0]
  refine sz_cut' hr (by omega) fun hb hr => ?_
  rw [room_sub hr h1]
  refine sz_cut' hr (by omega) fun hb hr => ?_
  exact sz_done hr

end Go.Proofs.YtbepbfibanmhoaaGreatDoor.U
end

section
namespace Go.Proofs.YtbepbfibanmhoaaGreatDoor.U
open Go Go.RowKit Go.Proofs.YtbepbfibanmhoaaGreatDoorW.PrintWords Go.Proofs.YtbepbfibanmhoaaGreatDoor.G
set_option linter.unusedVariables false
set_option maxRecDepth 100000
theorem szBoundS_ok (l : List S48) (h : l.length ≤ maxLen ∧ ∀ x_ ∈ l, (x_.f0.size ≤ maxLen ∧ x_.f1.size ≤ maxLen)) : Sz (fun k left => laws_szBoundS.f k l left) (w_BoundS l) := by
  have hs : ∀ x ∈ l, Sz (fun k left => laws_szBound.f x.f0 x.f1 left) (w_Bound x.f0 x.f1) := fun x hx => by
    have hx' := h.2 x hx
    exact szBound_ok x.f0 hx'.1 x.f1 hx'.2
  refine ⟨w_BoundS_nonneg l, fun left hr => ?_⟩
  show Ev (fun k => laws_szBoundS.f k l left) _
  unfold laws_szBoundS.f w_BoundS wList
  rw [room_sub hr h.1]
  refine sz_cut' hr (sumW_nonneg fun x hx => (hs x hx).1) fun hb hr => ?_
  refine sz_loop l z48 (fun x => w_Bound x.f0 x.f1) (fun k i st => laws_szBoundS.l0 k l st i) (fun k x left => laws_szBound.f x.f0 x.f1 left) h.1 ?_ ?_ hs _ hr
  · intro k i st hi
    show laws_szBoundS.l0 (k + 1) l st (i : Int) = _
    rw [laws_szBoundS.l0, if_pos (by omega), if_pos (by omega)]
    rfl
  · intro k st
    show laws_szBoundS.l0 (k + 1) l st (l.length : Int) = _
    rw [laws_szBoundS.l0, if_neg (by omega)]

end Go.Proofs.YtbepbfibanmhoaaGreatDoor.U
end

section
namespace Go.Proofs.YtbepbfibanmhoaaGreatDoor.U
open Go Go.RowKit Go.Proofs.YtbepbfibanmhoaaGreatDoorW.PrintWords Go.Proofs.YtbepbfibanmhoaaGreatDoor.G
set_option linter.unusedVariables false
set_option maxRecDepth 100000
theorem toBound_ok (f0 : ByteArray) (h0 : f0.size ≤ maxLen) (f1 : ByteArray) (h1 : f1.size ≤ maxLen) (hw : w_Bound f0 f1 ≤ 1048576) : Ev (fun k => laws_toBound.f f0 f1) (f0, f1) := by
  unfold laws_toBound.f
  exact Ev.now _

end Go.Proofs.YtbepbfibanmhoaaGreatDoor.U
end

section
namespace Go.Proofs.YtbepbfibanmhoaaGreatDoor.U
open Go Go.RowKit Go.Proofs.YtbepbfibanmhoaaGreatDoorW.PrintWords Go.Proofs.YtbepbfibanmhoaaGreatDoor.G
set_option linter.unusedVariables false
set_option maxRecDepth 100000
/-- The picture of the laws' struct. -/
def t_Bound (x : S48) : S55 := ⟨x.f0, x.f1⟩
theorem toBoundS_ok (l : List S48) (h : l.length ≤ maxLen ∧ ∀ x_ ∈ l, (x_.f0.size ≤ maxLen ∧ x_.f1.size ≤ maxLen)) (hw : w_BoundS l ≤ 1048576) : Ev (fun k => laws_toBoundS.f k l) (l.map t_Bound) := by
  have hl := w_BoundS_len l
  have e : ((l.length : Int)).toNat = l.length := Int.toNat_natCast _
  unfold laws_toBoundS.f
  rw [e]
  refine ev_pos (by omega) (ev_pos (by omega) ?_)
  refine to_loop l z48 _ t_Bound (fun k i st => laws_toBoundS.l0 k l st i) h.1 ?_ ?_
  · intro k i st hi hs
    show laws_toBoundS.l0 (k + 1) l st (i : Int) = _
    rw [laws_toBoundS.l0, if_pos (by omega), if_pos (by omega)]
    show (if (i : Int) < (st.length : Int) then _ else none) = _
    rw [if_pos (by omega)]
    rfl
  · intro k st
    show laws_toBoundS.l0 (k + 1) l st (l.length : Int) = _
    rw [laws_toBoundS.l0, if_neg (by omega)]

end Go.Proofs.YtbepbfibanmhoaaGreatDoor.U
end

section
namespace Go.Proofs.YtbepbfibanmhoaaGreatDoor.U
open Go Go.RowKit Go.Proofs.YtbepbfibanmhoaaGreatDoorW.PrintWords Go.Proofs.YtbepbfibanmhoaaGreatDoor.G
set_option linter.unusedVariables false
set_option maxRecDepth 100000
theorem eqBound_ok (f0 : ByteArray)  (f1 : ByteArray)  : Ev (fun k => laws_eqBound.f f0 f1 f0 f1) true := by
  unfold laws_eqBound.f
  refine ev_pos rfl ?_
  refine ev_pos rfl ?_
  exact Ev.now _

end Go.Proofs.YtbepbfibanmhoaaGreatDoor.U
end

section
namespace Go.Proofs.YtbepbfibanmhoaaGreatDoor.U
open Go Go.RowKit Go.Proofs.YtbepbfibanmhoaaGreatDoorW.PrintWords Go.Proofs.YtbepbfibanmhoaaGreatDoor.G
set_option linter.unusedVariables false
set_option maxRecDepth 100000
theorem eqBoundS_ok (l : List S55) (h : l.length ≤ maxLen) : Ev (fun k => laws_eqBoundS.f k l l) true := by
  unfold laws_eqBoundS.f
  refine ev_pos rfl ?_
  refine eq_loop l z55 (fun k i => laws_eqBoundS.l0 k l l i) (fun k x => laws_eqBound.f x.f0 x.f1 x.f0 x.f1) h ?_ ?_ (fun x hx => eqBound_ok x.f0 x.f1)
  · intro k i hi
    show laws_eqBoundS.l0 (k + 1) l l (i : Int) = _
    rw [laws_eqBoundS.l0, if_pos (by omega), if_pos (by omega), if_pos (by omega)]
    rfl
  · intro k
    show laws_eqBoundS.l0 (k + 1) l l (l.length : Int) = _
    rw [laws_eqBoundS.l0, if_neg (by omega)]

end Go.Proofs.YtbepbfibanmhoaaGreatDoor.U
end

section
namespace Go.Proofs.YtbepbfibanmhoaaGreatDoor.Pure
open Go Go.RowKit Go.Proofs.YtbepbfibanmhoaaGreatDoorW.PrintWords Go.Proofs.YtbepbfibanmhoaaGreatDoor.G Go.Proofs.YtbepbfibanmhoaaGreatDoor.U

theorem FnExactIn : laws_FnExactIn.Pure := by
  intro s l _ hl
  refine Ev.rounds (r := true) ?_
  unfold laws_FnExactIn.f
  by_cases h0 : (s.size : Int) > 1048576
  · exact ev_pos h0 (Ev.now _)
  refine ev_neg h0 ?_
  refine law_sz (szBoundS_ok l hl) fun hw => ?_
  have ht := toBoundS_ok l hl hw
  have hlen : (l.map t_Bound).length ≤ 1048576 := by have := w_BoundS_len l; rw [List.length_map]; omega
  have hs : ∀ b ∈ l.map t_Bound, b.f0.size ≤ 1048576 ∧ b.f1.size ≤ 1048576 := fun b hb => by
    obtain ⟨x, hx, rfl⟩ := List.mem_map.1 hb
    have := w_BoundS_mem hx
    unfold w_Bound at this
    show x.f0.size ≤ _ ∧ x.f1.size ≤ _
    omega
  refine Ev.bind ht (Ev.bind (spec_In_ev s _ (by omega) hlen hs) (Ev.bind ht (Ev.bind (impl_In_ev s _ (by omega) hlen hs) (ev_neg (by simp) (Ev.bind ht (Ev.bind (eqBoundS_ok _ (by unfold maxLen; omega)) ?_))))))
  exact ev_pos rfl (Ev.now _)
end Go.Proofs.YtbepbfibanmhoaaGreatDoor.Pure
end

section
namespace Go.Proofs.YtbepbfibanmhoaaGreatDoor.fnExactIn
open Go.ChangeShapes Go.WideShapes Go.ChangeAt Go.RowKit Go.Proofs.YtbepbfibanmhoaaGreatDoor Go.Proofs.YtbepbfibanmhoaaGreatDoor.G Go.Proofs.YtbepbfibanmhoaaGreatDoorW.PrintWords
open Go.ChangeMaps (open_string shut_string)
set_option linter.unusedVariables false
set_option linter.unusedSimpArgs false
theorem own : ownKnob Tryz.prog.godebug = none := by kernel_rfl
theorem laidOut : laidOutB Tryz.prog = true := by kernel_rfl
theorem opens48 : Op.Opens Tryz.prog 48 k48 (fun x_ => (x_.f0.size ≤ maxLen ∧ x_.f1.size ≤ maxLen)) := Op.opens_struct (g := (fun x : S48 => (x.f0, x.f1))) (by kernel_rfl) Tryz.underlying48 (fun a => ⟨⟨a.1, a.2⟩, rfl⟩) (Op.opensF_cons rfl (Op.opens_string (by kernel_rfl) Tryz.underlying9) (Op.opensF_one rfl (Op.opens_string (by kernel_rfl) Tryz.underlying9)))
set_option maxRecDepth 100000 in
theorem contract (H : Type) (enc : TypeId × Value → H) (W : World) (base : Nat) (args : Array Value) (ds gs : List (DataW H)) (before : List MemPlace)
    (hval : ∀ (j : Nat) t v, Tryz.f3.params[j]? = some t → args[j]? = some v → Value.okWide Tryz.prog W .any base t v)
    (hW : DataW.Whole enc Tryz.prog Tryz.f3.params.toList Rows.fnExactInSpec.vars false W args.toList ds gs before) (hFE : Glob FactE W) (hFM : Glob FactM W) (hFT : Glob FactT W) :
    Calls Tryz.prog 3 args W fun e W' => ∃ v, e = .returned v ∧ Rows.fnExactInSpec.post enc Tryz.prog Tryz.f3 false true false false W args v W' := by
  have hW' := hW
  obtain ⟨p, q, hA0, hV, rfl, hfz, hnd⟩ := hW
  have hA : DataW.TrodAll enc Tryz.prog W 0 (fun _ => true) true Tryz.f3.params.toList args.toList ds p := hA0
  rw [Tryz.params3] at hA hval
  obtain ⟨v0, vs0, d0, ds0, p0, q0, hargs, rfl, rfl, h0, r0⟩ := trodAll_cons hA
  obtain ⟨v1, vs1, d1, ds1, p1, q1, rfl, rfl, rfl, h1, r1⟩ := trodAll_cons r0
  obtain ⟨rfl, rfl, rfl⟩ := trodAll_nil r1
  obtain rfl : args = #[v0, v1] := by cases args; simp_all
  obtain ⟨rfl, rfl⟩ := trodVars_none hV
  obtain ⟨a0, rfl, rfl, rfl, y0⟩ := open_string Tryz.underlying9 (hval 0 9 v0 rfl rfl) h0
  obtain ⟨A1, len1, c1, rfl⟩ := okWide_slice Tryz.underlying22 (hval 1 22 v1 rfl rfl)
  have k1 := h1
  have lt1 : ∀ x ∈ p1, x.block < W.heap.size := by obtain ⟨m, hm⟩ := k1; exact DataW.trod_lt m _ _ _ hm
  obtain ⟨l1, rfl, hc1, hr1, z1⟩ := Op.arg_slice (Op.opens_slice (by kernel_rfl) Tryz.underlying22 opens48) h1
  clear hA0
  obtain ⟨k, h⟩ := Pure.FnExactIn a0 l1 y0 z1
  refine (laws_FnExactIn.calls k a0 A1 c1 l1 true W hr1 hc1 hFE hFM hFT rfl h).mono fun e W' ⟨he, bel0⟩ => ?_
  have bel : Below W.heap.size W W' := bel0
  subst he
  exact ⟨_, rfl, _, _, _, [], _, [], hW', trodAll_mk1 (shut_bool Tryz.underlying4 _), (trodAll_cons_mk (shut_string Tryz.underlying9 y0) (trodAll_cons_mk (Below.trod laidOut (by kernel_rfl) (of_decide_eq_true (by kernel_rfl)) k1 bel lt1) trodAll_mk0)), rfl, bel.frame _, fun h => by cases h⟩
theorem laid_met (os : Os) : laidMet Tryz.prog Rows.fnExactInRow.laid ((Laid.world os).forCall (fun _ _ => 0) ⟨#[], #[.string ByteArray.empty, .slice none 0 0], []⟩).memory :=
  laidMet_of_run' Laid.fuel (by kernel_rfl) (by kernel_rfl)
theorem reads (os : Os) {H : Type} (enc : TypeId × Value → H) : ∃ places, DataW.whole enc Tryz.prog ((Laid.world os).forCall (fun _ _ => 0) ⟨#[], #[.string ByteArray.empty, .slice none 0 0], []⟩).memory Tryz.f3.params.toList Rows.fnExactInSpec.vars false (#[.string ByteArray.empty, .slice none 0 0] : Array Value).toList 8 = some ([.lit (.string []), .nil], [], places) :=
  ⟨[], by kernel_rfl⟩
set_option maxRecDepth 100000 in
theorem lifted (os : Os) (started : os.Started) (H : Type) (enc : TypeId × Value → H) (F : Stop.Interp) :
    ReturnsInHanded {} Tryz.checked os 3 .any ((OpenSpec.ofChange Rows.fnExactInSpec).preRow enc Tryz.prog Tryz.f3 Rows.fnExactInRow.domain false Rows.fnExactInRow.laid) (((OpenSpec.ofChange Rows.fnExactInSpec).at F).post enc Tryz.prog Tryz.f3 false true false false) := by
  obtain ⟨places, hx⟩ := reads os enc
  refine returnsInHanded_of_row (C := Tryz.checked) (s := OpenSpec.ofChange Rows.fnExactInSpec) own started (by kernel_rfl) Tryz.func3
    (witness_row_atRef (enc := enc) (C := Tryz.checked) false (Laid.world os) #[.string ByteArray.empty, .slice none 0 0] rfl (Laid.vars os _) (Laid.heap os _) (by kernel_rfl)
      (OpenSpec.preRow_of_cond 8 hx (by kernel_rfl) (fun k hk => by cases hk) (by kernel_rfl) (laid_met os))) ?_
  intro W base args ds gs before hval hW _ _ _ hL hS _
  exact contract H enc W base args ds gs before hval hW (FactE_of hS hL (fun h => h) (by repeat (first | exact List.Mem.head _ | apply List.Mem.tail)) (by repeat (first | exact List.Mem.head _ | apply List.Mem.tail))) (FactM_of hS hL) (FactT_of hS hL (fun h => h) (by repeat (first | exact List.Mem.head _ | apply List.Mem.tail)))
theorem j10 : (Rows.fnExactInRow.inPlace == Tryz.prog.inPlace 3) = true := by kernel_rfl
theorem j11 : (Rows.fnExactInRow.unfollowed == Tryz.prog.unfollowed 3) = true := by kernel_rfl
theorem j12 : (Rows.fnExactInRow.recurses == Tryz.prog.recurses 3) = true := by kernel_rfl
theorem j13 : (Rows.fnExactInRow.named == Tryz.prog.varsNamed 3) = true := by kernel_rfl
set_option maxRecDepth 100000 in
theorem closed : joinedFacts Tryz.prog 3 Tryz.f3 (OpenSpec.ofChange Rows.fnExactInSpec).bare Rows.fnExactInRow = true :=
  (Facts.and_mk (Facts.and_mk (Facts.and_mk (Facts.and_mk (Facts.and_mk (Facts.and_mk (Facts.and_mk (Facts.and_mk (Facts.and_mk (Facts.and_mk (Facts.and_mk (Facts.and_mk (Facts.and_mk (Facts.and_mk (Facts.and_mk (Facts.and_mk (Facts.and_mk (Facts.and_mk (Facts.and_mk (Facts.and_mk (Facts.and_mk (Facts.and_mk (Facts.and_mk (Facts.and_mk (Facts.and_mk (Facts.and_mk (Facts.and_mk (Facts.and_mk (Facts.and_mk (Facts.and_mk (Facts.and_mk (by kernel_rfl) Facts.laidOut) Facts.mapsRowed) (by kernel_rfl)) (by kernel_rfl)) (by kernel_rfl)) (by kernel_rfl)) (by kernel_rfl)) (by kernel_rfl)) j10) j11) j12) j13) (by kernel_rfl)) (by kernel_rfl)) (by kernel_rfl)) (by kernel_rfl)) (by kernel_rfl)) (by kernel_rfl)) (by kernel_rfl)) (by kernel_rfl)) (by kernel_rfl)) (Facts.plainKeys _ rfl)) (by kernel_rfl)) Facts.heard) Facts.mayEnter) (Facts.lifts _ rfl)) (Facts.make _ rfl)) (by kernel_rfl)) (by kernel_rfl)) (by kernel_rfl)) (by kernel_rfl))
theorem goes : false = Rows.fnExactInRow.goesBy Tryz.prog := by kernel_rfl
theorem said : Rows.FnExactInSaid :=
  OpenClaim.holds_of_cond 3 Tryz.f3 rfl rfl rfl rfl rfl rfl rfl ⟨rfl, rfl, rfl, rfl, rfl⟩ rfl rfl rfl rfl rfl (by kernel_rfl) Tryz.func3 closed
    (of_decide_eq_true (by kernel_rfl)) (by unfold Func.isWrapper; first | (rw [if_pos (by decide +kernel)]; kernel_rfl) | (rw [if_neg (by decide +kernel)]; exact ⟨rfl, rfl⟩))
    (fun os started H enc _ F => by rw [OpenClaim.pre_eq_preRow]; exact lifted os started H enc F)
theorem plain (f : FuncId) (fn : Func) (hf : Tryz.pinned.checked.prog.funcNamed "loop.example/g00445/laws.FnExactIn" = some f) (hfn : Tryz.pinned.checked.prog.funcs[f]? = some fn) :
    true = Tryz.pinned.checked.prog.looks [] ∧ ∀ (j : Nat) t, fn.params[j]? = some t → Tryz.pinned.checked.prog.wantsStandIn t = false := by
  obtain rfl : f = 3 := Option.some.inj ((show Tryz.prog.funcNamed "loop.example/g00445/laws.FnExactIn" = some 3 by kernel_rfl).symm.trans hf) |>.symm
  obtain rfl : fn = Tryz.f3 := (Option.some.inj (Tryz.func3.symm.trans hfn)).symm
  refine ⟨Facts.looks, fun j t ht => ?_⟩
  rw [Tryz.params3] at ht
  have hm := Array.mem_of_getElem? ht
  have hall : (#[9, 22] : Array TypeId).all (fun t => Tryz.prog.wantsStandIn t == false) = true := by kernel_rfl
  show Tryz.prog.wantsStandIn t = false
  have h1 := Array.all_eq_true'.1 hall t hm
  exact beq_iff_eq.1 h1
theorem proved : Rows.FnExactInCardSaid :=
  Claim7.holds_tied_plain_at .later [] _ _ _ _ said (fun _ h => by cases h) (by kernel_rfl) (fun _ h => by cases h) fnExactIn_row_tie rfl ⟨rfl, rfl⟩ Facts.main rfl plain goes
end Go.Proofs.YtbepbfibanmhoaaGreatDoor.fnExactIn
namespace Go.Proofs.YtbepbfibanmhoaaGreatDoor
/-- The statement, under a short name, for the claim. -/
theorem fnExactIn_holds : Rows.FnExactInCardSaid := fnExactIn.proved
end Go.Proofs.YtbepbfibanmhoaaGreatDoor
end
