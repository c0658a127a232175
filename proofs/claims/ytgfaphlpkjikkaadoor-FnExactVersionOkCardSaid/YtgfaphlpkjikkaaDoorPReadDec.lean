/- What ReadDec answers, of the program and of the reference: the number of at most nine digits that a text is the numeral of, or -1. -/
import Derived.Test.YtgfaphlpkjikkaaDoorPVal10
import Derived.Test.YtgfaphlpkjikkaaDoorPDec
import Derived.Test.YtgfaphlpkjikkaaDoorPIn
import Derived.Test.YtgfaphlpkjikkaaDoorGspecReadDec
import Derived.Test.YtgfaphlpkjikkaaDoorGimplReadDec
namespace Go.Proofs.YtgfaphlpkjikkaaDoor.U
open Go Go.RowKit Go.Proofs.YtgfaphlpkjikkaaDoorW.PrintWords Go.Proofs.YtgfaphlpkjikkaaDoor.G
set_option linter.unusedVariables false
set_option linter.unusedSimpArgs false

theorem itoa_nat (u : Nat) : Lib.itoa (u : Int) = Lib.decDigits u := by unfold Lib.itoa; rw [if_neg (by omega)]; simp
theorem rdec_bad {l : B} (h : ∃ c ∈ l, dgt c = false) : rdec l = -1 := by
  unfold rdec
  rw [if_neg]
  rintro ⟨_, e⟩
  obtain ⟨c, hc, hd⟩ := h
  have := dec_dgt (val10 0 l) c (by rw [e]; exact hc)
  rw [hd] at this; cases this
theorem rdec_long {l : B} (h : 9 < l.length) : rdec l = -1 := by
  unfold rdec
  rw [if_neg]
  rintro ⟨e, _⟩; omega
theorem impl_ReadDec_eq (s : ByteArray) (hs : s.size ≤ 1099511627776) : impl_ReadDec.f s = some (rdec (L s)) := by
  unfold impl_ReadDec.f
  rw [if_pos (by omega)]
  show (match Lib.atoiAll (L s) with | .ok n => _ | _ => some (-1)) = _
  by_cases hr : rdec (L s) = -1
  · rw [hr]
    cases ha : Lib.atoiAll (L s) with
    | ok n =>
      simp only []
      rw [impl_within_eq, Option.bind_some]
      by_cases hn : 0 ≤ n ∧ n ≤ 999999999
      · rw [if_pos (decide_eq_true hn), impl_DecText_eq n (by omega) (by omega), Option.bind_some, toList_S, toList_L]
        by_cases e : Lib.itoa n = L s
        · exfalso
          have hu : n = ((n.toNat : Nat) : Int) := by omega
          rw [hu, itoa_nat] at e
          rw [← e, rdec_dec _ (by omega)] at hr
          omega
        · rw [if_neg e]
      · rw [if_neg (by simpa using hn)]
    | _ => rfl
  · obtain ⟨u, hu, hl, hv⟩ := rdec_some hr
    rw [hv, hl, atoi_dec u hu]
    simp only []
    rw [impl_within_eq, Option.bind_some, if_pos (decide_eq_true (by omega)), impl_DecText_eq _ (by omega) (by omega), Option.bind_some, toList_S, toList_L, hl, itoa_nat, if_pos rfl]
theorem step10 (a : Nat) (c : UInt8) (ha : a < 1000000000) (hc : dgt c = true) : wrap64 ((wrap64 ((wrap64 (10 * (a : Int))) + (wrap64 (c.toNat : Int)))) - 48) = ((a * 10 + (c.toNat - 48) : Nat) : Int) := by
  have h := (dgt_is c).1 hc
  rw [w64 (n := 10 * (a : Int)) (by omega) (by omega), w64 (n := (c.toNat : Int)) (by omega) (by omega), w64 (n := 10 * (a : Int) + (c.toNat : Int)) (by omega) (by omega), w64 (by omega) (by omega)]
  omega
theorem spec_ReadDec_ev (s : ByteArray) (hs : s.size ≤ 1099511627776) : Ev (fun k => spec_ReadDec.f k s) (rdec (L s)) := by
  have hsz := size_L s
  have key : ∀ (d i : Nat), i + d = (L s).length → i ≤ 9 → (∀ c ∈ (L s).take i, dgt c = true) → Ev (fun k => spec_ReadDec.l0 k s (val10 0 ((L s).take i) : Int) (i : Int)) (rdec (L s)) := by
    intro d
    induction d with
    | zero =>
      intro i hi h9 hall
      have e : (L s).take i = L s := List.take_of_length_le (by omega)
      rw [e] at hall ⊢
      have hlt : val10 0 (L s) < 1000000000 := by
        have := val10_lt (L s) 0 hall
        have h2 : 10 ^ (L s).length ≤ 10 ^ 9 := Nat.pow_le_pow_right (by decide) (by omega)
        rw [p9] at h2; omega
      have hd := spec_DecText_ev ((val10 0 (L s) : Nat) : Int) (by omega) (by omega)
      rw [itoa_nat] at hd
      refine Ev.step (f := fun k => if s.toList = ([] : List UInt8) then some (-1) else (spec_DecText.f k ((val10 0 (L s) : Nat) : Int)).bind fun t => if t.toList = s.toList then some ((val10 0 (L s) : Nat) : Int) else some (-1)) (fun k => by rw [spec_ReadDec.l0, if_neg (by omega)]) ?_
      rw [toList_L]
      unfold rdec
      by_cases h0 : L s = []
      · refine ev_pos h0 (ev_use (Ev.now _) ?_)
        rw [if_neg]
        rintro ⟨_, e2⟩
        rw [h0] at e2
        exact dec_ne _ e2
      · refine ev_neg h0 (Ev.bind hd ?_)
        rw [toList_S]
        by_cases h1 : Lib.decDigits (val10 0 (L s)) = L s
        · exact ev_use (ev_pos h1 (Ev.now _)) (if_pos ⟨by omega, h1⟩).symm
        · exact ev_use (ev_neg h1 (Ev.now _)) (if_neg (fun h => h1 h.2)).symm
    | succ d ih =>
      intro i hi h9 hall
      have hlt : i < (L s).length := by omega
      have hb : bt s (i : Int) = ((at_ (L s) i).toNat : Int) := bt_nat s i
      have hby := byte_lt (at_ (L s) i)
      by_cases hc : dgt (at_ (L s) i) = true
      · by_cases hl : (L s).length > 9
        · refine Ev.step (f := fun k => some (-1)) (fun k => ?_) (ev_use (Ev.now _) (rdec_long hl).symm)
          rw [spec_ReadDec.l0, if_pos (by omega), if_pos (by omega), hb, spec_l01In_eq, Option.bind_some, w64 (by omega) (by omega), if_pos (decide_eq_true (by have := (dgt_is _).1 hc; omega)), if_pos (by omega)]
        · have htk : (L s).take (i + 1) = (L s).take i ++ [at_ (L s) i] := take_at _ _ hlt
          have hv : val10 0 ((L s).take (i + 1)) = val10 0 ((L s).take i) * 10 + ((at_ (L s) i).toNat - 48) := by rw [htk, val10_append]; rfl
          have hlt9 : val10 0 ((L s).take i) < 1000000000 := by
            have := val10_lt ((L s).take i) 0 hall
            have h2 : 10 ^ ((L s).take i).length ≤ 10 ^ 9 := Nat.pow_le_pow_right (by decide) (by rw [List.length_take]; omega)
            rw [p9] at h2; omega
          refine Ev.step (f := fun k => spec_ReadDec.l0 k s (val10 0 ((L s).take (i + 1)) : Int) ((i + 1 : Nat) : Int)) (fun k => ?_) (ih (i + 1) (by omega) (by omega) ?_)
          · rw [spec_ReadDec.l0, if_pos (by omega), if_pos (by omega), hb, spec_l01In_eq, Option.bind_some, w64 (n := ((at_ (L s) i).toNat : Int)) (by omega) (by omega), if_pos (decide_eq_true (by have := (dgt_is _).1 hc; omega)), if_neg (by omega), hv, wa1 i (by omega)]
            have := step10 (val10 0 ((L s).take i)) (at_ (L s) i) hlt9 hc
            rw [w64 (n := ((at_ (L s) i).toNat : Int)) (by omega) (by omega)] at this
            rw [this]
          · intro c hcm
            rw [htk, List.mem_append, List.mem_singleton] at hcm
            rcases hcm with h | rfl
            · exact hall c h
            · exact hc
      · have hbad : rdec (L s) = -1 := rdec_bad ⟨at_ (L s) i, by rw [at_eq _ _ hlt]; exact List.getElem_mem hlt, by simpa using hc⟩
        refine Ev.step (f := fun k => some (-1)) (fun k => ?_) (ev_use (Ev.now _) hbad.symm)
        rw [spec_ReadDec.l0, if_pos (by omega), if_pos (by omega), hb, spec_l01In_eq, Option.bind_some, w64 (by omega) (by omega), if_neg]
        rw [decide_eq_true_iff]
        intro h; exact hc ((dgt_is _).2 (by omega))
  have := key (L s).length 0 (by omega) (by omega) (by simp)
  exact this
end Go.Proofs.YtgfaphlpkjikkaaDoor.U
