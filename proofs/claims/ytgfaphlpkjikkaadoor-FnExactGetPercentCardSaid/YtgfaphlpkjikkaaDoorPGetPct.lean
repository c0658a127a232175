/- What GetPercent answers, of the program and of the reference: the text whose PutPercent the argument is, where there is one. -/
import Derived.Test.YtgfaphlpkjikkaaDoorPPct
import Derived.Test.YtgfaphlpkjikkaaDoorPGetHex
import Derived.Test.YtgfaphlpkjikkaaDoorGspecGetPercent
import Derived.Test.YtgfaphlpkjikkaaDoorGimplGetPercent
import Derived.Shelf.Strings.CaseAny
namespace Go.Proofs.YtgfaphlpkjikkaaDoor.U
open Go Go.RowKit Go.Proofs.YtgfaphlpkjikkaaDoorW.PrintWords Go.Proofs.YtgfaphlpkjikkaaDoor.G
set_option linter.unusedVariables false
set_option linter.unusedSimpArgs false

/-- The text whose PutPercent is l, and whether there is one. -/
noncomputable def gpct (l : B) : B × Bool := @dite _ (∃ x, pct x = l) (Classical.propDecidable _) (fun h => (h.choose, true)) (fun _ => ([], false))
theorem gpct_no {l : B} (h : ¬ ∃ x, pct x = l) : gpct l = ([], false) := by unfold gpct; rw [dif_neg h]
/-- Whatever text has l as its PutPercent begins with acc, and the rest of it stands behind i. -/
def Known (l acc : B) (i : Nat) : Prop := ∀ x, pct x = l → ∃ y, x = acc ++ y ∧ pct y = l.drop i
theorem pct1_ne (c : UInt8) : pct1 c ≠ [] := by unfold pct1; split <;> simp
theorem pct_nil {y : B} (h : pct y = []) : y = [] := by
  cases y with
  | nil => rfl
  | cons c y => rw [pct_cons, List.append_eq_nil_iff] at h; exact absurd h.1 (pct1_ne c)
theorem gpct_end {l acc : B} {i : Nat} (hi : l.length ≤ i) (hk : Known l acc i) : gpct l = if pct acc = l then (acc, true) else ([], false) := by
  have h1 : ∀ x, pct x = l → x = acc := by
    intro x hx
    obtain ⟨y, e, hy⟩ := hk x hx
    rw [List.drop_of_length_le hi] at hy
    rw [e, pct_nil hy, List.append_nil]
  by_cases h : pct acc = l
  · rw [if_pos h]
    have hex : ∃ x, pct x = l := ⟨acc, h⟩
    unfold gpct
    rw [dif_pos hex, h1 _ hex.choose_spec]
  · rw [if_neg h]
    exact gpct_no fun ⟨x, hx⟩ => h (by rw [← h1 x hx]; exact hx)
theorem safe_pct : safe 37 = false := by decide
theorem pct_other {y r : B} {c : UInt8} (h : pct y = c :: r) (hc : c ≠ 37) : ∃ y', y = c :: y' ∧ pct y' = r := by
  cases y with
  | nil => simp [pct] at h
  | cons d y =>
    rw [pct_cons] at h
    unfold pct1 at h
    by_cases hs : safe d = true
    · rw [if_pos hs] at h
      injection h with h1 h2
      exact ⟨y, by rw [h1], h2⟩
    · rw [if_neg hs] at h
      injection h with h1 h2
      exact absurd h1.symm hc
theorem pct_sign {y r : B} (h : pct y = 37 :: r) : ∃ d y', y = d :: y' ∧ r = at_ hexD (d.toNat / 16) :: at_ hexD (d.toNat % 16) :: pct y' := by
  cases y with
  | nil => simp [pct] at h
  | cons d y =>
    rw [pct_cons] at h
    unfold pct1 at h
    by_cases hs : safe d = true
    · rw [if_pos hs] at h
      injection h with h1 h2
      rw [h1] at hs; rw [safe_pct] at hs; cases hs
    · rw [if_neg hs] at h
      injection h with h1 h2
      exact ⟨d, y, rfl, h2.symm⟩
theorem pairs_hexD (d : UInt8) : pairs hexD [] [at_ hexD (d.toNat / 16), at_ hexD (d.toNat % 16)] = ([d], true) := by
  revert d; refine all_bytes ?_; decide +kernel
theorem pairs_two (dg : B) (a b : UInt8) : (pairs dg [] [a, b]).1.length ≤ 1 := by
  unfold pairs
  split
  · simp
  · unfold pairs; simp
theorem known_other {l acc : B} {i : Nat} (hi : i < l.length) (hc : at_ l i ≠ 37) (hk : Known l acc i) : Known l (acc ++ [at_ l i]) (i + 1) := by
  intro x hx
  obtain ⟨y, e, hy⟩ := hk x hx
  rw [drop_at l i hi] at hy
  obtain ⟨y', e2, h2⟩ := pct_other hy hc
  exact ⟨y', by rw [e, e2, List.append_assoc]; rfl, h2⟩
theorem known_sign {l acc o : B} {i : Nat} (hi : i + 2 < l.length) (hc : at_ l i = 37) (hk : Known l acc i) (ho : ∀ d, at_ l (i + 1) = at_ hexD (d.toNat / 16) → at_ l (i + 2) = at_ hexD (d.toNat % 16) → o = [d]) : Known l (acc ++ o) (i + 3) := by
  intro x hx
  obtain ⟨y, e, hy⟩ := hk x hx
  rw [drop_at l i (by omega), drop_at l (i + 1) (by omega), drop_at l (i + 2) (by omega), hc] at hy
  obtain ⟨d, y', e2, h2⟩ := pct_sign hy
  injection h2 with a1 h2
  injection h2 with a2 h2
  refine ⟨y', ?_, h2.symm⟩
  rw [e, e2, ho d a1 a2, List.append_assoc]; rfl
theorem no_sign {l acc : B} {i : Nat} (hi : i < l.length) (hc : at_ l i = 37) (hk : Known l acc i) (h : ∀ d : UInt8, ¬ (i + 2 < l.length ∧ at_ l (i + 1) = at_ hexD (d.toNat / 16) ∧ at_ l (i + 2) = at_ hexD (d.toNat % 16))) : ¬ ∃ x, pct x = l := by
  rintro ⟨x, hx⟩
  obtain ⟨y, e, hy⟩ := hk x hx
  rw [drop_at l i hi, hc] at hy
  obtain ⟨d, y', e2, h2⟩ := pct_sign hy
  have hl : i + 2 < l.length := by
    have := congrArg List.length h2
    simp at this; omega
  rw [drop_at l (i + 1) (by omega), drop_at l (i + 2) hl] at h2
  injection h2 with a1 h2
  injection h2 with a2 h2
  exact h d ⟨hl, a1, a2⟩
theorem hexD_S : (⟨#[48, 49, 50, 51, 52, 53, 54, 55, 56, 57, 65, 66, 67, 68, 69, 70]⟩ : ByteArray) = S hexD := rfl
theorem two_at (s : ByteArray) (i : Nat) (hi : i + 2 < (L s).length) : s.extract (i + 1) (i + 3) = S [at_ (L s) (i + 1), at_ (L s) (i + 2)] := by
  apply L_inj
  rw [L_extract, L_S, show i + 3 - (i + 1) = 2 by omega, drop_at (L s) (i + 1) (by omega), drop_at (L s) (i + 2) (by omega)]; rfl
theorem one_at (s : ByteArray) (i : Nat) (hi : i < (L s).length) : s.extract i (i + 1) = S [at_ (L s) i] := by
  apply L_inj
  rw [L_extract, L_S, show i + 1 - i = 1 by omega, drop_at (L s) i hi]; rfl
theorem is37 (c : UInt8) : ((c.toNat : Int) = 37) ↔ c = 37 := byte_is c 37 37 rfl
theorem wi3 (i : Nat) (h : i ≤ 1099511627776) : wrap64 (wrap64 ((i : Int) + 2) + 1) = ((i + 3 : Nat) : Int) := by rw [wa2 i (by omega), wa1 (i + 2) (by omega)]
theorem spec_GetPercent_ev (s : ByteArray) (hs : s.size ≤ 1048576) : Ev (fun k => spec_GetPercent.f k s) (S (gpct (L s)).1, (gpct (L s)).2) := by
  have hsz := size_L s
  have key : ∀ (d i : Nat) (acc : B), i + d = (L s).length → acc.length ≤ i → Known (L s) acc i → Ev (fun k => spec_GetPercent.l0 k s (S acc) (i : Int)) (S (gpct (L s)).1, (gpct (L s)).2) := by
    intro d
    induction d using Nat.strongRecOn with
    | _ d ih =>
    intro i acc hi ha hk
    by_cases hlt : i < (L s).length
    · have hb : bt s (i : Int) = ((at_ (L s) i).toNat : Int) := bt_nat s i
      by_cases hc : at_ (L s) i = 37
      · by_cases h3 : i + 2 < (L s).length
        · have hp := spec_l01Pairs_ev (S [at_ (L s) (i + 1), at_ (L s) (i + 2)]) (S hexD) (by rw [size_S]; simp) rfl
          rw [L_S, L_S] at hp
          refine Ev.step (f := fun k => (spec_l01Pairs.f k (S [at_ (L s) (i + 1), at_ (L s) (i + 2)]) (S hexD)).bind fun bt => if bt.2 = true then (if (S acc).size + bt.1.size ≤ 9223372036854775807 then spec_GetPercent.l0 k s (S acc ++ bt.1) ((i + 3 : Nat) : Int) else none) else some ((⟨#[]⟩ : ByteArray), false)) (fun k => ?_) (Ev.bind hp ?_)
          · rw [spec_GetPercent.l0, if_pos (by omega), if_pos (by omega), hb, if_pos ((is37 _).2 hc), w64 (n := (s.size : Int) - 3) (by omega) (by omega), if_neg (by omega), wi3 i (by omega), wa1 i (by omega), wa3 i (by omega), if_pos (by omega), if_pos (by omega), if_pos (by omega), Int.toNat_natCast, Int.toNat_natCast, two_at s i h3, hexD_S]
          · have hl := pairs_two hexD (at_ (L s) (i + 1)) (at_ (L s) (i + 2))
            by_cases ho : (pairs hexD [] [at_ (L s) (i + 1), at_ (L s) (i + 2)]).2 = true
            · refine ev_pos ho (ev_pos (by rw [size_S, size_S]; omega) ?_)
              rw [S_append]
              refine ih (d - 3) (by omega) (i + 3) _ (by omega) (by rw [List.length_append]; omega) (known_sign h3 hc hk fun dd a1 a2 => ?_)
              rw [a1, a2, pairs_hexD]
            · refine ev_neg ho (ev_use (Ev.now _) ?_)
              rw [gpct_no (no_sign hlt hc hk fun dd ⟨_, a1, a2⟩ => ho (by rw [a1, a2, pairs_hexD]))]; rfl
        · refine Ev.step (f := fun k => some ((⟨#[]⟩ : ByteArray), false)) (fun k => ?_) (ev_use (Ev.now _) ?_)
          · rw [spec_GetPercent.l0, if_pos (by omega), if_pos (by omega), hb, if_pos ((is37 _).2 hc), w64 (n := (s.size : Int) - 3) (by omega) (by omega), if_pos (by omega)]
          · rw [gpct_no (no_sign hlt hc hk fun dd h => h3 h.1)]; rfl
      · refine Ev.step (f := fun k => spec_GetPercent.l0 k s (S (acc ++ [at_ (L s) i])) ((i + 1 : Nat) : Int)) (fun k => ?_) (ih (d - 1) (by omega) (i + 1) _ (by omega) (by rw [List.length_append]; simp; omega) (known_other hlt hc hk))
        rw [spec_GetPercent.l0, if_pos (by omega), if_pos (by omega), hb, if_neg (fun h => hc ((is37 _).1 h)), wa1 i (by omega), if_pos (by omega), if_pos (by omega), Int.toNat_natCast, Int.toNat_natCast, one_at s i hlt, if_pos (by rw [size_S, size_S]; simp; omega), S_append]
    · have hp := spec_PutPercent_ev (S acc) (by rw [size_S]; omega)
      rw [L_S] at hp
      refine Ev.step (f := fun k => (spec_PutPercent.f k (S acc)).bind fun t => if t.toList = s.toList then some (S acc, true) else some ((⟨#[]⟩ : ByteArray), false)) (fun k => by rw [spec_GetPercent.l0, if_neg (by omega)]) (Ev.bind hp ?_)
      rw [toList_S, toList_L, gpct_end (by omega) hk]
      by_cases h : pct acc = L s
      · exact ev_use (ev_pos h (Ev.now _)) (by rw [if_pos h])
      · exact ev_use (ev_neg h (Ev.now _)) (by rw [if_neg h]; rfl)
  exact key (L s).length 0 [] (by omega) (by simp) (fun x hx => ⟨x, rfl, hx⟩)

theorem encode_le4 (z : Int) : (Lib.encodeRune z).length ≤ 4 := by
  unfold Lib.encodeRune Lib.encodeRuneZ
  rw [List.length_map]
  repeat' split
  all_goals simp
theorem mapGo_len (f : Int → Int) : ∀ (n : Nat) (l : B), (Lib.mapGoD f n l).length ≤ 4 * n
  | 0, l => by simp [Lib.mapGoD]
  | n + 1, l => by
    unfold Lib.mapGoD
    split
    · simp
    · rw [List.length_append]
      have h1 := mapGo_len f n (l.drop (Lib.decodeL l).2)
      have h2 : (if 0 ≤ f (Lib.decodeL l).1 then Lib.encodeRune (f (Lib.decodeL l).1) else []).length ≤ 4 := by
        split
        · exact encode_le4 _
        · simp
      omega
theorem lower_len (a b : UInt8) : (Lib.toLowerD [a, b]).length ≤ 8 := mapGo_len Lib.toLowerU 2 [a, b]
theorem lower_hex (d : UInt8) : getHex (Lib.toLowerD [at_ hexD (d.toNat / 16), at_ hexD (d.toNat % 16)]) = ([d], true) := by
  rw [Lib.toLowerD_ascii]
  · revert d; refine all_bytes ?_; decide +kernel
  · have : ∀ d : UInt8, ([at_ hexD (d.toNat / 16), at_ hexD (d.toNat % 16)].all fun x => decide (x.toNat < 128)) = true := by refine all_bytes ?_; decide +kernel
    intro x hx
    simpa using List.all_eq_true.1 (this d) x hx
theorem pairs_len (dg : B) : ∀ (n : Nat) (l acc : B), l.length ≤ n → (pairs dg acc l).1.length ≤ acc.length + l.length := by
  intro n
  induction n using Nat.strongRecOn with
  | _ n ih =>
  intro l acc hl
  match l, hl with
  | [], _ => unfold pairs; simp
  | [_], _ => unfold pairs; simp
  | a :: b :: r, hl =>
    unfold pairs
    split
    · simp
    · have := ih (n - 2) (by simp at hl; omega) r (acc ++ [UInt8.ofNat (16 * (idx dg a).toNat + (idx dg b).toNat)]) (by simp at hl; omega)
      rw [List.length_append] at this
      simp at *; omega
theorem getHex_len (l : B) : (getHex l).1.length ≤ l.length := by
  unfold getHex
  split
  · have := pairs_len hexd l.length l [] (Nat.le_refl _); simpa using this
  · simp
theorem impl_GetPercent_ev (s : ByteArray) (hs : s.size ≤ 1048576) : Ev (fun k => impl_GetPercent.f k s) (S (gpct (L s)).1, (gpct (L s)).2) := by
  have hsz := size_L s
  have key : ∀ (d i : Nat) (acc : B), i + d = (L s).length → acc.length ≤ 8 * i → Known (L s) acc i → Ev (fun k => impl_GetPercent.l0 k s (S acc) (i : Int)) (S (gpct (L s)).1, (gpct (L s)).2) := by
    intro d
    induction d using Nat.strongRecOn with
    | _ d ih =>
    intro i acc hi ha hk
    by_cases hlt : i < (L s).length
    · have hb : bt s (i : Int) = ((at_ (L s) i).toNat : Int) := bt_nat s i
      by_cases hc : at_ (L s) i = 37
      · by_cases h3 : i + 2 < (L s).length
        · have hll := lower_len (at_ (L s) (i + 1)) (at_ (L s) (i + 2))
          have hgl := getHex_len (Lib.toLowerD [at_ (L s) (i + 1), at_ (L s) (i + 2)])
          have hp := impl_GetHex_ev (S (Lib.toLowerD [at_ (L s) (i + 1), at_ (L s) (i + 2)])) (by rw [size_S]; omega)
          rw [L_S] at hp
          have hlow : strings_ToLower.f (S [at_ (L s) (i + 1), at_ (L s) (i + 2)]) = some (S (Lib.toLowerD [at_ (L s) (i + 1), at_ (L s) (i + 2)])) := by
            unfold strings_ToLower.f
            rw [if_pos (by rw [size_S]; simp)]; rfl
          refine Ev.step (f := fun k => (impl_GetHex.f k (S (Lib.toLowerD [at_ (L s) (i + 1), at_ (L s) (i + 2)]))).bind fun bt => if (S acc).size + bt.1.size ≤ 9223372036854775807 then impl_GetPercent.l0 k s (S acc ++ bt.1) ((i + 3 : Nat) : Int) else none) (fun k => ?_) (Ev.bind hp ?_)
          · rw [impl_GetPercent.l0, if_pos (by omega), if_pos (by omega), hb, if_pos ((is37 _).2 hc), wi3 i (by omega), wa1 i (by omega), wa3 i (by omega), if_neg (by omega), if_pos (by omega), if_pos (by omega), if_pos (by omega), Int.toNat_natCast, Int.toNat_natCast, two_at s i h3, hlow, Option.bind_some]
          · refine ev_pos (by rw [size_S, size_S]; omega) ?_
            rw [S_append]
            refine ih (d - 3) (by omega) (i + 3) _ (by omega) (by rw [List.length_append]; omega) (known_sign h3 hc hk fun dd a1 a2 => ?_)
            rw [a1, a2, lower_hex]
        · refine Ev.step (f := fun k => some ((⟨#[]⟩ : ByteArray), false)) (fun k => ?_) (ev_use (Ev.now _) ?_)
          · rw [impl_GetPercent.l0, if_pos (by omega), if_pos (by omega), hb, if_pos ((is37 _).2 hc), wa3 i (by omega), if_pos (by omega)]
          · rw [gpct_no (no_sign hlt hc hk fun dd h => h3 h.1)]; rfl
      · refine Ev.step (f := fun k => impl_GetPercent.l0 k s (S (acc ++ [at_ (L s) i])) ((i + 1 : Nat) : Int)) (fun k => ?_) (ih (d - 1) (by omega) (i + 1) _ (by omega) (by rw [List.length_append]; simp; omega) (known_other hlt hc hk))
        rw [impl_GetPercent.l0, if_pos (by omega), if_pos (by omega), hb, if_neg (fun h => hc ((is37 _).1 h)), wa1 i (by omega), if_pos (by omega), if_pos (by omega), Int.toNat_natCast, Int.toNat_natCast, one_at s i hlt, if_pos (by rw [size_S, size_S]; simp; omega), S_append]
    · have hp := impl_PutPercent_ev (S acc) (by rw [size_S]; omega)
      rw [L_S] at hp
      refine Ev.step (f := fun k => (impl_PutPercent.f k (S acc)).bind fun t => if t.toList = s.toList then some (S acc, true) else some ((⟨#[]⟩ : ByteArray), false)) (fun k => by rw [impl_GetPercent.l0, if_neg (by omega)]) (Ev.bind hp ?_)
      rw [toList_S, toList_L, gpct_end (by omega) hk]
      by_cases h : pct acc = L s
      · exact ev_use (ev_pos h (Ev.now _)) (by rw [if_pos h])
      · exact ev_use (ev_neg h (Ev.now _)) (by rw [if_neg h]; rfl)
  exact key (L s).length 0 [] (by omega) (by simp) (fun x hx => ⟨x, rfl, hx⟩)
end Go.Proofs.YtgfaphlpkjikkaaDoor.U
