/- A part of the proof that the law FnPick answers true at every input that its row speaks of. Conditions: the row's own. -/
import Derived.Test.YtoidompkofomjaaGreatDoorMFnPick5
import Derived.Test.YtoidompkofomjaaGreatDoorMFnPick4
import Derived.Test.YtoidompkofomjaaGreatDoorVMore
import Derived.Test.YtoidompkofomjaaGreatDoorMFnPick3
import Derived.KernelRfl
import Derived.Laws.Strings
import Derived.Test.YtoidompkofomjaaGreatDoorProg
import Derived.Test.YtoidompkofomjaaGreatDoorKFnPick0
import Derived.Test.YtoidompkofomjaaGreatDoorKFnPick1
section
namespace Go.Proofs.YtoidompkofomjaaGreatDoor.VI
open Go Go.RowKit
set_option linter.unusedVariables false
set_option linter.unusedSimpArgs false
def unl : List Bool → Nat
  | [] => 0
  | true :: r => unl r
  | false :: r => unl r + 1
theorem unl_set : ∀ (l : List Bool) (i : Nat), l[i]? = some false → unl (l.set i true) + 1 = unl l
  | [], i, h => by simp at h
  | true :: r, 0, h => by simp at h
  | false :: r, 0, h => rfl
  | true :: r, i + 1, h => by rw [List.set_cons_succ]; simp only [unl]; exact unl_set r i (by simpa using h)
  | false :: r, i + 1, h => by rw [List.set_cons_succ]; simp only [unl]; rw [unl_set r i (by simpa using h)]
theorem unl_zero : ∀ (l : List Bool), unl l = 0 → ∀ i : Nat, l[i]? ≠ some false
  | [], h, i => by simp
  | true :: r, h, 0 => by simp
  | false :: r, h, i => by simp [unl] at h
  | true :: r, h, i + 1 => by rw [List.getElem?_cons_succ]; exact unl_zero r (by simpa only [unl] using h) i
theorem unl_rep : ∀ n, unl (List.replicate n false) = n
  | 0 => rfl
  | n + 1 => by rw [List.replicate_succ, unl, unl_rep n]
theorem nat_eq {a b : Nat} (h : ¬ a < b) (k : ¬ b < a) : a = b := by omega
theorem listed_set {L : Array Bool} {i j : Nat} (hi : i < L.size) : (L.setIfInBounds i true).getD j false = true ↔ L.getD j false = true ∨ j = i := by
  simp only [Array.getD_eq_getD_getElem?, Array.getElem?_setIfInBounds]
  by_cases h : i = j
  · subst h; simp [hi]
  · rw [if_neg h]
    have : j ≠ i := fun e => h e.symm
    simp [this]
section
variable {P : Program} {NG : Nat} {GW : World → Prop} {io : List Nat} {w0 : World} {pd0 : Nat → Nat → Prop} {C : Cx} {R : Type} {K : Env → Option R} {r : R} {Q : Exit → Act → World → Prop} {env0 : Env} {ops : Array Oper} {n : Nat} {vals : Nat → VV} {sv : Nat → Option (Nat × VV)}
open Classical in
theorem QS.at {D : Nat → Option Nat} {S S' : Nat → Prop} {e e' : Env} (h : QS D vals env0 n S e) (h' : QS D vals env0 n S' e') {t : Nat} (hs : ∀ (k : Nat), k < n → D k = some t → (S k ↔ S' k)) : get e t = get e' t := by
  by_cases ht : t < env0.length
  · by_cases hx : ∃ (k : Nat), k < n ∧ (D k = some t ∧ S k)
    · obtain ⟨k, h1, ⟨h3, h4⟩, h5⟩ := exists_max n hx
      rw [h.hit k t h1 h3 h4 ht fun j a b c d => h5 j a b ⟨c, d⟩, h'.hit k t h1 h3 ((hs k h1 h3).1 h4) ht fun j a b c d => h5 j a b ⟨c, (hs j b c).2 d⟩]
    · have hm : ∀ (k : Nat), k < n → D k = some t → ¬ S k := fun k h1 h3 h4 => hx ⟨k, h1, h3, h4⟩
      rw [h.miss t hm, h'.miss t fun k h1 h3 h4 => hm k h1 h3 ((hs k h1 h3).2 h4)]
  · have hn : ∀ {e : Env}, e.length = env0.length → get e t = .un := fun he => nth_none (List.getElem?_eq_none (by omega))
    rw [hn h.len, hn h'.len]
theorem vops_step {dr : Option (List Nat)} (hti : TIok P C.ti) (gws : ∀ w w', GW w → Below NG w w' → GW w') (hC : CallOk P NG GW C.call) {G : Gh} {env : Env} {a : Act} {w : World} {i : Nat} {o : Oper} {rest : List Oper} {Nk : Act → World → Prop} (hi : ops[i]? = some o) (hs : Sim NG GW io w0 pd0 G env a w) (h : vops C ops.toList dr (o :: rest) env K = some r) (hN : ∀ G' env' a' w', Sim NG GW io w0 pd0 G' env' a' w' → vops C ops.toList dr rest env' K = some r → Nk a' w') : wpOp P ops Q i Nk a w := by
  have hnext : Nx NG GW io w0 pd0 (fun env' => vops C ops.toList dr rest env' K) r Nk := fun G' env' a' w' hs' h' => hN G' env' a' w' hs' h'
  unfold wpOp
  rw [hi]
  simp only
  rw [vops] at h
  split at h
  · rename_i hg
    have hw : Region.wanted o (yielded ops a.tmps) = true := by simp [Region.wanted, hg]
    rw [if_pos hw]
    exact .inl (vop_sound hti gws hC hs hnext h)
  · rename_i j want hg
    have hskip : ∀ (h2 : vput dr o.dst (.s undef) env (fun env' => vops C ops.toList dr rest env' K) = some r), Nk (a.put o.dst undef) w := fun h2 => hnext _ _ _ _ (hs.put o.dst fun d _ => VR.slot (VR.of_dr (.s _)) d) (vput_some h2)
    split at h
    · rename_i b hb
      have hy := seen_ok hs hb
      rcases bite_some h with ⟨hbw, h⟩ | ⟨hbw, h⟩
      · have hw : Region.wanted o (yielded ops a.tmps) = true := by simp only [Region.wanted, hg, hy]; simpa using hbw
        rw [if_pos hw]
        exact .inl (vop_sound hti gws hC hs hnext h)
      · have hw : ¬ Region.wanted o (yielded ops a.tmps) = true := by simp only [Region.wanted, hg, hy]; simpa using hbw
        rw [if_neg hw]
        exact hskip h
    · rename_i hb
      have hy := seen_ok hs hb
      have hw : ¬ Region.wanted o (yielded ops a.tmps) = true := by simp [Region.wanted, hg, hy]
      rw [if_neg hw]
      exact hskip h
    · cases h
inductive AnySt (C : Cx) (ops : Array Oper) (K : Env → Option R) (r : R) (vals : Nat → VV) (sv : Nat → Option (Nat × VV)) (env0 : Env) (n : Nat) (L : Array Bool) (env : Env) : Prop where
  | quiet (h0 : ∀ j, n ≤ j → L.getD j false = false) (h1 : Down ops.toList L) (h2 : QS (DD ops.toList sv) (VD vals sv) env0 (2 * n) (fun j => L.getD (j / 2) false = true) env)
  | last (j : Nat) (h0 : ∀ i, L.getD i false = true ↔ i < j) (hn : n ≤ j) (hj : j ≤ ops.size) (h1 : vops C ops.toList (some (allocs ops.toList)) (ops.toList.drop j) env K = some r)
theorem any_ok (hti : TIok P C.ti) (gws : ∀ w w', GW w → Below NG w w' → GW w') (hC : CallOk P NG GW C.call) (hO : Ord C ops.toList n)
    (hal0 : (allocs ops.toList).any (fun d => env0.any (refersD d)) = false)
    (hch : vops C ops.toList (some (allocs ops.toList)) (ops.toList.drop n) (chO ops.toList vals sv env0 n) K = some r)
    (hq : ∀ (k : Nat) o, k < n → ops.toList[k]? = some o → QStep P NG GW io w0 pd0 Q ops.toList (allocs ops.toList) k o (chO ops.toList vals sv env0 k) (vals k) (sv k)) (hsv : ∀ k, n ≤ k → sv k = none)
    (hn : Nx NG GW io w0 pd0 K r (Q .normal)) :
    ∀ (fuel : Nat) (L : Array Bool) (G : Gh) (env : Env) (a : Act) (w : World), L.size = ops.size → unl L.toList ≤ fuel → AnySt C ops K r vals sv env0 n L env → Sim NG GW io w0 pd0 G env a w → wpAny P .any ops Q fuel L a w := by
  have wr : ∀ (j : Nat) t, DD ops.toList sv j = some t → j < 2 * n → ∃ o, ops.toList[j / 2]? = some o ∧ Wr ops.toList o t ∧ (j % 2 = 0 → sdOf ops.toList o = some t ∧ plain (get (chO ops.toList vals sv env0 (j / 2)) t) = true ∧ ∃ xs, VD vals sv j = .sl xs) ∧ (j % 2 = 1 → o.dst = some t) := by
    intro j t hj hjn
    have hlt : j / 2 < ops.toList.length := by have := hO.le; omega
    have ho : ops.toList[j / 2]? = some (ops.toList[j / 2]'hlt) := List.getElem?_eq_getElem hlt
    refine ⟨_, ho, ?_⟩
    rcases Nat.mod_two_eq_zero_or_one j with h2 | h2
    · have e : j = 2 * (j / 2) := by omega
      rw [e, DD_even] at hj
      cases hs : sv (j / 2) with
      | none => rw [hs] at hj; cases hj
      | some p =>
        rw [hs] at hj
        obtain ⟨t', s'⟩ := p
        cases hj
        obtain ⟨h3, h4, xs, h5⟩ := (hq (j / 2) _ (by omega) ho).2.2.2.2.1 _ s' hs
        refine ⟨.inr h3, fun _ => ⟨h3, h4, xs, ?_⟩, fun h => by omega⟩
        rw [e, VD_even, hs]
        exact h5
    · have e : j = 2 * (j / 2) + 1 := by omega
      rw [e, DD_odd, ho] at hj
      exact ⟨.inl hj, fun h => by omega, fun _ => hj⟩
  have full : ∀ (L : Array Bool) (G : Gh) (env : Env) (a : Act) (w : World), (∀ i, i < ops.size → L.getD i false = true) → AnySt C ops K r vals sv env0 n L env → Sim NG GW io w0 pd0 G env a w → Q .normal a w := by
    intro L G env a w hf hst hs
    have hl := hO.le
    cases hst with
    | quiet h0 h1 h2 =>
      have hnn : ops.size ≤ n := Nat.le_of_not_lt fun hlt => by have := hf n hlt; rw [h0 n (Nat.le_refl _)] at this; cases this
      have he : env = chO ops.toList vals sv env0 n := h2.uniq ((QS.chain (2 * n) (Nat.le_refl _)).congr fun k hk => ⟨fun _ => hf (k / 2) (by simp at hl; omega), fun _ => hk⟩)
      rw [List.drop_eq_nil_of_le (by simpa using hnn), ← he] at hch
      exact hn _ _ _ _ hs hch
    | last j h0 hnj hj h1 =>
      have : ops.size ≤ j := Nat.le_of_not_lt fun hlt => by have := (h0 j).1 (hf j hlt); omega
      rw [List.drop_eq_nil_of_le (by simpa using this)] at h1
      exact hn _ _ _ _ hs h1
  have noready : ∀ (L : Array Bool), L.size = ops.size → Region.ready .any ops L = [] → ∀ i, i < ops.size → L.getD i false = true := by
    intro L hsz hr i
    induction i using Nat.strongRecOn with
    | _ i ih =>
      intro hi
      by_cases hL : L.getD i false = true
      · exact hL
      · exfalso
        have ho : ops.toList[i]? = some (ops.toList[i]'(by simpa using hi)) := List.getElem?_eq_getElem (by simpa using hi)
        have hm : i ∈ Region.ready .any ops.toList.toArray L := ready_iff.2 ⟨_, ho, by
          simp only [Array.getD_eq_getD_getElem?] at hL ⊢
          rw [Array.getElem?_eq_getElem (by omega)] at hL ⊢
          simpa using hL, fun e he hb => by
            have := hO.edge i _ ho e he hb
            exact ih e.on this (by omega)⟩
        rw [Array.toArray_toList] at hm
        rw [hr] at hm; cases hm
  intro fuel
  induction fuel with
  | zero =>
    intro L G env a w hsz hu hst hs
    have hall : ∀ i, i < ops.size → L.getD i false = true := by
      intro i hi
      have := unl_zero L.toList (by omega) i
      rw [Array.getElem?_toList, Array.getElem?_eq_getElem (by omega)] at this
      rw [Array.getD_eq_getD_getElem?, Array.getElem?_eq_getElem (by omega)]
      simpa using this
    refine ⟨?_, full L G env a w hall hst hs⟩
    refine List.eq_nil_iff_forall_not_mem.2 fun i hi => ?_
    rw [← Array.toArray_toList (xs := ops)] at hi
    obtain ⟨o, ho, h1, h2⟩ := ready_iff.1 hi
    have hlt : i < ops.size := by simpa using (List.getElem?_eq_some_iff.1 ho).1
    have := hall i hlt
    rw [Array.getD_eq_getD_getElem?, Array.getElem?_eq_getElem (by omega)] at this h1
    simp at this h1
    rw [this] at h1; cases h1
  | succ fuel ih =>
    intro L G env a w hsz hu hst hs
    refine ⟨fun hr => full L G env a w (noready L hsz hr) hst hs, fun i hi => ?_⟩
    rw [← Array.toArray_toList (xs := ops)] at hi
    obtain ⟨o, ho, hLi, hre⟩ := ready_iff.1 hi
    have hlt : i < ops.size := by simpa using (List.getElem?_eq_some_iff.1 ho).1
    have hLi' : L.getD i false = false := by
      rw [Array.getD_eq_getD_getElem?, Array.getElem?_eq_getElem (by omega)] at hLi ⊢
      simpa using hLi
    have hget : L.toList[i]? = some false := by
      rw [Array.getD_eq_getD_getElem?, Array.getElem?_eq_getElem (by omega)] at hLi
      rw [Array.getElem?_toList, Array.getElem?_eq_getElem (by omega)]
      simpa using hLi
    have hoa : ops[i]? = some o := by rw [← ho]; simp
    have hsz' : (L.setIfInBounds i true).size = ops.size := by simpa using hsz
    have hu' : unl (L.setIfInBounds i true).toList ≤ fuel := by
      have := unl_set L.toList i hget
      rw [Array.toList_setIfInBounds]; omega
    have hset : ∀ j, (L.setIfInBounds i true).getD j false = true ↔ L.getD j false = true ∨ j = i := fun j => listed_set (by omega)
    have seq : ∀ (j : Nat), (∀ i, L.getD i false = true ↔ i < j) → n ≤ j → j ≤ ops.size → (∀ k, k < i → ((befores ops.toList []).getD i 0).testBit k = true) → Down ops.toList L → vops C ops.toList (some (allocs ops.toList)) (ops.toList.drop j) env K = some r → wpOp P ops Q i (wpAny P .any ops Q fuel (L.setIfInBounds i true)) a w := by
      intro j h0 hnj hj hbs hd h1
      have hij : i = j := by
        have h3 : ¬ i < j := fun h => by have := (h0 i).2 h; rw [hLi'] at this; cases this
        have h4 : ¬ j < i := fun h => by
          have := before_listed hd i o ho hre j (hbs j h)
          have := (h0 j).1 this
          omega
        omega
      subst hij
      rw [List.drop_eq_getElem_cons (by simpa using hlt)] at h1
      have hoe : ops.toList[i]'(by simpa using hlt) = o := by
        have := List.getElem?_eq_getElem (l := ops.toList) (i := i) (by simpa using hlt)
        rw [ho] at this; exact (Option.some.inj this).symm
      rw [hoe] at h1
      refine vops_step hti gws hC hoa hs h1 fun G' env' a' w' hs' h' => ih _ G' env' a' w' hsz' hu' (.last (i + 1) (fun k => ?_) (by omega) (by omega) h') hs'
      rw [hset, h0]; omega
    cases hst with
    | quiet h0 hd0 h2 =>
      by_cases hin : i < n
      ·
        have hQ := hq i o hin ho
        have hch2 := QS.chain (vals := VD vals sv) (D := DD ops.toList sv) (n := 2 * n) (env0 := env0) (2 * i) (by omega)
        have later : ∀ (k : Nat) p d, i < k → k < n → ops.toList[k]? = some p → Wr ops.toList p d → Wr ops.toList o d → ¬ L.getD k false = true := fun k p d hik hk hp h1 h3 h => by
          have := before_listed hd0 k p hp (hd0 k p hp h) i (hO.dist i k o p d hik hk ho hp h3 h1)
          rw [hLi'] at this; cases this
        have hag : Agree ops.toList (allocs ops.toList) o (chO ops.toList vals sv env0 i) env := by
          refine ⟨fun t ht => ?_, fun t cs hta hb => ?_, fun d hd' => ?_, fun d hda => ?_⟩
          · refine h2.at hch2 fun j hj hd => ?_
            obtain ⟨p, hp, hpd, _, _⟩ := wr j t hd hj
            rcases Nat.lt_trichotomy (j / 2) i with hki | hki | hki
            · refine ⟨fun _ => by omega, fun _ => ?_⟩
              cases hb : ((befores ops.toList []).getD i 0).testBit (j / 2)
              · exact absurd (by simpa using ht) ((hO.apart (j / 2) i p o hki hin hp ho hb).1 t hpd)
              · exact before_listed hd0 i o ho hre (j / 2) hb
            · rw [hki]
              exact ⟨fun h => absurd h (by rw [hLi']; decide), fun h => by omega⟩
            · refine ⟨fun h => ?_, fun h => by omega⟩
              exfalso
              cases hb : ((befores ops.toList []).getD (j / 2) 0).testBit i
              · exact absurd (by simpa using ht) ((hO.apart i (j / 2) o p hki (by omega) ho hp hb).2 t hpd)
              · have := before_listed hd0 (j / 2) p hp (hd0 (j / 2) p hp h) i hb
                rw [hLi'] at this; cases this
          · by_cases hx : ∃ (j : Nat), j < 2 * n ∧ DD ops.toList sv j = some t
            · have htl : t < env0.length := by
                refine Nat.lt_of_not_le fun hle => ?_
                rw [get, nth_none (List.getElem?_eq_none (by rw [show (chO ops.toList vals sv env0 i).length = env0.length from hch2.len]; exact hle))] at hb
                cases hb
              by_cases hki : ∃ (j : Nat), j < 2 * n ∧ (DD ops.toList sv j = some t ∧ j < 2 * i)
              · obtain ⟨j, hj, ⟨hd, hji⟩, hmax⟩ := exists_max _ hki
                obtain ⟨p, hp, hpd, hev, hod⟩ := wr j t hd hj
                rw [chO, hch2.hit j t hj hd hji htl fun j' a b c d => hmax j' a b ⟨c, d⟩] at hb
                rcases Nat.mod_two_eq_zero_or_one j with h6 | h6
                · obtain ⟨_, _, xs, h7⟩ := hev h6
                  rw [h7] at hb; cases hb
                · have e : j = 2 * (j / 2) + 1 := by omega
                  rw [e, VD_odd] at hb
                  exact absurd ((hq (j / 2) p (by omega) hp).2.2.1 cs hb t (hod h6)) hta
              · obtain ⟨j0, hj0, hd0'⟩ := hx
                obtain ⟨j, hjle, hd, hmin⟩ := exists_min (p := fun j => DD ops.toList sv j = some t) hd0'
                obtain ⟨p, hp, hpd, hev, hod⟩ := wr j t hd (by omega)
                have hge : ¬ j < 2 * i := fun h => hki ⟨j, by omega, hd, h⟩
                have hchk := QS.chain (D := DD ops.toList sv) (n := 2 * n) (vals := VD vals sv) (env0 := env0) (2 * (j / 2)) (by omega)
                have h5 : get (chO ops.toList vals sv env0 i) t = get env0 t := hch2.miss t fun j' hj' hd' h => hki ⟨j', hj', hd', h⟩
                have h6 : get (chO ops.toList vals sv env0 (j / 2)) t = get env0 t := hchk.miss t fun j' hj' hd' h => hmin j' (by omega) hd'
                have h8 : plain (get (chO ops.toList vals sv env0 (j / 2)) t) = true := by
                  rcases Nat.mod_two_eq_zero_or_one j with h7 | h7
                  · exact (hev h7).2.1
                  · exact (hq (j / 2) p (by omega) hp).1 t (hod h7)
                rw [h6, ← h5, hb] at h8
                cases h8
            · have hm : ∀ (j : Nat), j < 2 * n → DD ops.toList sv j ≠ some t := fun j h1 h4 => hx ⟨j, h1, h4⟩
              rw [chO, hch2.miss t fun j h1 h4 => absurd h4 (hm j h1)] at hb
              rw [h2.miss t fun j h1 h4 => absurd h4 (hm j h1)]
              exact hb
          · have := hQ.1 d hd'
            rw [h2.at hch2 (t := d) fun j hj hd => ?_]
            · exact this
            · obtain ⟨p, hp, hpd, _, _⟩ := wr j d hd hj
              rcases Nat.lt_trichotomy (j / 2) i with hki | hki | hki
              · exact ⟨fun _ => by omega, fun _ => before_listed hd0 i o ho hre (j / 2) (hO.dist (j / 2) i p o d hki hin hp ho hpd (.inl hd'))⟩
              · rw [hki]
                exact ⟨fun h => absurd h (by rw [hLi']; decide), fun h => by omega⟩
              · exact ⟨fun h => absurd h (later (j / 2) p d hki (by omega) hp hpd (.inl hd')), fun h => by omega⟩
          · refine List.any_eq_false.2 fun v hv => ?_
            obtain ⟨t, ht, rfl⟩ := List.getElem_of_mem hv
            have hgt : get env t = env[t] := nth_some (List.getElem?_eq_getElem ht)
            rw [← hgt]
            by_cases hx : ∃ (j : Nat), j < 2 * n ∧ (DD ops.toList sv j = some t ∧ L.getD (j / 2) false = true)
            · obtain ⟨j, hj, ⟨hd, hs4⟩, hmax⟩ := exists_max _ hx
              obtain ⟨p, hp, hpd, hev, hod⟩ := wr j t hd hj
              rw [h2.hit j t hj hd hs4 (by rw [← h2.len]; exact ht) fun j' a b c d => hmax j' a b ⟨c, d⟩]
              rcases Nat.mod_two_eq_zero_or_one j with h6 | h6
              · obtain ⟨_, _, xs, h7⟩ := hev h6
                rw [h7]; simp [refersD, refers]
              · have e : j = 2 * (j / 2) + 1 := by omega
                rw [e, VD_odd]
                have := (hq (j / 2) p (by omega) hp).2.1 d hda (by rw [hod h6]; simp)
                rw [this]; simp
            · rw [h2.miss t fun j h1 h3 h5 => hx ⟨j, h1, h3, h5⟩]
              have h7 := List.any_eq_false.1 hal0 d hda
              have h7' : env0.any (refersD d) = false := by simpa using h7
              have ht0 : t < env0.length := by rw [← h2.len]; exact ht
              have := List.any_eq_false.1 h7' env0[t] (List.getElem_mem _)
              rw [get, nth_some (List.getElem?_eq_getElem ht0)]
              exact this
        have hw := hQ.2.2.2.2.2 env G a w hag hs (wpAny P .any ops Q fuel (L.setIfInBounds i true)) (fun G' a' w' hs' => ih _ G' _ a' w' hsz' hu' (.quiet ?_ ?_ ?_) hs')
        · rwa [Array.toArray_toList] at hw
        · intro j hj
          have : ¬ (L.setIfInBounds i true).getD j false = true := fun h => by
            rcases (hset j).1 h with h | h
            · rw [h0 j hj] at h; cases h
            · omega
          simpa using this
        · intro j p hp hj e he hb
          rw [hset]
          rcases (hset j).1 hj with h | h
          · exact .inl (hd0 j p hp h e he hb)
          · subst h; rw [ho] at hp; cases hp
            exact .inl (hre e he hb)
        · have e2 : 2 * i / 2 = i := by omega
          have st1 := h2.step (k := 2 * i) (by omega) (by rw [e2, hLi']; simp) (fun j d hij hj hd hd2 h => by
            obtain ⟨p, hp, hpd, _, _⟩ := wr j d hd hj
            obtain ⟨p2, hp2, hpd2, _, _⟩ := wr (2 * i) d hd2 (by omega)
            rw [e2, ho] at hp2; cases hp2
            by_cases hji : j / 2 = i
            · rw [hji, hLi'] at h; cases h
            · exact later (j / 2) p d (by omega) (by omega) hp hpd hpd2 h)
          rw [DD_even, VD_even, put_put2] at st1
          have e3 : (2 * i + 1) / 2 = i := by omega
          have st2 := st1.step (k := 2 * i + 1) (by omega) (fun h => by
            rcases h with h | h
            · rw [e3, hLi'] at h; cases h
            · omega) (fun j d hij hj hd hd2 h => by
            obtain ⟨p, hp, hpd, _, _⟩ := wr j d hd hj
            obtain ⟨p2, hp2, hpd2, _, _⟩ := wr (2 * i + 1) d hd2 (by omega)
            rw [e3, ho] at hp2; cases hp2
            rcases h with h | h
            · exact later (j / 2) p d (by omega) (by omega) hp hpd hpd2 h
            · omega)
          rw [DD_odd, VD_odd, ho] at st2
          refine st2.congr fun k hk => ?_
          rw [hset]
          constructor
          · rintro ((h | h) | h)
            · exact .inl h
            · exact .inr (by omega)
            · exact .inr (by omega)
          · rintro (h | h)
            · exact .inl (.inl h)
            · rcases Nat.mod_two_eq_zero_or_one k with h6 | h6
              · exact .inl (.inr (by omega))
              · exact .inr (by omega)
      ·
        have hsol := fun k (hk : k < i) => hO.solid k i (by omega) (by simpa using hlt) hk
        have hall : ∀ k, k < i → L.getD k false = true := fun k hk => before_listed hd0 i o ho hre k (hsol k hk)
        have hni : n = i := by
          refine nat_eq (fun h => ?_) (fun h => by omega)
          have := hall n h
          rw [h0 n (Nat.le_refl _)] at this; cases this
        have hle : ∀ k, L.getD k false = true ↔ k < n := fun k => ⟨fun h => Nat.lt_of_not_le fun hk => absurd h (by rw [h0 k hk]; decide), fun h => hall k (by omega)⟩
        have he : env = chO ops.toList vals sv env0 n := h2.uniq ((QS.chain (2 * n) (Nat.le_refl _)).congr fun k hk => ⟨fun _ => (hle (k / 2)).2 (by omega), fun _ => hk⟩)
        rw [← he] at hch
        exact seq n hle (Nat.le_refl _) (by simpa using hO.le) hsol hd0 hch
    | last j h0 hnj hj h1 =>
      have hd : Down ops.toList L := fun k p hp hk e he hb => by
        have h5 := (h0 k).1 hk
        have := hO.edge k p hp e he hb
        exact (h0 e.on).2 (by omega)
      have hge : n ≤ i := by
        have : ¬ i < j := fun h => by have := (h0 i).2 h; rw [hLi'] at this; cases this
        omega
      exact seq j h0 hnj hj (fun k hk => hO.solid k i hge (by simpa using hlt) hk) hd h1
theorem any_sound (hm : P.follows .mixedOrders = true) (hti : TIok P C.ti) (gws : ∀ w w', GW w → Below NG w w' → GW w') (hC : CallOk P NG GW C.call) : AnyOk P NG GW C := by
  intro R io w0 pd0 G env a w K r Q id ops hO hal hs h hn
  obtain ⟨n, hO⟩ := anyOrder_ord hO
  have hmem : ∀ (k : Nat) o t d, ops.toList[k]? = some o → o.op = .alloc t → o.dst = some d → d ∈ allocs ops.toList := by
    intro k o t d ho hop hd
    unfold allocs
    exact List.mem_filterMap.2 ⟨o, List.mem_of_getElem? ho, by rw [hop]; exact hd⟩
  obtain ⟨vals, sv, h1, h0, h2⟩ := canon (io := io) (w0 := w0) (pd0 := pd0) (Q := Q) hti gws hC hO hmem h n (Nat.le_refl _)
  refine wp_region_any hm (any_ok hti gws hC hO hal h1 h2 h0 hn ops.size _ G env a w.drew (by simp) ?_ (.quiet ?_ ?_ ?_) (hs.drew gws))
  · rw [Array.toList_replicate, unl_rep]; exact Nat.le_refl _
  · intro j hj
    simp only [Array.getD_eq_getD_getElem?, Array.getElem?_replicate]
    split <;> rfl
  · intro j o ho hj
    simp only [Array.getD_eq_getD_getElem?, Array.getElem?_replicate] at hj
    split at hj <;> simp at hj
  · refine ⟨rfl, fun k d hk hd hsk => ?_, fun _ _ => rfl⟩
    simp only [Array.getD_eq_getD_getElem?, Array.getElem?_replicate] at hsk
    split at hsk <;> simp at hsk
end
end Go.Proofs.YtoidompkofomjaaGreatDoor.VI

end
section
namespace Go.Proofs.YtoidompkofomjaaGreatDoor.VI
open Go Go.RowKit Go.Proofs.YtoidompkofomjaaGreatDoorW.PrintWords
set_option linter.unusedVariables false
set_option linter.unusedSimpArgs false
abbrev anyP : Nat → Nat → Prop := fun _ _ => True
structure KV {α : Type} (d : Kd α) (enc : α → List VV) : Prop where
  pos : 0 < d.sz
  len : ∀ x, (enc x).length = d.sz
  rel : ∀ {w x cs}, d.K w x cs → DRs anyP w (enc x) cs
theorem kv_scalar {α : Type} {mk : α → Value} {h1 : ∀ x, (mk x).oneCell' = true} : KV (Kd.scalar mk h1) (fun x => [.s (mk x)]) :=
  ⟨Nat.one_pos, fun _ => rfl, fun {w x cs} h => by cases h; exact .cons _ _ _ _ (.s _) .nil⟩
theorem kv_string : KV Kd.string (fun x => [VV.str x]) := kv_scalar (h1 := fun _ => rfl)
theorem kv_byte : KV (Kd.int .u8) (fun x => [VV.byte x]) := kv_scalar (h1 := fun _ => rfl)
theorem dr_row {α : Type} {d : Kd α} {enc : α → VV} (h : KV d (fun x => (enc x).cells)) {w : World} {A : Option Addr} {xs : List α} {c : Nat} (hc : xs.length ≤ c) (hr : Kd.C d w A xs.length xs) : DR anyP w (.sl (xs.map enc)) (.slice A xs.length c) := by
  obtain ⟨_, hm, hA⟩ := hr
  by_cases h0 : xs.length = 0
  · obtain rfl := List.eq_nil_of_length_eq_zero h0
    exact .sl0 _ _
  obtain ⟨ad, rfl, hrow⟩ := hA (by omega)
  have hsp : ad.spot = none := by
    obtain ⟨cs, hl, _, hcell⟩ := hrow 0 _ (List.getElem?_eq_getElem (by omega))
    have hp := h.pos
    have h1 := hcell 0 _ (List.getElem?_eq_getElem (by omega))
    rw [Nat.zero_mul, Nat.zero_add] at h1
    have h2 : ad.add 0 = ad := by simp [Addr.add]
    rw [h2] at h1
    unfold World.cell? at h1
    split at h1
    · cases hs : ad.spot with
      | none => rfl
      | some _ => rw [hs] at h1; simp at h1
    · cases h1
  obtain ⟨g, off, sp⟩ := ad
  subst hsp
  have key : ∀ (ys : List α) (j0 : Nat), (∀ j p, ys[j]? = some p → ∃ c, c.length = d.sz ∧ d.K w p c ∧ ∀ i u, c[i]? = some u → w.cell? ((⟨g, off, none⟩ : Addr).add ((j0 + j) * d.sz + i)) = some u) → ∃ ms : List Value, DRs anyP w (ys.flatMap fun x => (enc x).cells) ms ∧ (∀ u ∈ ms, u.oneCell' = true) ∧ ∀ (k : Nat) u, ms[k]? = some u → w.cell? ⟨g, off + (j0 * d.sz + k), none⟩ = some u := by
    intro ys
    induction ys with
    | nil => intro j0 _; exact ⟨[], .nil, by simp, fun k u hk => by simp at hk⟩
    | cons y r ih =>
      intro j0 hy
      obtain ⟨c, hl, hK, hcell⟩ := hy 0 y rfl
      obtain ⟨ms, h1, h2, h3⟩ := ih (j0 + 1) fun j p hp => by
        obtain ⟨c', q1, q2, q3⟩ := hy (j + 1) p (by simpa using hp)
        refine ⟨c', q1, q2, fun i u hu => ?_⟩
        have := q3 i u hu
        rw [show j0 + (j + 1) = j0 + 1 + j by omega] at this
        exact this
      refine ⟨c ++ ms, by rw [List.flatMap_cons]; exact (h.rel hK).app h1, fun u hu => ?_, fun k u hu => ?_⟩
      · rcases List.mem_append.1 hu with hu | hu
        · exact d.K_one hK u hu
        · exact h2 u hu
      · by_cases hk : k < c.length
        · rw [List.getElem?_append_left hk] at hu
          have := hcell k u hu
          rw [Nat.add_zero] at this
          have hadd : ∀ n, (⟨g, off, none⟩ : Addr).add n = ⟨g, off + n, none⟩ := fun n => by unfold Addr.add; split <;> simp_all
          rw [hadd] at this
          exact this
        · rw [List.getElem?_append_right (by omega)] at hu
          have := h3 (k - c.length) u hu
          rw [show off + ((j0 + 1) * d.sz + (k - c.length)) = off + (j0 * d.sz + k) by rw [Nat.add_mul]; omega] at this
          exact this
  obtain ⟨ms, h1, h2, h3⟩ := key xs 0 (fun j p hp => by rw [Nat.zero_add]; exact hrow j p hp)
  have := DR.sl (pd := anyP) (w := w) (xs.map enc) g off c d.sz ms (by simpa using hc) (by simpa [maxLen] using hm) (by
      intro x hx
      obtain ⟨y, _, rfl⟩ := List.mem_map.1 hx
      exact h.len y) (by rw [List.flatMap_map]; exact h1) h2 fun k u hu => ⟨by have := h3 k u hu; rw [Nat.zero_mul, Nat.zero_add] at this; exact this, trivial⟩
  rw [List.length_map] at this
  exact this
theorem kv_pair {α β : Type} {a : Kd α} {b : Kd β} {ea : α → List VV} {eb : β → List VV} (h : KV a ea) (k : KV b eb) : KV (Kd.pair a b) (fun x => ea x.1 ++ eb x.2) :=
  ⟨by show 0 < a.sz + b.sz; have := h.pos; omega, fun x => by show (ea x.1 ++ eb x.2).length = a.sz + b.sz; rw [List.length_append, h.len, k.len], fun {w x cs} hK => by
    obtain ⟨c0, c1, rfl, h0, h1⟩ := hK
    exact (h.rel h0).app (k.rel h1)⟩
theorem kv_iso {α β : Type} {d : Kd α} {f : β → α} {ea : α → List VV} {eb : β → List VV} (h : KV d ea) (he : ∀ x, eb x = ea (f x)) : KV (Kd.iso d f) eb :=
  ⟨h.pos, fun x => by rw [he]; exact h.len _, fun {w x cs} hK => by rw [he]; exact h.rel hK⟩
section
variable {P : Program} {NG : Nat} {GW : World → Prop} {f : FuncId}
theorem dr_nbx {pd : Nat → Nat → Prop} {w : World} {v : VV} {m : Value} (h : DR pd w v m) (cs : List VV) : v ≠ .bx cs := by cases h <;> exact fun e => VV.noConfusion e
theorem dr_arg {H : Gh} {w : World} {v : VV} {m : Value} (h : DR H.pd w v m) : ArgR H w v m := by cases h <;> (show DR H.pd w _ _) <;> constructor <;> assumption
theorem CallOk1.calls {vs : List VV} {ms : List Value} {v : Value} {w : World} (h : CallOk1 P NG GW f vs (.s v, [])) (hgw : GW w) (hng : NG ≤ w.heap.size) (ha : DRs anyP w vs ms) : Calls P f ms.toArray w fun e w' => e = .returned v ∧ Below w.heap.size w w' := by
  have hnb : ∀ x ∈ vs, ∀ cs, x ≠ .bx cs := fun x hx cs => by
    obtain ⟨i, hi, rfl⟩ := List.getElem_of_mem hx
    obtain ⟨m, _, hd⟩ := ha.get (List.getElem?_eq_getElem hi)
    exact dr_nbx hd cs
  have hio := ioB_none vs ms hnb
  have := h.2 w ms ⟨anyP, anyP, fun _ => 0, fun _ => none, 0⟩ hgw hng ha.length (fun i x m hx hm => dr_arg (H := ⟨anyP, anyP, fun _ => 0, fun _ => none, 0⟩) (ha.at hx hm)) (by rw [hio]; exact List.nodup_nil) (by rw [hio]; simp) (by rw [hio]; simp) (fun _ _ h => h)
  refine this.mono fun e w' he => ?_
  obtain ⟨m, rfl, hfr, pd', _, hres, _⟩ := he
  have hd : DR pd' w' (.s v) m := hres
  cases hd
  exact ⟨rfl, hfr.os, hfr.tape, hfr.output, hfr.size, fun k hk => hfr.block k hk (by rw [hio]; simp)⟩
end
section
variable {P : Program} {NG : Nat} {GW : World → Prop} {f : FuncId}
theorem CallOk1.callsG {vs : List VV} {ms : List Value} {r : VV} {w : World} (h : CallOk1 P NG GW f vs (r, [])) (hgw : GW w) (hng : NG ≤ w.heap.size) (ha : DRs anyP w vs ms) : Calls P f ms.toArray w fun e w' => ∃ m pd', e = .returned m ∧ ResR w.heap.size pd' w' r m ∧ Below w.heap.size w w' := by
  have hnb : ∀ x ∈ vs, ∀ cs, x ≠ .bx cs := fun x hx cs => by
    obtain ⟨i, hi, rfl⟩ := List.getElem_of_mem hx
    obtain ⟨m, _, hd⟩ := ha.get (List.getElem?_eq_getElem hi)
    exact dr_nbx hd cs
  have hio := ioB_none vs ms hnb
  have := h.2 w ms ⟨anyP, anyP, fun _ => 0, fun _ => none, 0⟩ hgw hng ha.length (fun i x m hx hm => dr_arg (H := ⟨anyP, anyP, fun _ => 0, fun _ => none, 0⟩) (ha.at hx hm)) (by rw [hio]; exact List.nodup_nil) (by rw [hio]; simp) (by rw [hio]; simp) (fun _ _ h => h)
  refine this.mono fun e w' he => ?_
  obtain ⟨m, rfl, hfr, pd', _, hres, _⟩ := he
  exact ⟨m, pd', rfl, hres, hfr.os, hfr.tape, hfr.output, hfr.size, fun k hk => hfr.block k hk (by rw [hio]; simp)⟩
theorem CallOk1.callsA {vs : List VV} {ms : List Value} (ls ks : List Value) {w : World} (h : CallOk1 P NG GW f vs (.tu (.ag (ls.map VV.s) :: ks.map VV.s), [])) (hgw : GW w) (hng : NG ≤ w.heap.size) (ha : DRs anyP w vs ms) : Calls P f ms.toArray w fun e w' => e = .returned (.tuple (.agg ls.toArray :: ks).toArray) ∧ Below w.heap.size w w' := by
  refine (h.callsG hgw hng ha).mono fun e w' he => ?_
  obtain ⟨m, pd', rfl, hres, hb⟩ := he
  have hd : DR pd' w' (.tu (.ag (ls.map VV.s) :: ks.map VV.s)) m := hres
  cases hd with
  | tu cs us hr =>
    cases hr with
    | cons _ m0 _ us h0 hs =>
      cases h0 with
      | ag _ qs hq h1 =>
        rw [drs_s ls hq, drs_s ks hs]
        exact ⟨rfl, hb⟩
end
end Go.Proofs.YtoidompkofomjaaGreatDoor.VI

end
section
namespace Go.Proofs.YtoidompkofomjaaGreatDoor.VI
open Go
set_option linter.unusedSimpArgs false
set_option linter.unusedVariables false
def Im {α β : Type} (e : α → β) (x : Option α) (y : Option β) : Prop := ∀ r, x = some r → y = some (e r)
section
variable {α β γ δ : Type} {e : α → β} {x : Option α} {y z : Option β}
theorem Im.none : Im e .none y := fun _ h => by cases h
theorem Im.ret {r : α} (h : y = some (e r)) : Im e (some r) y := fun s hs => by cases hs; exact h
theorem Im.sbind {a : γ} {f : γ → Option α} (h : Im e (f a) y) : Im e ((some a).bind f) y := h
theorem Im.ite {c : Prop} [Decidable c] {a b : Option α} (ht : c → Im e a y) (hf : ¬ c → Im e b y) : Im e (if c then a else b) y := by
  by_cases h : c
  · rw [if_pos h]; exact ht h
  · rw [if_neg h]; exact hf h
theorem Im.bite_t {b : Bool} (hb : b = true) (h : Im e x y) : Im e x (bite b y z) := by subst hb; exact h
theorem Im.bite_f {b : Bool} (hb : b = false) (h : Im e x z) : Im e x (bite b y z) := by subst hb; exact h
theorem Im.must {b : Bool} (hb : b = true) (h : Im e x y) : Im e x (VI.must b y) := by subst hb; exact h
theorem Im.bind {e' : γ → δ} {u : Option γ} {v : Option δ} {f : γ → Option α} {g : δ → Option β} (h : Im e' u v) (k : ∀ a, u = some a → Im e (f a) (g (e' a))) : Im e (u.bind f) (obind v g) := by
  intro r hr
  obtain ⟨a, ha, hr⟩ := Option.bind_eq_some_iff.1 hr
  rw [h a ha]
  exact k a ha r hr
end
end Go.Proofs.YtoidompkofomjaaGreatDoor.VI

end
section
namespace Go.Proofs.YtoidompkofomjaaGreatDoor.VI
open Go Go.RowKit Go.Proofs.YtoidompkofomjaaGreatDoorW.PrintWords
set_option linter.unusedVariables false
set_option linter.unusedSimpArgs false
theorem frc1_eq' {α : Type} (v : VV) (k : VV → α) : frc1 v k = k v := by cases v <;> rfl
theorem frcL_eq' {α : Type} : ∀ (l : List VV) (k : List VV → α), frcL l k = k l
  | [], _ => rfl
  | v :: r, k => by rw [frcL, frc1_eq', frcL_eq' r]
theorem clr_clr : ∀ (l : List Nat) (env : Env) (i : Nat), clr l i (clr l i env) = clr l i env
  | l, [], i => rfl
  | l, v :: r, i => by
    simp only [clr]
    rw [clr_clr l r (i + 1)]
    split <;> rfl
theorem clear_clear (l : Option (List Nat)) (env : Env) : clear l (clear l env) = clear l env := by
  cases l with
  | none => rfl
  | some l => exact clr_clr l env 0
section
variable {α β γ δ : Type} {e : α → β} {x : Option α} {y z : Option β}
theorem iter_clear {l : Option (List Nat)} {g : Env → (Exit → Env → Option β) → Option β} {K : Exit → Env → Option β} : ∀ {M : Nat} {env : Env}, iter (fun env' K' => clearK l env' fun e => g e K') M env K = iter (fun env' K' => clearK l env' fun e => g e K') M (clear l env) K
  | 0, _ => rfl
  | M + 1, env => by simp only [iter, clearK, frcL_eq', clear_clear]
theorem Im.loop {σ : Type} {l : Option (List Nat)} {g : Env → (Exit → Env → Option β) → Option β} {K : Exit → Env → Option β} (S : σ → Env) (L : Nat → σ → Option α) (k0 : Nat) (h0 : ∀ s, L 0 s = Option.none)
    (hs : ∀ k M s, k + 1 ≤ k0 → k ≤ M → (∀ k' s' env, k' ≤ k → clear l env = S s' → Im e (L k' s') (iter (fun env' K' => clearK l env' fun e => g e K') M env K)) → Im e (L (k + 1) s) (iter (fun env' K' => clearK l env' fun e => g e K') (M + 1) (S s) K)) :
    ∀ k M s env, k ≤ k0 → k ≤ M → clear l env = S s → Im e (L k s) (iter (fun env' K' => clearK l env' fun e => g e K') M env K) := by
  intro k
  induction k using Nat.strongRecOn with
  | _ k IH =>
    intro M s env hk hM hc
    cases k with
    | zero => rw [h0]; exact Im.none
    | succ k =>
      obtain ⟨M, rfl⟩ : ∃ M', M = M' + 1 := ⟨M - 1, by omega⟩
      rw [iter_clear, hc]
      exact hs k M s hk (by omega) fun k' s' env' hk' hc' => IH k' (by omega) M s' env' (by omega) (by omega) hc'
theorem Im.nat (F : Nat → Option α) (k : Nat) (h0 : F 0 = Option.none) (hs : ∀ k', k = k' + 1 → Im e (F (k' + 1)) y) : Im e (F k) y := by
  cases k with
  | zero => rw [h0]; exact Im.none
  | succ k => exact hs k rfl
theorem Im.vget {τ : Type} {l : List τ} {enc : τ → VV} {i : Int} {f : VV → Option β} (d : τ) (h0 : 0 ≤ i) (h1 : i < (l.length : Int)) (h : Im e x (f (enc (rdOf d l i)))) : Im e x (vget (l.map enc) i f) := by
  unfold VI.vget
  have hl : i.toNat < l.length := by omega
  rw [List.getElem?_map, List.getElem?_eq_getElem hl]
  simp only [Option.map_some]
  unfold rdOf at h
  rw [List.getD_eq_getElem?_getD, List.getElem?_eq_getElem hl] at h
  exact h
theorem Im.anyo {C : Cx} {l : List Oper} (h : anyOrder C l = true) (k : Im e x y) : Im e x (bite (anyOrder C l) y z) := Im.bite_t h k
theorem Im.fin {b : β} {r : α} (h : b = e r) : Im e (some r) (some b) := Im.ret (congrArg some h)
theorem Im.call {e' : γ → VV × List VV} {u : Option γ} {fn : List VV → Option (VV × List VV)} {us bs : List VV} {f : γ → Option α} {g : VV × List VV → Option β} (h : Im e' u (fn bs)) (ha : us = bs) (k : ∀ a, u = some a → Im e (f a) (g (e' a))) : Im e (u.bind f) (obind (fn us) g) := by
  subst ha
  exact Im.bind h k
end
theorem byL_of : ∀ l : List Int, byL (l.map VV.byte) = some l
  | [] => rfl
  | n :: r => by
    show obind (byL (r.map VV.byte)) _ = _
    rw [byL_of r]
    rfl
theorem wr_i64 (n : Int) : wr .i64 n = wrap64 n := rfl
theorem wr_u8 (n : Int) : wr .u8 n = n % 256 := rfl
theorem bt_bt (s : ByteArray) (i : Int) : VI.bt s i = Go.Proofs.YtoidompkofomjaaGreatDoorW.PrintWords.bt s i := rfl
theorem ba_size (a : Array UInt8) : (⟨a⟩ : ByteArray).size = a.size := rfl
theorem ba_toList (a : Array UInt8) : (⟨a⟩ : ByteArray).toList = a.toList := by
  rw [Go.ByteArray.toList_eq]
theorem rd_rdOf (xs : List Int) (i : Int) : Go.Proofs.YtoidompkofomjaaGreatDoorW.PrintWords.rd xs i = rdOf 0 xs i := rfl
theorem u8_bits : IntKind.bits .u8 = 8 := rfl
theorem fdiv_16 (x : Int) : x.fdiv 16 = x / 16 := Int.fdiv_eq_ediv_of_nonneg x (by decide)
theorem fdiv_16b (x : Int) : x.fdiv (2 ^ min (Int.toNat 4) 8) = x / 16 := Int.fdiv_eq_ediv_of_nonneg x (by decide)
theorem bits_and8 (x y : Int) : IntKind.wrap .u8 ((BitVec.ofInt 8 x &&& BitVec.ofInt 8 y).toNat : Int) = Go.bits .and .u8 x y := rfl
theorem bits_and (x y : Int) : IntKind.wrap .u8 ((BitVec.ofInt IntKind.u8.bits x &&& BitVec.ofInt IntKind.u8.bits y).toNat : Int) = Go.bits .and .u8 x y := rfl
theorem and_t {a b : Bool} (h : a = true) (k : b = true) : (a && b) = true := by rw [h, k]; rfl
theorem all_cells {α : Type} {enc : α → VV} {z : Nat} {l : List α} (h : ∀ x, Nat.beq (enc x).cells.length z = true) : ((l.map enc).all fun v => Nat.beq v.cells.length z) = true := by
  rw [List.all_map, List.all_eq_true]
  exact fun x _ => h x
theorem beq_self (n : Nat) : Nat.beq n n = true := Nat.beq_refl n
noncomputable def limF {α : Type} (g : Nat → Option α) : Option α := open Classical in if h : ∃ k r, g k = some r then some (Classical.choose (Classical.choose_spec h)) else none
theorem limF_up {α : Type} {g : Nat → Option α} (hm : ∀ k, LeO (g k) (g (k + 1))) {r : α} : ∀ (d k : Nat), g k = some r → g (k + d) = some r
  | 0, k, h => h
  | d + 1, k, h => hm (k + d) r (limF_up hm d k h)
theorem limF_inv {α : Type} {g : Nat → Option α} {r : α} (h : limF g = some r) : ∃ k, g k = some r := by
  unfold limF at h
  split at h
  · rename_i hx
    cases h
    exact ⟨_, Classical.choose_spec (Classical.choose_spec hx)⟩
  · cases h
theorem limF_some {α : Type} {g : Nat → Option α} (hm : ∀ k, LeO (g k) (g (k + 1))) {k : Nat} {r : α} (h : g k = some r) : limF g = some r := by
  have hx : ∃ k r, g k = some r := ⟨k, r, h⟩
  have e : limF g = some (Classical.choose (Classical.choose_spec hx)) := by unfold limF; rw [dif_pos hx]
  rw [e]
  obtain ⟨j, hj⟩ := limF_inv e
  have h1 := limF_up hm j k h
  have h2 := limF_up hm k j hj
  rw [Nat.add_comm j k, h1] at h2
  exact h2.symm
theorem bnd_ok {n : Nat} {l h : Int} (h0 : 0 ≤ l) (h1 : l ≤ h) (h2 : h ≤ (n : Int)) : bndOk n l h = true := by
  unfold bndOk
  rw [decide_eq_true (Int.le_trans h0 h1), decide_eq_true h2, decide_eq_true h0, decide_eq_true h1]
  rfl
def keepT : Bool → Option Bool
  | true => some true
  | false => none
theorem keepT_t : keepT true = some true := rfl
theorem keepT_f : keepT false = none := rfl
theorem ite_bindT {α β : Type} {c : Prop} [Decidable c] (a b : Option α) (f : α → Option β) : (if c then a else b).bind f = if c then a.bind f else b.bind f := by split <;> rfl
theorem none_bindT {α β : Type} (f : α → Option β) : (none : Option α).bind f = none := rfl
theorem some_bindT {α β : Type} (a : α) (f : α → Option β) : (some a).bind f = f a := rfl
theorem bind_bindT {α β γ : Type} (x : Option α) (g : α → Option β) (f : β → Option γ) : (x.bind g).bind f = x.bind fun a => (g a).bind f := by cases x <;> rfl
theorem Im.keepT {β : Type} {e : Bool → β} {b : Bool} {y : β} (h : y = e b) : Im e (keepT b) (some y) := by
  intro r hr
  cases b with
  | true => cases hr; rw [h]
  | false => cases hr
theorem Im.vopc {α β : Type} {e : α → β} {x : Option α} {C : Cx} {ops : List Oper} {dr : Option (List Nat)} {o : Oper} {env env2 : Env} {K : Env → Option β} (h : ∀ K' : Env → Option β, vop C ops dr o env K' = K' env2) (k : Im e x (K env2)) : Im e x (vop C ops dr o env K) := by rw [h]; exact k
def nlw (e : Nat) (b : Bool) (l : List ByteArray) : VV := match b, l with
  | true, [] => .nl
  | _, l => .ow e 1 (l.map VV.str)
theorem nlw_f (e : Nat) (l : List ByteArray) : nlw e false l = .ow e 1 (l.map VV.str) := rfl
theorem nlw_t (e : Nat) (a : ByteArray) (l : List ByteArray) : nlw e true (a :: l) = .ow e 1 ((a :: l).map VV.str) := rfl
theorem nlw_n (e : Nat) : nlw e true [] = .nl := rfl
theorem zr {P : Prop} (h : P := by first | (first | rfl | (simp only [List.length_map, List.length_set, List.length_replicate, List.map_append, List.map_set, List.map_cons, List.map_nil, List.map_replicate, List.map_take, List.map_drop, wr_i64, wr_u8, bt_bt, rd_rdOf, u8_bits, fdiv_16, fdiv_16b, bits_and, bits_and8, ba_toList, bne, Int.zero_sub, nlw_f, nlw_t, nlw_n, List.cons_append]; first | done | rfl)) | fail) : P := h
theorem zq {P : Prop} (h : P := by first | assumption | exact bq_ne (by assumption) | exact bq_ne2 (by assumption) | exact decide_eq_true (by assumption) | exact decide_eq_false (by assumption) | ((try clear ih1); (try clear ih2); (try clear ih3); simp only [*, decide_true, decide_false, Bool.beq_true, Bool.beq_false, Bool.not_true, Bool.not_false, beq_self_eq_true, Bool.true_and, Bool.and_true, Bool.eq_false_iff, ne_eq, not_false_eq_true, not_true_eq_false, Bool.not_eq_true', Bool.not_eq_eq_eq_not, Bool.not_true, Bool.not_false, Bool.and_false, Bool.false_and]; done) | fail) : P := h
theorem zd {P : Prop} (h : P := by first | ((try clear ih1); (try clear ih2); (try clear ih3); (simp only [Option.getD_some, Option.getD_none, wr_i64]); (refine bnd_ok ?_ ?_ ?_ <;> (first | assumption | omega))) | (((try clear ih1); (try clear ih2); (try clear ih3); first | assumption | exact decide_eq_true (by assumption) | exact decide_eq_false (by assumption) | (simp [*, wr_i64, wr_u8, bt_bt, rd_rdOf, u8_bits, fdiv_16, fdiv_16b, bits_and, bits_and8, ba_size, ba_toList, bndOk, VV.cells, Nat.beq_eq]; done) | (simp [*, wr_i64, wr_u8, bt_bt, rd_rdOf, u8_bits, fdiv_16, fdiv_16b, bits_and, bits_and8, ba_size, ba_toList, bndOk, VV.cells, Nat.beq_eq]; omega) | ((try simp only [← List.map_take, ← List.map_drop]); refine and_t ?_ (all_cells (fun _ => rfl)); first | (simp [*, bndOk]; done) | (simp [*, bndOk]; omega) | (simp only [List.length_append, List.length_map, List.length_cons, List.length_nil, List.length_take, List.length_drop, Option.getD_none, Option.getD_some, decide_eq_true_eq] at *; omega)) | omega | (simp_all [wr_i64, wr_u8, bt_bt, rd_rdOf, u8_bits, fdiv_16, fdiv_16b, bits_and, bits_and8, ba_size, ba_toList, bndOk, VV.cells, Nat.beq_eq]; done) | (simp [wr_i64, wr_u8, bt_bt, rd_rdOf, u8_bits, fdiv_16, fdiv_16b, bits_and, bits_and8, ba_size, ba_toList, bndOk, VV.cells, Nat.beq_eq] at *; omega))) | fail) : P := h
theorem zx {P : Prop} (h : P := by first | ((exfalso; (try clear ih1); (try clear ih2); (try clear ih3); simp_all; done)) | fail) : P := h
theorem zo {P : Prop} (h : P := by first | (first | omega | (dsimp only; omega)) | fail) : P := h
def argD : VV → Bool
  | .s _ => true
  | .sl _ => true
  | .ag _ => true
  | _ => false
def ResOf (pd : Nat → Nat → Prop) (w : World) (r : VV) (m : Value) (w' : World) : Prop := ∃ pd' : Nat → Nat → Prop, (∀ g k, g < w.heap.size → pd' g k → pd g k) ∧ ResR w.heap.size pd' w' r m
section
variable {P : Program} {NG : Nat} {GW : World → Prop} {f : FuncId}
theorem giv_ok {vs : List VV} {r : VV} (hf : FnOk P f) (hv : vs.all argD = true) (h : ∀ (w : World) (ms : List Value) (pd : Nat → Nat → Prop), GW w → DRs pd w vs ms → Calls P f ms.toArray w fun e w' => ∃ m, e = .returned m ∧ Below w.heap.size w w' ∧ ResOf pd w r m w') : CallOk1 P NG GW f vs (r, []) := by
  refine ⟨hf, fun w ms H hgw hng hl ha hnd _ _ _ => ?_⟩
  have hd : ∀ v ∈ vs, argD v = true := fun v hx => List.all_eq_true.1 hv v hx
  have hnb : ∀ x ∈ vs, ∀ cs, x ≠ .bx cs := fun x hx cs e => by have := hd x hx; rw [e] at this; cases this
  have key : ∀ (vs : List VV) (ms : List Value), (∀ v ∈ vs, argD v = true) → vs.length = ms.length → (∀ (i : Nat) v m, vs[i]? = some v → ms[i]? = some m → ArgR H w v m) → DRs H.pd w vs ms := by
    intro vs
    induction vs with
    | nil => intro ms _ hl _; cases ms with
      | nil => exact .nil
      | cons _ _ => cases hl
    | cons v vs ih => intro ms hd hl ha; cases ms with
      | nil => cases hl
      | cons m ms =>
        refine .cons _ _ _ _ ?_ (ih ms (fun x hx => hd x (by simp [hx])) (by simpa using hl) fun i v m h1 h2 => ha (i + 1) v m (by simpa using h1) (by simpa using h2))
        have h1 := ha 0 v m rfl rfl
        have h2 := hd v (by simp)
        cases v <;> first | (cases h2; done) | exact h1
  rw [ioB_none vs ms hnb]
  refine (h w ms H.pd hgw (key vs ms hd hl ha)).mono fun e w' he => ?_
  obtain ⟨m, rfl, hb, pd', h1, h2⟩ := he
  exact ⟨m, rfl, ⟨hb.os, hb.tape, hb.output, hb.size, fun k hk _ => hb.block k hk⟩, pd', h1, h2, rfl, fun j g v hj => by simp at hj⟩
theorem drs_cons {pd : Nat → Nat → Prop} {w : World} {v : VV} {vs : List VV} {ms : List Value} (h : DRs pd w (v :: vs) ms) : ∃ m ms', ms = m :: ms' ∧ DR pd w v m ∧ DRs pd w vs ms' := by
  cases h with
  | cons _ m _ ms h1 h2 => exact ⟨m, ms, rfl, h1, h2⟩
theorem drs_nil {pd : Nat → Nat → Prop} {w : World} {ms : List Value} (h : DRs pd w [] ms) : ms = [] := by cases h; rfl
theorem dr_s {pd : Nat → Nat → Prop} {w : World} {v m : Value} (h : DR pd w (.s v) m) : m = v := by cases h; rfl
theorem resOf_s {pd : Nat → Nat → Prop} {w w' : World} (v : Value) : ResOf pd w (.s v) v w' := ⟨pd, fun _ _ _ h => h, .s v⟩
theorem resOf_tu {pd : Nat → Nat → Prop} {w w' : World} (ls : List Value) : ResOf pd w (.tu (ls.map VV.s)) (.tuple ls.toArray) w' :=
  ⟨pd, fun _ _ _ h => h, .tu _ _ (by
    induction ls with
    | nil => exact .nil
    | cons a ls ih => exact .cons _ _ _ _ (.s a) ih)⟩
theorem drs_sR : ∀ {pd : Nat → Nat → Prop} {w : World} (ls : List Value), DRs pd w (ls.map VV.s) ls
  | _, _, [] => .nil
  | _, _, a :: ls => .cons _ _ _ _ (.s a) (drs_sR ls)
theorem resOf_ow {pd : Nat → Nat → Prop} {w w' : World} {α : Type} {mk : α → Value} (h1 : ∀ x, (mk x).oneCell' = true) {e : Nat} {xs : List α} {m : Value} (hl : xs.length ≤ maxLen) (ho : w'.ownsRow w.heap.size e 1 m xs.length (xs.map mk)) : ResOf pd w (.ow e 1 (xs.map fun x => .s (mk x))) m w' := by
  refine ⟨fun g k => (g < w.heap.size ∧ pd g k) ∨ (m.ownBlock = some g ∧ k < xs.length * 1), fun g k hg h => ?_, xs.map mk, by rw [List.length_map]; exact ho, ?_, ?_, ?_, by rw [List.length_map]; exact hl, ?_⟩
  · rcases h with h | ⟨h, _⟩
    · exact h.2
    · have := own_base ho g h; omega
  · have := drs_sR (pd := fun g k => (g < w.heap.size ∧ pd g k) ∨ (m.ownBlock = some g ∧ k < xs.length * 1)) (w := w') (xs.map mk)
    rw [List.map_map] at this
    have e : (List.map (fun x => VV.s (mk x)) xs).flatMap VV.cells = xs.map (VV.s ∘ mk) := by
      rw [List.flatMap_map]
      clear this ho hl
      induction xs with
      | nil => rfl
      | cons x xs ih => rw [List.flatMap_cons, ih]; rfl
    rw [e]; exact this
  · intro x hx
    obtain ⟨y, _, rfl⟩ := List.mem_map.1 hx
    rfl
  · intro u hu
    obtain ⟨y, _, rfl⟩ := List.mem_map.1 hu
    exact h1 y
  · intro g hg k
    have := own_base ho g hg
    rw [List.length_map]
    constructor
    · rintro (⟨h, _⟩ | ⟨_, h⟩)
      · omega
      · exact h
    · intro h; exact .inr ⟨hg, h⟩
theorem drs_flat {pd : Nat → Nat → Prop} {w : World} : ∀ {vs : List VV} {ms : List Value}, DRs anyP w vs ms → (∀ x ∈ vs, ∃ u, x = .s u) → DRs pd w vs ms
  | _, _, .nil, _ => .nil
  | _, _, .cons v m vs ms h hs, hf => by
    obtain ⟨u, rfl⟩ := hf v (by simp)
    obtain rfl := dr_s h
    exact .cons _ _ _ _ (.s m) (drs_flat hs fun x hx => hf x (by simp [hx]))
theorem dr_new {w w' : World} {α : Type} {d : Kd α} {enc : α → VV} {e : Nat} {ok : Nat → Prop} {v : Value} {xs : List α} (hk : KV d (fun x => (enc x).cells)) (h : d.R e w' w.heap.size ok v xs) (hf : ∀ y ∈ xs, ∀ x ∈ (enc y).cells, ∃ u, x = .s u) : DR (fun g _ => w.heap.size ≤ g) w' (.sl (xs.map enc)) v := by
  obtain ⟨A, c, rfl, hc, hr⟩ := Kd.R_reads h
  have h1 := dr_row hk hc hr
  have h2 : ∀ g off, A = some ⟨g, off, none⟩ → 0 < xs.length → w.heap.size ≤ g := fun g off hA hp => by
    obtain ⟨g', cap, he, hb, _⟩ := Kd.R_form h hp
    cases he
    cases hA
    exact hb
  generalize hm : Value.slice A xs.length c = m at h1
  generalize hv : VV.sl (xs.map enc) = q at h1
  cases h1 with
  | s _ => cases hv
  | un _ => cases hv
  | ag _ _ _ _ => cases hv
  | tu _ _ _ => cases hv
  | sl0 A' c' => exact .sl0 A' c'
  | sl ys g off c' sz ms q1 q2 q3 q4 q5 q6 =>
    cases hv
    have hA : A = some ⟨g, off, none⟩ := (Value.slice.inj hm).1
    refine .sl _ g off c' sz ms q1 q2 q3 (drs_flat q4 fun x hx => ?_) q5 fun k m hk => ⟨(q6 k m hk).1, h2 g off hA ?_⟩
    · obtain ⟨y, hy, hx⟩ := List.mem_flatMap.1 hx
      obtain ⟨z, hz, rfl⟩ := List.mem_map.1 hy
      exact hf z hz x hx
    · have := q4.length
      have hlt := (List.getElem?_eq_some_iff.1 hk).1
      cases xs with
      | nil => simp at this; omega
      | cons _ _ => simp
theorem resOf_tus {pd : Nat → Nat → Prop} {w w' : World} {cs : List VV} {ms : List Value} (h : DRs (fun g _ => w.heap.size ≤ g) w' cs ms) : ResOf pd w (.tu cs) (.tuple ms.toArray) w' :=
  ⟨fun g _ => w.heap.size ≤ g, fun g k hg h => absurd h (by omega), .tu cs ms h⟩
end
end Go.Proofs.YtoidompkofomjaaGreatDoor.VI

end
section
namespace Go.Proofs.YtoidompkofomjaaGreatDoor.VI
open Go
def tis : List (TypeId × TI) := [(3, ⟨1, 8, [.int .i64 0], .int .i64⟩),
 (4, ⟨1, 1, [.bool false], .bool⟩),
 (5, ⟨1, 1, [.int .u8 0], .int .u8⟩),
 (9, ⟨1, 16, [.string ⟨#[]⟩], .str⟩),
 (22, ⟨1, 24, [.slice none 0 0], .slice 5⟩),
 (24, ⟨1, 24, [.slice none 0 0], .slice 9⟩),
 (25, ⟨1, 24, [.slice none 0 0], .slice 45⟩),
 (34, ⟨4, 48, [.int .i64 0, .int .i64 0, .int .i64 0, .slice none 0 0], .agg [(0, 1), (1, 1), (2, 1), (3, 1)]⟩),
 (38, ⟨1, 8, [.pointer none], .ptr⟩),
 (45, ⟨2, 32, [.string ⟨#[]⟩, .string ⟨#[]⟩], .agg [(0, 1), (1, 1)]⟩),
 (53, ⟨1, 24, [.slice none 0 0], .slice 3⟩),
 (55, ⟨3, 40, [.slice none 0 0, .int .i64 0, .int .i64 0], .agg [(0, 1), (1, 1), (2, 1)]⟩)]
def ti (t : TypeId) : Option TI := look tis t
theorem hti : TIok Tryz.prog ti := TIok.of (l := tis) (by kernel_rfl) (by kernel_rfl)
end Go.Proofs.YtoidompkofomjaaGreatDoor.VI

end
section
namespace Go.Proofs.YtoidompkofomjaaGreatDoor.VI
open Go Go.RowKit Go.Proofs.YtoidompkofomjaaGreatDoor.G Go.Proofs.YtoidompkofomjaaGreatDoorW.PrintWords
def e45 (x : S45) : VV := .ag [.str x.f0, .str x.f1]
@[simp] theorem rd_T45_eq (xs : List S45) (i : Int) : rd_T45 xs i = rdOf z45 xs i := rfl
def keep : FuncId → Nat → Option (List Nat) := fun f b => match f, b with
  | 3, 0 => some [3, 4, 5, 6, 7, 8, 9, 11]
  | 3, 2 => some [6, 7, 8, 14]
  | 6, 0 => some [1, 5, 6]
  | 8, 0 => some [1, 6, 7, 8, 15, 16, 17]
  | 9, 0 => some [1, 5, 6, 7]
  | 10, 0 => some [0, 1, 5]
  | 11, 0 => some [1, 5, 6, 7, 8]
  | 11, 2 => some [1, 5, 7, 9, 10]
  | 12, 0 => some [0, 5, 23, 24, 25]
  | 13, 0 => some [0, 1, 5]
  | 15, 0 => some [2, 3, 24, 25, 26]
  | 15, 2 => some [2, 3, 56, 57]
  | 19, 0 => some [3, 7, 8, 9]
  | 20, 0 => some [0, 3, 4]
  | 20, 2 => some [0, 3, 4, 5, 7]
  | 21, 0 => some [1, 5, 6, 7]
  | 22, 0 => some [0, 5, 6, 7]
  | 33, 0 => some [4, 5, 6]
  | 41, 0 => some [2, 3, 5, 6]
  | 41, 2 => some [2, 3, 7]
  | 42, 0 => some [0, 3]
  | 49, 0 => some [1, 13, 14, 15]
  | 49, 2 => some [1, 24, 25, 26]
  | 55, 0 => some [1, 3, 4]
  | 57, 0 => some [0, 3, 4, 5]
  | 61, 0 => some [0, 1, 5]
  | 62, 0 => some [0, 1, 5, 6, 7]
  | 63, 0 => some [0, 3, 4]
  | 75, 0 => some [0, 1, 7, 8]
  | 87, 0 => some [1, 3]
  | 88, 0 => some [0, 3, 4]
  | 92, 0 => some [2, 4, 5, 6]
  | 125, 0 => some [0, 3]
  | 145, 0 => some [0, 3]
  | _, _ => none
def unS : List VV → Option (List ByteArray)
  | [] => some []
  | .s (.string b) :: r => obind (unS r) fun l => some (b :: l)
  | _ => none
theorem unS_map : ∀ l : List ByteArray, unS (l.map VV.str) = some l
  | [] => rfl
  | b :: r => by
    show obind (unS (r.map VV.str)) _ = _
    rw [unS_map r]
    rfl
noncomputable def spec_DrawPick.gv : List VV → Option (VV × List VV)
  | [.sl q0] => obind (byL q0) fun l0 => (limF (fun k => spec_DrawPick.f k l0)).map fun r => (.tu [.sl (r.1.map VV.str), .sl (r.2.map e45)], [])
  | _ => none
noncomputable def spec_DrawHoles.gv : List VV → Option (VV × List VV)
  | [.sl q0] => obind (byL q0) fun l0 => (limF (fun k => spec_DrawHoles.f k l0)).map fun r => (.tu [.sl (r.1.map VV.str), .sl (r.2.map e45)], [])
  | _ => none
noncomputable def impl_SortVersions.gv : List VV → Option (VV × List VV)
  | [.sl q0] => obind (unS q0) fun l0 => (impl_SortVersions.f l0).map fun r => (.ow 9 1 (r.map VV.str), [])
  | _ => none
noncomputable def strings_Cut.gv : List VV → Option (VV × List VV)
  | [.s (.string a0), .s (.string a1)] => (strings_Cut.f a0 a1).map fun r => (.tu [.str r.1, .str r.2.1, .bool r.2.2], [])
  | _ => none
noncomputable def strings_Split.gv : List VV → Option (VV × List VV)
  | [.s (.string a0), .s (.string a1)] => (strings_Split.f a0 a1).map fun r => (.ow 9 1 (r.map VV.str), [])
  | _ => none
noncomputable def impl_ReadDec.gv : List VV → Option (VV × List VV)
  | [.s (.string a0)] => (impl_ReadDec.f a0).map fun r => (.int r, [])
  | _ => none
noncomputable def strings_Join.gv : List VV → Option (VV × List VV)
  | [.sl q0, .s (.string a1)] => obind (unS q0) fun l0 => (strings_Join.f l0 a1).map fun r => (.str r, [])
  | _ => none
noncomputable def strings_TrimLeft.gv : List VV → Option (VV × List VV)
  | [.s (.string a0), .s (.string a1)] => (strings_TrimLeft.f a0 a1).map fun r => (.str r, [])
  | _ => none
noncomputable def strings_Compare.gv : List VV → Option (VV × List VV)
  | [.s (.string a0), .s (.string a1)] => (strings_Compare.f a0 a1).map fun r => (.int r, [])
  | _ => none
noncomputable def strconv_Itoa.gv : List VV → Option (VV × List VV)
  | [.s (.int .i64 a0)] => (strconv_Itoa.f a0).map fun r => (.str r, [])
  | _ => none
noncomputable def Gv0 : FuncId → Option (List VV → Option (VV × List VV)) := fun f => match f with
  | 24 => some strings_Cut.gv
  | 25 => some strings_Split.gv
  | 26 => some impl_ReadDec.gv
  | 50 => some strings_Join.gv
  | 52 => some strings_TrimLeft.gv
  | 53 => some strings_Compare.gv
  | 74 => some strconv_Itoa.gv
  | _ => none
def Base (G : FuncId → Option (List VV → Option (VV × List VV))) : Prop := ∀ f, f ≠ 5 → f ≠ 7 → f ≠ 19 → G f = Gv0 f
theorem base0 : Base Gv0 := fun _ _ _ _ => rfl
noncomputable def Gv : FuncId → Option (List VV → Option (VV × List VV)) := fun f => match f with
  | 5 => some spec_DrawPick.gv
  | 7 => some spec_DrawHoles.gv
  | 19 => some impl_SortVersions.gv
  | f => Gv0 f
theorem base1 : Base Gv := fun f h5 h7 h19 => by
  unfold Gv
  split
  · exact absurd rfl h5
  · exact absurd rfl h7
  · exact absurd rfl h19
  · rfl
noncomputable abbrev cv := callv Tryz.prog ti keep Gv
end Go.Proofs.YtoidompkofomjaaGreatDoor.VI

end
section
namespace Go.Proofs.YtoidompkofomjaaGreatDoor.VI
open Go Go.RowKit Go.Proofs.YtoidompkofomjaaGreatDoor.G Go.Proofs.YtoidompkofomjaaGreatDoorW.PrintWords
set_option maxRecDepth 100000
set_option maxHeartbeats 16000000
attribute [local irreducible] bite obind vget
theorem spec_DecText.vi {k m : Nat} {Gv : FuncId → Option (List VV → Option (VV × List VV))} (hG : Base Gv) (hm : k + 1 ≤ m) (a0 : Int) : Im (fun r => (.str r, [])) (spec_DecText.f k a0) (callv Tryz.prog ti keep Gv m 88 [.int a0]) := by
  obtain ⟨m, rfl⟩ : ∃ m', m = m' + 1 := ⟨m - 1, by omega⟩
  rw [show callv Tryz.prog ti keep Gv (m + 1) 88 _ = _ from callv_enter ((hG 88 (by decide) (by decide) (by decide)).trans rfl) Tryz.func88 (by kernel_rfl) rfl rfl]
  unfold spec_DecText.f
  repeat' first
    | (with_reducible first | exact Im.none | refine Im.ite (fun h => ?_) (fun h => ?_) | refine Im.sbind ?_)
    | ((conv => arg 3; whnf); first
      | ((with_reducible refine Im.fin ?_); exact zr) | ((with_reducible refine Im.anyo ?_ ?_); (next => kernel_rfl)) | ((with_reducible refine Im.bite_t ?_ ?_); (next => exact zq)) | ((with_reducible refine Im.bite_f ?_ ?_); (next => exact zq)) | ((with_reducible refine Im.bite_t ?_ ?_); (next => exact zd)) | ((with_reducible refine Im.must ?_ ?_); (next => exact zd)) | ((with_reducible refine Im.bite_f ?_ ?_); (next => exact zd)) | (with_reducible refine Im.byl ?_) | ((with_reducible refine Im.vget ByteArray.empty ?_ ?_ ?_); (next => exact zd); (next => exact zd)) | ((with_reducible refine Im.vget z45 ?_ ?_ ?_); (next => exact zd); (next => exact zd)) | ((with_reducible refine Im.vget (0 : Int) ?_ ?_ ?_); (next => exact zd); (next => exact zd)) | ((with_reducible refine Im.vget false ?_ ?_ ?_); (next => exact zd); (next => exact zd))
      | ((with_reducible refine Im.loop (S := fun s : Int × ByteArray × Int => [.int s.1, .un, .un, .str s.2.1, .int s.2.2, .un, .un, .un, .un, .un, .un, .un, .un, .un, .un, .un, .un, .un, .un, .un, .un, .un, .un, .un, .un, .un, .un, .un, .un, .un]) (L := fun k s => spec_DecText.l0 k s.1 s.2.1 s.2.2) _ ?_ ?_ _ _ ⟨_, _, _⟩ _ (Nat.le_refl _) zo ?_)
         (next => intro s; rfl)
         (next =>
           intro k1 M1 ⟨x0, x3, x4⟩ hk1 hM1 ih1
           conv => arg 2; simp only [spec_DecText.l0]
           repeat' first
             | (with_reducible first | exact Im.none | refine Im.ite (fun h => ?_) (fun h => ?_) | refine Im.sbind ?_)
             | ((conv => arg 3; whnf); first
               | ((with_reducible refine Im.fin ?_); exact zr) | ((with_reducible refine Im.anyo ?_ ?_); (next => kernel_rfl)) | ((with_reducible refine Im.bite_t ?_ ?_); (next => exact zq)) | ((with_reducible refine Im.bite_f ?_ ?_); (next => exact zq)) | ((with_reducible refine Im.bite_t ?_ ?_); (next => exact zd)) | ((with_reducible refine Im.must ?_ ?_); (next => exact zd)) | ((with_reducible refine Im.bite_f ?_ ?_); (next => exact zd)) | (with_reducible refine Im.byl ?_) | ((with_reducible refine Im.vget ByteArray.empty ?_ ?_ ?_); (next => exact zd); (next => exact zd)) | ((with_reducible refine Im.vget z45 ?_ ?_ ?_); (next => exact zd); (next => exact zd)) | ((with_reducible refine Im.vget (0 : Int) ?_ ?_ ?_); (next => exact zd); (next => exact zd)) | ((with_reducible refine Im.vget false ?_ ?_ ?_); (next => exact zd); (next => exact zd)) | ((with_reducible refine ih1 _ ⟨_, _, _⟩ _ ?_ ?_); (next => exact zo); exact zr)
               | exact zm | exact zx | fail)
           all_goals skip)
         exact zr)
      | exact zm | exact zx | fail)
  all_goals skip
theorem spec_l01In.vi {m : Nat} {Gv : FuncId → Option (List VV → Option (VV × List VV))} (hG : Base Gv) (hm : 1 ≤ m) (a0 : Int) (a1 : Int) (a2 : Int) : Im (fun r => (.bool r, [])) (spec_l01In.f a0 a1 a2) (callv Tryz.prog ti keep Gv m 67 [.int a0, .int a1, .int a2]) := by
  obtain ⟨m, rfl⟩ : ∃ m', m = m' + 1 := ⟨m - 1, by omega⟩
  rw [show callv Tryz.prog ti keep Gv (m + 1) 67 _ = _ from callv_enter ((hG 67 (by decide) (by decide) (by decide)).trans rfl) Tryz.func67 (by kernel_rfl) rfl rfl]
  unfold spec_l01In.f
  repeat' first
    | (with_reducible first | exact Im.none | refine Im.ite (fun h => ?_) (fun h => ?_) | refine Im.sbind ?_)
    | ((conv => arg 3; whnf); first
      | ((with_reducible refine Im.fin ?_); exact zr) | ((with_reducible refine Im.anyo ?_ ?_); (next => kernel_rfl)) | ((with_reducible refine Im.bite_t ?_ ?_); (next => exact zq)) | ((with_reducible refine Im.bite_f ?_ ?_); (next => exact zq)) | ((with_reducible refine Im.bite_t ?_ ?_); (next => exact zd)) | ((with_reducible refine Im.must ?_ ?_); (next => exact zd)) | ((with_reducible refine Im.bite_f ?_ ?_); (next => exact zd)) | (with_reducible refine Im.byl ?_) | ((with_reducible refine Im.vget ByteArray.empty ?_ ?_ ?_); (next => exact zd); (next => exact zd)) | ((with_reducible refine Im.vget z45 ?_ ?_ ?_); (next => exact zd); (next => exact zd)) | ((with_reducible refine Im.vget (0 : Int) ?_ ?_ ?_); (next => exact zd); (next => exact zd)) | ((with_reducible refine Im.vget false ?_ ?_ ?_); (next => exact zd); (next => exact zd))
      | exact zm | exact zx | fail)
  all_goals skip
theorem spec_ReadDec.vi {k m : Nat} {Gv : FuncId → Option (List VV → Option (VV × List VV))} (hG : Base Gv) (hm : k + 2 ≤ m) (a0 : ByteArray) : Im (fun r => (.int r, [])) (spec_ReadDec.f k a0) (callv Tryz.prog ti keep Gv m 63 [.str a0]) := by
  obtain ⟨m, rfl⟩ : ∃ m', m = m' + 1 := ⟨m - 1, by omega⟩
  rw [show callv Tryz.prog ti keep Gv (m + 1) 63 _ = _ from callv_enter ((hG 63 (by decide) (by decide) (by decide)).trans rfl) Tryz.func63 (by kernel_rfl) rfl rfl]
  unfold spec_ReadDec.f
  repeat' first
    | (with_reducible first | exact Im.none | refine Im.ite (fun h => ?_) (fun h => ?_) | refine Im.sbind ?_)
    | ((conv => arg 3; whnf); first
      | ((with_reducible refine Im.fin ?_); exact zr) | ((with_reducible refine Im.anyo ?_ ?_); (next => kernel_rfl)) | ((with_reducible refine Im.bite_t ?_ ?_); (next => exact zq)) | ((with_reducible refine Im.bite_f ?_ ?_); (next => exact zq)) | ((with_reducible refine Im.bite_t ?_ ?_); (next => exact zd)) | ((with_reducible refine Im.must ?_ ?_); (next => exact zd)) | ((with_reducible refine Im.bite_f ?_ ?_); (next => exact zd)) | (with_reducible refine Im.byl ?_) | ((with_reducible refine Im.vget ByteArray.empty ?_ ?_ ?_); (next => exact zd); (next => exact zd)) | ((with_reducible refine Im.vget z45 ?_ ?_ ?_); (next => exact zd); (next => exact zd)) | ((with_reducible refine Im.vget (0 : Int) ?_ ?_ ?_); (next => exact zd); (next => exact zd)) | ((with_reducible refine Im.vget false ?_ ?_ ?_); (next => exact zd); (next => exact zd)) | ((with_reducible refine Im.call (spec_DecText.vi hG ?_ _) ?_ (fun r hr => ?_)); (next => omega); (next => exact zr)) | ((with_reducible refine Im.call (spec_l01In.vi hG ?_ _ _ _) ?_ (fun r hr => ?_)); (next => omega); (next => exact zr))
      | ((with_reducible refine Im.loop (S := fun s : ByteArray × Int × Int => [.str s.1, .un, .un, .int s.2.1, .int s.2.2, .un, .un, .un, .un, .un, .un, .un, .un, .un, .un, .un, .un, .un, .un, .un, .un, .un, .un, .un, .un, .un, .un, .un, .un, .un, .un, .un, .un, .un, .un, .un, .un, .un, .un]) (L := fun k s => spec_ReadDec.l0 k s.1 s.2.1 s.2.2) _ ?_ ?_ _ _ ⟨_, _, _⟩ _ (Nat.le_refl _) zo ?_)
         (next => intro s; rfl)
         (next =>
           intro k1 M1 ⟨x0, x3, x4⟩ hk1 hM1 ih1
           conv => arg 2; simp only [spec_ReadDec.l0]
           repeat' first
             | (with_reducible first | exact Im.none | refine Im.ite (fun h => ?_) (fun h => ?_) | refine Im.sbind ?_)
             | ((conv => arg 3; whnf); first
               | ((with_reducible refine Im.fin ?_); exact zr) | ((with_reducible refine Im.anyo ?_ ?_); (next => kernel_rfl)) | ((with_reducible refine Im.bite_t ?_ ?_); (next => exact zq)) | ((with_reducible refine Im.bite_f ?_ ?_); (next => exact zq)) | ((with_reducible refine Im.bite_t ?_ ?_); (next => exact zd)) | ((with_reducible refine Im.must ?_ ?_); (next => exact zd)) | ((with_reducible refine Im.bite_f ?_ ?_); (next => exact zd)) | (with_reducible refine Im.byl ?_) | ((with_reducible refine Im.vget ByteArray.empty ?_ ?_ ?_); (next => exact zd); (next => exact zd)) | ((with_reducible refine Im.vget z45 ?_ ?_ ?_); (next => exact zd); (next => exact zd)) | ((with_reducible refine Im.vget (0 : Int) ?_ ?_ ?_); (next => exact zd); (next => exact zd)) | ((with_reducible refine Im.vget false ?_ ?_ ?_); (next => exact zd); (next => exact zd)) | ((with_reducible refine Im.call (spec_DecText.vi hG ?_ _) ?_ (fun r hr => ?_)); (next => omega); (next => exact zr)) | ((with_reducible refine Im.call (spec_l01In.vi hG ?_ _ _ _) ?_ (fun r hr => ?_)); (next => omega); (next => exact zr)) | ((with_reducible refine ih1 _ ⟨_, _, _⟩ _ ?_ ?_); (next => exact zo); exact zr)
               | exact zm | exact zx | fail)
           all_goals skip)
         exact zr)
      | exact zm | exact zx | fail)
  all_goals skip
theorem spec_l01Great.vi {m : Nat} {Gv : FuncId → Option (List VV → Option (VV × List VV))} (hG : Base Gv) (hm : 2 ≤ m) (a0 : Int) : Im (fun r => (.bool r, [])) (spec_l01Great.f a0) (callv Tryz.prog ti keep Gv m 144 [.byte a0]) := by
  obtain ⟨m, rfl⟩ : ∃ m', m = m' + 1 := ⟨m - 1, by omega⟩
  rw [show callv Tryz.prog ti keep Gv (m + 1) 144 _ = _ from callv_enter ((hG 144 (by decide) (by decide) (by decide)).trans rfl) Tryz.func144 (by kernel_rfl) rfl rfl]
  unfold spec_l01Great.f
  repeat' first
    | (with_reducible first | exact Im.none | refine Im.ite (fun h => ?_) (fun h => ?_) | refine Im.sbind ?_)
    | ((conv => arg 3; whnf); first
      | ((with_reducible refine Im.fin ?_); exact zr) | ((with_reducible refine Im.anyo ?_ ?_); (next => kernel_rfl)) | ((with_reducible refine Im.bite_t ?_ ?_); (next => exact zq)) | ((with_reducible refine Im.bite_f ?_ ?_); (next => exact zq)) | ((with_reducible refine Im.bite_t ?_ ?_); (next => exact zd)) | ((with_reducible refine Im.must ?_ ?_); (next => exact zd)) | ((with_reducible refine Im.bite_f ?_ ?_); (next => exact zd)) | (with_reducible refine Im.byl ?_) | ((with_reducible refine Im.vget ByteArray.empty ?_ ?_ ?_); (next => exact zd); (next => exact zd)) | ((with_reducible refine Im.vget z45 ?_ ?_ ?_); (next => exact zd); (next => exact zd)) | ((with_reducible refine Im.vget (0 : Int) ?_ ?_ ?_); (next => exact zd); (next => exact zd)) | ((with_reducible refine Im.vget false ?_ ?_ ?_); (next => exact zd); (next => exact zd)) | ((with_reducible refine Im.call (spec_l01In.vi hG ?_ _ _ _) ?_ (fun r hr => ?_)); (next => omega); (next => exact zr))
      | exact zm | exact zx | fail)
  all_goals skip
theorem spec_l01Letter.vi {m : Nat} {Gv : FuncId → Option (List VV → Option (VV × List VV))} (hG : Base Gv) (hm : 2 ≤ m) (a0 : Int) : Im (fun r => (.bool r, [])) (spec_l01Letter.f a0) (callv Tryz.prog ti keep Gv m 143 [.byte a0]) := by
  obtain ⟨m, rfl⟩ : ∃ m', m = m' + 1 := ⟨m - 1, by omega⟩
  rw [show callv Tryz.prog ti keep Gv (m + 1) 143 _ = _ from callv_enter ((hG 143 (by decide) (by decide) (by decide)).trans rfl) Tryz.func143 (by kernel_rfl) rfl rfl]
  unfold spec_l01Letter.f
  repeat' first
    | (with_reducible first | exact Im.none | refine Im.ite (fun h => ?_) (fun h => ?_) | refine Im.sbind ?_)
    | ((conv => arg 3; whnf); first
      | ((with_reducible refine Im.fin ?_); exact zr) | ((with_reducible refine Im.anyo ?_ ?_); (next => kernel_rfl)) | ((with_reducible refine Im.bite_t ?_ ?_); (next => exact zq)) | ((with_reducible refine Im.bite_f ?_ ?_); (next => exact zq)) | ((with_reducible refine Im.bite_t ?_ ?_); (next => exact zd)) | ((with_reducible refine Im.must ?_ ?_); (next => exact zd)) | ((with_reducible refine Im.bite_f ?_ ?_); (next => exact zd)) | (with_reducible refine Im.byl ?_) | ((with_reducible refine Im.vget ByteArray.empty ?_ ?_ ?_); (next => exact zd); (next => exact zd)) | ((with_reducible refine Im.vget z45 ?_ ?_ ?_); (next => exact zd); (next => exact zd)) | ((with_reducible refine Im.vget (0 : Int) ?_ ?_ ?_); (next => exact zd); (next => exact zd)) | ((with_reducible refine Im.vget false ?_ ?_ ?_); (next => exact zd); (next => exact zd)) | ((with_reducible refine Im.call (spec_l01In.vi hG ?_ _ _ _) ?_ (fun r hr => ?_)); (next => omega); (next => exact zr))
      | exact zm | exact zx | fail)
  all_goals skip
theorem spec_l02Digits.vi {k m : Nat} {Gv : FuncId → Option (List VV → Option (VV × List VV))} (hG : Base Gv) (hm : k + 2 ≤ m) (a0 : ByteArray) : Im (fun r => (.bool r, [])) (spec_l02Digits.f k a0) (callv Tryz.prog ti keep Gv m 145 [.str a0]) := by
  obtain ⟨m, rfl⟩ : ∃ m', m = m' + 1 := ⟨m - 1, by omega⟩
  rw [show callv Tryz.prog ti keep Gv (m + 1) 145 _ = _ from callv_enter ((hG 145 (by decide) (by decide) (by decide)).trans rfl) Tryz.func145 (by kernel_rfl) rfl rfl]
  unfold spec_l02Digits.f
  repeat' first
    | (with_reducible first | exact Im.none | refine Im.ite (fun h => ?_) (fun h => ?_) | refine Im.sbind ?_)
    | ((conv => arg 3; whnf); first
      | ((with_reducible refine Im.fin ?_); exact zr) | ((with_reducible refine Im.anyo ?_ ?_); (next => kernel_rfl)) | ((with_reducible refine Im.bite_t ?_ ?_); (next => exact zq)) | ((with_reducible refine Im.bite_f ?_ ?_); (next => exact zq)) | ((with_reducible refine Im.bite_t ?_ ?_); (next => exact zd)) | ((with_reducible refine Im.must ?_ ?_); (next => exact zd)) | ((with_reducible refine Im.bite_f ?_ ?_); (next => exact zd)) | (with_reducible refine Im.byl ?_) | ((with_reducible refine Im.vget ByteArray.empty ?_ ?_ ?_); (next => exact zd); (next => exact zd)) | ((with_reducible refine Im.vget z45 ?_ ?_ ?_); (next => exact zd); (next => exact zd)) | ((with_reducible refine Im.vget (0 : Int) ?_ ?_ ?_); (next => exact zd); (next => exact zd)) | ((with_reducible refine Im.vget false ?_ ?_ ?_); (next => exact zd); (next => exact zd)) | ((with_reducible refine Im.call (spec_l01In.vi hG ?_ _ _ _) ?_ (fun r hr => ?_)); (next => omega); (next => exact zr))
      | ((with_reducible refine Im.loop (S := fun s : ByteArray × Int => [.str s.1, .un, .un, .int s.2, .un, .un, .un, .un, .un, .un, .un, .un, .un, .un, .un, .un, .un, .un]) (L := fun k s => spec_l02Digits.l0 k s.1 s.2) _ ?_ ?_ _ _ ⟨_, _⟩ _ (Nat.le_refl _) zo ?_)
         (next => intro s; rfl)
         (next =>
           intro k1 M1 ⟨x0, x3⟩ hk1 hM1 ih1
           conv => arg 2; simp only [spec_l02Digits.l0]
           repeat' first
             | (with_reducible first | exact Im.none | refine Im.ite (fun h => ?_) (fun h => ?_) | refine Im.sbind ?_)
             | ((conv => arg 3; whnf); first
               | ((with_reducible refine Im.fin ?_); exact zr) | ((with_reducible refine Im.anyo ?_ ?_); (next => kernel_rfl)) | ((with_reducible refine Im.bite_t ?_ ?_); (next => exact zq)) | ((with_reducible refine Im.bite_f ?_ ?_); (next => exact zq)) | ((with_reducible refine Im.bite_t ?_ ?_); (next => exact zd)) | ((with_reducible refine Im.must ?_ ?_); (next => exact zd)) | ((with_reducible refine Im.bite_f ?_ ?_); (next => exact zd)) | (with_reducible refine Im.byl ?_) | ((with_reducible refine Im.vget ByteArray.empty ?_ ?_ ?_); (next => exact zd); (next => exact zd)) | ((with_reducible refine Im.vget z45 ?_ ?_ ?_); (next => exact zd); (next => exact zd)) | ((with_reducible refine Im.vget (0 : Int) ?_ ?_ ?_); (next => exact zd); (next => exact zd)) | ((with_reducible refine Im.vget false ?_ ?_ ?_); (next => exact zd); (next => exact zd)) | ((with_reducible refine Im.call (spec_l01In.vi hG ?_ _ _ _) ?_ (fun r hr => ?_)); (next => omega); (next => exact zr)) | ((with_reducible refine ih1 _ ⟨_, _⟩ _ ?_ ?_); (next => exact zo); exact zr)
               | exact zm | exact zx | fail)
           all_goals skip)
         exact zr)
      | exact zm | exact zx | fail)
  all_goals skip
theorem spec_l02Pre.vi {k m : Nat} {Gv : FuncId → Option (List VV → Option (VV × List VV))} (hG : Base Gv) (hm : k + 3 ≤ m) (a0 : ByteArray) : Im (fun r => (.bool r, [])) (spec_l02Pre.f k a0) (callv Tryz.prog ti keep Gv m 125 [.str a0]) := by
  obtain ⟨m, rfl⟩ : ∃ m', m = m' + 1 := ⟨m - 1, by omega⟩
  rw [show callv Tryz.prog ti keep Gv (m + 1) 125 _ = _ from callv_enter ((hG 125 (by decide) (by decide) (by decide)).trans rfl) Tryz.func125 (by kernel_rfl) rfl rfl]
  unfold spec_l02Pre.f
  repeat' first
    | (with_reducible first | exact Im.none | refine Im.ite (fun h => ?_) (fun h => ?_) | refine Im.sbind ?_)
    | ((conv => arg 3; whnf); first
      | ((with_reducible refine Im.fin ?_); exact zr) | ((with_reducible refine Im.anyo ?_ ?_); (next => kernel_rfl)) | ((with_reducible refine Im.bite_t ?_ ?_); (next => exact zq)) | ((with_reducible refine Im.bite_f ?_ ?_); (next => exact zq)) | ((with_reducible refine Im.bite_t ?_ ?_); (next => exact zd)) | ((with_reducible refine Im.must ?_ ?_); (next => exact zd)) | ((with_reducible refine Im.bite_f ?_ ?_); (next => exact zd)) | (with_reducible refine Im.byl ?_) | ((with_reducible refine Im.vget ByteArray.empty ?_ ?_ ?_); (next => exact zd); (next => exact zd)) | ((with_reducible refine Im.vget z45 ?_ ?_ ?_); (next => exact zd); (next => exact zd)) | ((with_reducible refine Im.vget (0 : Int) ?_ ?_ ?_); (next => exact zd); (next => exact zd)) | ((with_reducible refine Im.vget false ?_ ?_ ?_); (next => exact zd); (next => exact zd)) | ((with_reducible refine Im.call (spec_ReadDec.vi hG ?_ _) ?_ (fun r hr => ?_)); (next => omega); (next => exact zr)) | ((with_reducible refine Im.call (spec_l01Great.vi hG ?_ _) ?_ (fun r hr => ?_)); (next => omega); (next => exact zr)) | ((with_reducible refine Im.call (spec_l01In.vi hG ?_ _ _ _) ?_ (fun r hr => ?_)); (next => omega); (next => exact zr)) | ((with_reducible refine Im.call (spec_l01Letter.vi hG ?_ _) ?_ (fun r hr => ?_)); (next => omega); (next => exact zr)) | ((with_reducible refine Im.call (spec_l02Digits.vi hG ?_ _) ?_ (fun r hr => ?_)); (next => omega); (next => exact zr))
      | ((with_reducible refine Im.loop (S := fun s : ByteArray × Int => [.str s.1, .un, .un, .int s.2, .un, .un, .un, .un, .un, .un, .un, .un, .un, .un, .un, .un, .un, .un, .un, .un, .un, .un, .un, .un, .un, .un, .un, .un, .un, .un, .un, .un, .un, .un, .un, .un, .un, .un, .un, .un, .un]) (L := fun k s => spec_l02Pre.l0 k s.1 s.2) _ ?_ ?_ _ _ ⟨_, _⟩ _ (Nat.le_refl _) zo ?_)
         (next => intro s; rfl)
         (next =>
           intro k1 M1 ⟨x0, x3⟩ hk1 hM1 ih1
           conv => arg 2; simp only [spec_l02Pre.l0]
           repeat' first
             | (with_reducible first | exact Im.none | refine Im.ite (fun h => ?_) (fun h => ?_) | refine Im.sbind ?_)
             | ((conv => arg 3; whnf); first
               | ((with_reducible refine Im.fin ?_); exact zr) | ((with_reducible refine Im.anyo ?_ ?_); (next => kernel_rfl)) | ((with_reducible refine Im.bite_t ?_ ?_); (next => exact zq)) | ((with_reducible refine Im.bite_f ?_ ?_); (next => exact zq)) | ((with_reducible refine Im.bite_t ?_ ?_); (next => exact zd)) | ((with_reducible refine Im.must ?_ ?_); (next => exact zd)) | ((with_reducible refine Im.bite_f ?_ ?_); (next => exact zd)) | (with_reducible refine Im.byl ?_) | ((with_reducible refine Im.vget ByteArray.empty ?_ ?_ ?_); (next => exact zd); (next => exact zd)) | ((with_reducible refine Im.vget z45 ?_ ?_ ?_); (next => exact zd); (next => exact zd)) | ((with_reducible refine Im.vget (0 : Int) ?_ ?_ ?_); (next => exact zd); (next => exact zd)) | ((with_reducible refine Im.vget false ?_ ?_ ?_); (next => exact zd); (next => exact zd)) | ((with_reducible refine Im.call (spec_ReadDec.vi hG ?_ _) ?_ (fun r hr => ?_)); (next => omega); (next => exact zr)) | ((with_reducible refine Im.call (spec_l01Great.vi hG ?_ _) ?_ (fun r hr => ?_)); (next => omega); (next => exact zr)) | ((with_reducible refine Im.call (spec_l01In.vi hG ?_ _ _ _) ?_ (fun r hr => ?_)); (next => omega); (next => exact zr)) | ((with_reducible refine Im.call (spec_l01Letter.vi hG ?_ _) ?_ (fun r hr => ?_)); (next => omega); (next => exact zr)) | ((with_reducible refine Im.call (spec_l02Digits.vi hG ?_ _) ?_ (fun r hr => ?_)); (next => omega); (next => exact zr)) | ((with_reducible refine ih1 _ ⟨_, _⟩ _ ?_ ?_); (next => exact zo); exact zr)
               | exact zm | exact zx | fail)
           all_goals skip)
         exact zr)
      | exact zm | exact zx | fail)
  all_goals skip
theorem spec_VersionOk.vi {k m : Nat} {Gv : FuncId → Option (List VV → Option (VV × List VV))} (hG : Base Gv) (hm : k + 4 ≤ m) (a0_0 : Int) (a0_1 : Int) (a0_2 : Int) (l0_3 : List ByteArray) : Im (fun r => (.bool r, [])) (spec_VersionOk.f k a0_0 a0_1 a0_2 l0_3) (callv Tryz.prog ti keep Gv m 87 [.ag [.int a0_0, .int a0_1, .int a0_2, .sl (l0_3.map VV.str)]]) := by
  obtain ⟨m, rfl⟩ : ∃ m', m = m' + 1 := ⟨m - 1, by omega⟩
  rw [show callv Tryz.prog ti keep Gv (m + 1) 87 _ = _ from callv_enter ((hG 87 (by decide) (by decide) (by decide)).trans rfl) Tryz.func87 (by kernel_rfl) rfl rfl]
  unfold spec_VersionOk.f
  repeat' first
    | (with_reducible first | exact Im.none | refine Im.ite (fun h => ?_) (fun h => ?_) | refine Im.sbind ?_)
    | ((conv => arg 3; whnf); first
      | ((with_reducible refine Im.fin ?_); exact zr) | ((with_reducible refine Im.anyo ?_ ?_); (next => kernel_rfl)) | ((with_reducible refine Im.bite_t ?_ ?_); (next => exact zq)) | ((with_reducible refine Im.bite_f ?_ ?_); (next => exact zq)) | ((with_reducible refine Im.bite_t ?_ ?_); (next => exact zd)) | ((with_reducible refine Im.must ?_ ?_); (next => exact zd)) | ((with_reducible refine Im.bite_f ?_ ?_); (next => exact zd)) | (with_reducible refine Im.byl ?_) | ((with_reducible refine Im.vget ByteArray.empty ?_ ?_ ?_); (next => exact zd); (next => exact zd)) | ((with_reducible refine Im.vget z45 ?_ ?_ ?_); (next => exact zd); (next => exact zd)) | ((with_reducible refine Im.vget (0 : Int) ?_ ?_ ?_); (next => exact zd); (next => exact zd)) | ((with_reducible refine Im.vget false ?_ ?_ ?_); (next => exact zd); (next => exact zd)) | ((with_reducible refine Im.call (spec_l01In.vi hG ?_ _ _ _) ?_ (fun r hr => ?_)); (next => omega); (next => exact zr)) | ((with_reducible refine Im.call (spec_l02Pre.vi hG ?_ _) ?_ (fun r hr => ?_)); (next => omega); (next => exact zr))
      | ((with_reducible refine Im.loop (S := fun s : Int × Int × Int × Int × List ByteArray => [.un, .bx [.int s.2.1, .int s.2.2.1, .int s.2.2.2.1, .sl (s.2.2.2.2.map VV.str)], .un, .int s.1, .un, .un, .un, .un, .un, .un, .un, .un, .un, .un, .un, .un, .un, .un, .un, .un, .un, .un, .un, .un, .un, .un, .un, .un, .un, .un, .un, .un, .un, .un, .un, .un, .un]) (L := fun k s => spec_VersionOk.l0 k s.1 s.2.1 s.2.2.1 s.2.2.2.1 s.2.2.2.2) _ ?_ ?_ _ _ ⟨_, _, _, _, _⟩ _ (Nat.le_refl _) zo ?_)
         (next => intro s; rfl)
         (next =>
           intro k1 M1 ⟨x3, x154000, x154001, x154002, x154003⟩ hk1 hM1 ih1
           conv => arg 2; simp only [spec_VersionOk.l0]
           repeat' first
             | (with_reducible first | exact Im.none | refine Im.ite (fun h => ?_) (fun h => ?_) | refine Im.sbind ?_)
             | ((conv => arg 3; whnf); first
               | ((with_reducible refine Im.fin ?_); exact zr) | ((with_reducible refine Im.anyo ?_ ?_); (next => kernel_rfl)) | ((with_reducible refine Im.bite_t ?_ ?_); (next => exact zq)) | ((with_reducible refine Im.bite_f ?_ ?_); (next => exact zq)) | ((with_reducible refine Im.bite_t ?_ ?_); (next => exact zd)) | ((with_reducible refine Im.must ?_ ?_); (next => exact zd)) | ((with_reducible refine Im.bite_f ?_ ?_); (next => exact zd)) | (with_reducible refine Im.byl ?_) | ((with_reducible refine Im.vget ByteArray.empty ?_ ?_ ?_); (next => exact zd); (next => exact zd)) | ((with_reducible refine Im.vget z45 ?_ ?_ ?_); (next => exact zd); (next => exact zd)) | ((with_reducible refine Im.vget (0 : Int) ?_ ?_ ?_); (next => exact zd); (next => exact zd)) | ((with_reducible refine Im.vget false ?_ ?_ ?_); (next => exact zd); (next => exact zd)) | ((with_reducible refine Im.call (spec_l01In.vi hG ?_ _ _ _) ?_ (fun r hr => ?_)); (next => omega); (next => exact zr)) | ((with_reducible refine Im.call (spec_l02Pre.vi hG ?_ _) ?_ (fun r hr => ?_)); (next => omega); (next => exact zr)) | ((with_reducible refine ih1 _ ⟨_, _, _, _, _⟩ _ ?_ ?_); (next => exact zo); exact zr)
               | exact zm | exact zx | fail)
           all_goals skip)
         exact zr)
      | exact zm | exact zx | fail)
  all_goals skip
theorem spec_VersionText.vi {k m : Nat} {Gv : FuncId → Option (List VV → Option (VV × List VV))} (hG : Base Gv) (hm : k + 5 ≤ m) (a0_0 : Int) (a0_1 : Int) (a0_2 : Int) (l0_3 : List ByteArray) : Im (fun r => (.str r, [])) (spec_VersionText.f k a0_0 a0_1 a0_2 l0_3) (callv Tryz.prog ti keep Gv m 55 [.ag [.int a0_0, .int a0_1, .int a0_2, .sl (l0_3.map VV.str)]]) := by
  obtain ⟨m, rfl⟩ : ∃ m', m = m' + 1 := ⟨m - 1, by omega⟩
  rw [show callv Tryz.prog ti keep Gv (m + 1) 55 _ = _ from callv_enter ((hG 55 (by decide) (by decide) (by decide)).trans rfl) Tryz.func55 (by kernel_rfl) rfl rfl]
  unfold spec_VersionText.f
  repeat' first
    | (with_reducible first | exact Im.none | refine Im.ite (fun h => ?_) (fun h => ?_) | refine Im.sbind ?_)
    | ((conv => arg 3; whnf); first
      | ((with_reducible refine Im.fin ?_); exact zr) | ((with_reducible refine Im.anyo ?_ ?_); (next => kernel_rfl)) | ((with_reducible refine Im.bite_t ?_ ?_); (next => exact zq)) | ((with_reducible refine Im.bite_f ?_ ?_); (next => exact zq)) | ((with_reducible refine Im.bite_t ?_ ?_); (next => exact zd)) | ((with_reducible refine Im.must ?_ ?_); (next => exact zd)) | ((with_reducible refine Im.bite_f ?_ ?_); (next => exact zd)) | (with_reducible refine Im.byl ?_) | ((with_reducible refine Im.vget ByteArray.empty ?_ ?_ ?_); (next => exact zd); (next => exact zd)) | ((with_reducible refine Im.vget z45 ?_ ?_ ?_); (next => exact zd); (next => exact zd)) | ((with_reducible refine Im.vget (0 : Int) ?_ ?_ ?_); (next => exact zd); (next => exact zd)) | ((with_reducible refine Im.vget false ?_ ?_ ?_); (next => exact zd); (next => exact zd)) | ((with_reducible refine Im.call (spec_DecText.vi hG ?_ _) ?_ (fun r hr => ?_)); (next => omega); (next => exact zr)) | ((with_reducible refine Im.call (spec_VersionOk.vi hG ?_ _ _ _ _) ?_ (fun r hr => ?_)); (next => omega); (next => exact zr))
      | ((with_reducible refine Im.loop (S := fun s : ByteArray × Int × Int × Int × Int × List ByteArray => [.un, .bx [.int s.2.2.1, .int s.2.2.2.1, .int s.2.2.2.2.1, .sl (s.2.2.2.2.2.map VV.str)], .un, .str s.1, .int s.2.1, .un, .un, .un, .un, .un, .un, .un, .un, .un, .un, .un, .un, .un, .un, .un, .un, .un, .un, .un, .un, .un, .un, .un, .un, .un, .un, .un, .un, .un, .un, .un, .un, .un, .un, .un, .un, .un, .un, .un, .un, .un, .un]) (L := fun k s => spec_VersionText.l0 k s.1 s.2.1 s.2.2.1 s.2.2.2.1 s.2.2.2.2.1 s.2.2.2.2.2) _ ?_ ?_ _ _ ⟨_, _, _, _, _, _⟩ _ (Nat.le_refl _) zo ?_)
         (next => intro s; rfl)
         (next =>
           intro k1 M1 ⟨x3, x4, x160000, x160001, x160002, x160003⟩ hk1 hM1 ih1
           conv => arg 2; simp only [spec_VersionText.l0]
           repeat' first
             | (with_reducible first | exact Im.none | refine Im.ite (fun h => ?_) (fun h => ?_) | refine Im.sbind ?_)
             | ((conv => arg 3; whnf); first
               | ((with_reducible refine Im.fin ?_); exact zr) | ((with_reducible refine Im.anyo ?_ ?_); (next => kernel_rfl)) | ((with_reducible refine Im.bite_t ?_ ?_); (next => exact zq)) | ((with_reducible refine Im.bite_f ?_ ?_); (next => exact zq)) | ((with_reducible refine Im.bite_t ?_ ?_); (next => exact zd)) | ((with_reducible refine Im.must ?_ ?_); (next => exact zd)) | ((with_reducible refine Im.bite_f ?_ ?_); (next => exact zd)) | (with_reducible refine Im.byl ?_) | ((with_reducible refine Im.vget ByteArray.empty ?_ ?_ ?_); (next => exact zd); (next => exact zd)) | ((with_reducible refine Im.vget z45 ?_ ?_ ?_); (next => exact zd); (next => exact zd)) | ((with_reducible refine Im.vget (0 : Int) ?_ ?_ ?_); (next => exact zd); (next => exact zd)) | ((with_reducible refine Im.vget false ?_ ?_ ?_); (next => exact zd); (next => exact zd)) | ((with_reducible refine Im.call (spec_DecText.vi hG ?_ _) ?_ (fun r hr => ?_)); (next => omega); (next => exact zr)) | ((with_reducible refine Im.call (spec_VersionOk.vi hG ?_ _ _ _ _) ?_ (fun r hr => ?_)); (next => omega); (next => exact zr)) | ((with_reducible refine ih1 _ ⟨_, _, _, _, _, _⟩ _ ?_ ?_); (next => exact zo); exact zr)
               | exact zm | exact zx | fail)
           all_goals skip)
         exact zr)
      | exact zm | exact zx | fail)
  all_goals skip
theorem spec_l01At.vi {k m : Nat} {Gv : FuncId → Option (List VV → Option (VV × List VV))} (hG : Base Gv) (hm : k + 1 ≤ m) (a0 : ByteArray) (a1 : Int) : Im (fun r => (.int r, [])) (spec_l01At.f k a0 a1) (callv Tryz.prog ti keep Gv m 61 [.str a0, .byte a1]) := by
  obtain ⟨m, rfl⟩ : ∃ m', m = m' + 1 := ⟨m - 1, by omega⟩
  rw [show callv Tryz.prog ti keep Gv (m + 1) 61 _ = _ from callv_enter ((hG 61 (by decide) (by decide) (by decide)).trans rfl) Tryz.func61 (by kernel_rfl) rfl rfl]
  unfold spec_l01At.f
  repeat' first
    | (with_reducible first | exact Im.none | refine Im.ite (fun h => ?_) (fun h => ?_) | refine Im.sbind ?_)
    | ((conv => arg 3; whnf); first
      | ((with_reducible refine Im.fin ?_); exact zr) | ((with_reducible refine Im.anyo ?_ ?_); (next => kernel_rfl)) | ((with_reducible refine Im.bite_t ?_ ?_); (next => exact zq)) | ((with_reducible refine Im.bite_f ?_ ?_); (next => exact zq)) | ((with_reducible refine Im.bite_t ?_ ?_); (next => exact zd)) | ((with_reducible refine Im.must ?_ ?_); (next => exact zd)) | ((with_reducible refine Im.bite_f ?_ ?_); (next => exact zd)) | (with_reducible refine Im.byl ?_) | ((with_reducible refine Im.vget ByteArray.empty ?_ ?_ ?_); (next => exact zd); (next => exact zd)) | ((with_reducible refine Im.vget z45 ?_ ?_ ?_); (next => exact zd); (next => exact zd)) | ((with_reducible refine Im.vget (0 : Int) ?_ ?_ ?_); (next => exact zd); (next => exact zd)) | ((with_reducible refine Im.vget false ?_ ?_ ?_); (next => exact zd); (next => exact zd))
      | ((with_reducible refine Im.loop (S := fun s : ByteArray × Int × Int => [.str s.1, .byte s.2.1, .un, .un, .un, .int s.2.2, .un, .un, .un, .un, .un, .un, .un, .un, .un, .un, .un, .un]) (L := fun k s => spec_l01At.l0 k s.1 s.2.1 s.2.2) _ ?_ ?_ _ _ ⟨_, _, _⟩ _ (Nat.le_refl _) zo ?_)
         (next => intro s; rfl)
         (next =>
           intro k1 M1 ⟨x0, x1, x5⟩ hk1 hM1 ih1
           conv => arg 2; simp only [spec_l01At.l0]
           repeat' first
             | (with_reducible first | exact Im.none | refine Im.ite (fun h => ?_) (fun h => ?_) | refine Im.sbind ?_)
             | ((conv => arg 3; whnf); first
               | ((with_reducible refine Im.fin ?_); exact zr) | ((with_reducible refine Im.anyo ?_ ?_); (next => kernel_rfl)) | ((with_reducible refine Im.bite_t ?_ ?_); (next => exact zq)) | ((with_reducible refine Im.bite_f ?_ ?_); (next => exact zq)) | ((with_reducible refine Im.bite_t ?_ ?_); (next => exact zd)) | ((with_reducible refine Im.must ?_ ?_); (next => exact zd)) | ((with_reducible refine Im.bite_f ?_ ?_); (next => exact zd)) | (with_reducible refine Im.byl ?_) | ((with_reducible refine Im.vget ByteArray.empty ?_ ?_ ?_); (next => exact zd); (next => exact zd)) | ((with_reducible refine Im.vget z45 ?_ ?_ ?_); (next => exact zd); (next => exact zd)) | ((with_reducible refine Im.vget (0 : Int) ?_ ?_ ?_); (next => exact zd); (next => exact zd)) | ((with_reducible refine Im.vget false ?_ ?_ ?_); (next => exact zd); (next => exact zd)) | ((with_reducible refine ih1 _ ⟨_, _, _⟩ _ ?_ ?_); (next => exact zo); exact zr)
               | exact zm | exact zx | fail)
           all_goals skip)
         exact zr)
      | exact zm | exact zx | fail)
  all_goals skip
theorem spec_l01Cut.vi {k m : Nat} {Gv : FuncId → Option (List VV → Option (VV × List VV))} (hG : Base Gv) (hm : k + 1 ≤ m) (a0 : ByteArray) (a1 : Int) : Im (fun r => (.ow 9 1 (r.map VV.str), [])) (spec_l01Cut.f k a0 a1) (callv Tryz.prog ti keep Gv m 62 [.str a0, .byte a1]) := by
  obtain ⟨m, rfl⟩ : ∃ m', m = m' + 1 := ⟨m - 1, by omega⟩
  rw [show callv Tryz.prog ti keep Gv (m + 1) 62 _ = _ from callv_enter ((hG 62 (by decide) (by decide) (by decide)).trans rfl) Tryz.func62 (by kernel_rfl) rfl rfl]
  unfold spec_l01Cut.f
  repeat' first
    | (with_reducible first | exact Im.none | refine Im.ite (fun h => ?_) (fun h => ?_) | refine Im.sbind ?_)
    | ((conv => arg 3; whnf); first
      | ((with_reducible refine Im.fin ?_); exact zr) | ((with_reducible refine Im.anyo ?_ ?_); (next => kernel_rfl)) | ((with_reducible refine Im.bite_t ?_ ?_); (next => exact zq)) | ((with_reducible refine Im.bite_f ?_ ?_); (next => exact zq)) | ((with_reducible refine Im.bite_t ?_ ?_); (next => exact zd)) | ((with_reducible refine Im.must ?_ ?_); (next => exact zd)) | ((with_reducible refine Im.bite_f ?_ ?_); (next => exact zd)) | (with_reducible refine Im.byl ?_) | ((with_reducible refine Im.vget ByteArray.empty ?_ ?_ ?_); (next => exact zd); (next => exact zd)) | ((with_reducible refine Im.vget z45 ?_ ?_ ?_); (next => exact zd); (next => exact zd)) | ((with_reducible refine Im.vget (0 : Int) ?_ ?_ ?_); (next => exact zd); (next => exact zd)) | ((with_reducible refine Im.vget false ?_ ?_ ?_); (next => exact zd); (next => exact zd))
      | ((with_reducible refine Im.loop (S := fun s : ByteArray × Int × List ByteArray × Int × Int => [.str s.1, .byte s.2.1, .un, .un, .un, .ow 9 1 (s.2.2.1.map VV.str), .int s.2.2.2.1, .int s.2.2.2.2, .un, .un, .un, .un, .un, .un, .un, .un, .un, .un, .un, .un, .un, .un, .un, .un, .un, .un, .un, .un, .un, .un, .un, .un, .un, .un, .un]) (L := fun k s => spec_l01Cut.l0 k s.1 s.2.1 s.2.2.1 s.2.2.2.1 s.2.2.2.2) _ ?_ ?_ _ _ ⟨_, _, _, _, _⟩ _ (Nat.le_refl _) zo ?_)
         (next => intro s; rfl)
         (next =>
           intro k1 M1 ⟨x0, x1, x5, x6, x7⟩ hk1 hM1 ih1
           conv => arg 2; simp only [spec_l01Cut.l0]
           repeat' first
             | (with_reducible first | exact Im.none | refine Im.ite (fun h => ?_) (fun h => ?_) | refine Im.sbind ?_)
             | ((conv => arg 3; whnf); first
               | ((with_reducible refine Im.fin ?_); exact zr) | ((with_reducible refine Im.anyo ?_ ?_); (next => kernel_rfl)) | ((with_reducible refine Im.bite_t ?_ ?_); (next => exact zq)) | ((with_reducible refine Im.bite_f ?_ ?_); (next => exact zq)) | ((with_reducible refine Im.bite_t ?_ ?_); (next => exact zd)) | ((with_reducible refine Im.must ?_ ?_); (next => exact zd)) | ((with_reducible refine Im.bite_f ?_ ?_); (next => exact zd)) | (with_reducible refine Im.byl ?_) | ((with_reducible refine Im.vget ByteArray.empty ?_ ?_ ?_); (next => exact zd); (next => exact zd)) | ((with_reducible refine Im.vget z45 ?_ ?_ ?_); (next => exact zd); (next => exact zd)) | ((with_reducible refine Im.vget (0 : Int) ?_ ?_ ?_); (next => exact zd); (next => exact zd)) | ((with_reducible refine Im.vget false ?_ ?_ ?_); (next => exact zd); (next => exact zd)) | ((with_reducible refine ih1 _ ⟨_, _, _, _, _⟩ _ ?_ ?_); (next => exact zo); exact zr)
               | exact zm | exact zx | fail)
           all_goals skip)
         exact zr)
      | exact zm | exact zx | fail)
  all_goals skip
theorem spec_ReadVersion.vi {k m : Nat} {Gv : FuncId → Option (List VV → Option (VV × List VV))} (hG : Base Gv) (hm : k + 6 ≤ m) (a0 : ByteArray) : Im (fun r => (.tu [.ag [.int r.1, .int r.2.1, .int r.2.2.1, .sl (r.2.2.2.1.map VV.str)], .bool r.2.2.2.2], [])) (spec_ReadVersion.f k a0) (callv Tryz.prog ti keep Gv m 40 [.str a0]) := by
  obtain ⟨m, rfl⟩ : ∃ m', m = m' + 1 := ⟨m - 1, by omega⟩
  rw [show callv Tryz.prog ti keep Gv (m + 1) 40 _ = _ from callv_enter ((hG 40 (by decide) (by decide) (by decide)).trans rfl) Tryz.func40 (by kernel_rfl) rfl rfl]
  unfold spec_ReadVersion.f
  repeat' first
    | ((with_reducible refine Im.nat (fun k => spec_ReadVersion.j0 k _ _ _ _ _ _) _ ?_ (fun kj hkj => ?_)); (next => rfl); (conv => arg 2; simp only [spec_ReadVersion.j0, Bool.false_eq_true, reduceIte])) | (with_reducible first | exact Im.none | refine Im.ite (fun h => ?_) (fun h => ?_) | refine Im.sbind ?_)
    | ((conv => arg 3; whnf); first
      | ((with_reducible refine Im.fin ?_); exact zr) | ((with_reducible refine Im.anyo ?_ ?_); (next => kernel_rfl)) | ((with_reducible refine Im.bite_t ?_ ?_); (next => exact zq)) | ((with_reducible refine Im.bite_f ?_ ?_); (next => exact zq)) | ((with_reducible refine Im.bite_t ?_ ?_); (next => exact zd)) | ((with_reducible refine Im.must ?_ ?_); (next => exact zd)) | ((with_reducible refine Im.bite_f ?_ ?_); (next => exact zd)) | (with_reducible refine Im.byl ?_) | ((with_reducible refine Im.vget ByteArray.empty ?_ ?_ ?_); (next => exact zd); (next => exact zd)) | ((with_reducible refine Im.vget z45 ?_ ?_ ?_); (next => exact zd); (next => exact zd)) | ((with_reducible refine Im.vget (0 : Int) ?_ ?_ ?_); (next => exact zd); (next => exact zd)) | ((with_reducible refine Im.vget false ?_ ?_ ?_); (next => exact zd); (next => exact zd)) | ((with_reducible refine Im.call (spec_ReadDec.vi hG ?_ _) ?_ (fun r hr => ?_)); (next => omega); (next => exact zr)) | ((with_reducible refine Im.call (spec_VersionText.vi hG ?_ _ _ _ _) ?_ (fun r hr => ?_)); (next => omega); (next => exact zr)) | ((with_reducible refine Im.call (spec_l01At.vi hG ?_ _ _) ?_ (fun r hr => ?_)); (next => omega); (next => exact zr)) | ((with_reducible refine Im.call (spec_l01Cut.vi hG ?_ _ _) ?_ (fun r hr => ?_)); (next => omega); (next => exact zr))
      | exact zm | exact zx | fail)
  all_goals skip
theorem spec_l02Less.vi {m : Nat} {Gv : FuncId → Option (List VV → Option (VV × List VV))} (hG : Base Gv) (hm : 1 ≤ m) (a0 : Int) (a1 : Int) : Im (fun r => (.int r, [])) (spec_l02Less.f a0 a1) (callv Tryz.prog ti keep Gv m 64 [.int a0, .int a1]) := by
  obtain ⟨m, rfl⟩ : ∃ m', m = m' + 1 := ⟨m - 1, by omega⟩
  rw [show callv Tryz.prog ti keep Gv (m + 1) 64 _ = _ from callv_enter ((hG 64 (by decide) (by decide) (by decide)).trans rfl) Tryz.func64 (by kernel_rfl) rfl rfl]
  unfold spec_l02Less.f
  repeat' first
    | (with_reducible first | exact Im.none | refine Im.ite (fun h => ?_) (fun h => ?_) | refine Im.sbind ?_)
    | ((conv => arg 3; whnf); first
      | ((with_reducible refine Im.fin ?_); exact zr) | ((with_reducible refine Im.anyo ?_ ?_); (next => kernel_rfl)) | ((with_reducible refine Im.bite_t ?_ ?_); (next => exact zq)) | ((with_reducible refine Im.bite_f ?_ ?_); (next => exact zq)) | ((with_reducible refine Im.bite_t ?_ ?_); (next => exact zd)) | ((with_reducible refine Im.must ?_ ?_); (next => exact zd)) | ((with_reducible refine Im.bite_f ?_ ?_); (next => exact zd)) | (with_reducible refine Im.byl ?_) | ((with_reducible refine Im.vget ByteArray.empty ?_ ?_ ?_); (next => exact zd); (next => exact zd)) | ((with_reducible refine Im.vget z45 ?_ ?_ ?_); (next => exact zd); (next => exact zd)) | ((with_reducible refine Im.vget (0 : Int) ?_ ?_ ?_); (next => exact zd); (next => exact zd)) | ((with_reducible refine Im.vget false ?_ ?_ ?_); (next => exact zd); (next => exact zd))
      | exact zm | exact zx | fail)
  all_goals skip
theorem spec_l02Texts.vi {m : Nat} {Gv : FuncId → Option (List VV → Option (VV × List VV))} (hG : Base Gv) (hm : 1 ≤ m) (a0 : ByteArray) (a1 : ByteArray) : Im (fun r => (.int r, [])) (spec_l02Texts.f a0 a1) (callv Tryz.prog ti keep Gv m 105 [.str a0, .str a1]) := by
  obtain ⟨m, rfl⟩ : ∃ m', m = m' + 1 := ⟨m - 1, by omega⟩
  rw [show callv Tryz.prog ti keep Gv (m + 1) 105 _ = _ from callv_enter ((hG 105 (by decide) (by decide) (by decide)).trans rfl) Tryz.func105 (by kernel_rfl) rfl rfl]
  unfold spec_l02Texts.f
  repeat' first
    | (with_reducible first | exact Im.none | refine Im.ite (fun h => ?_) (fun h => ?_) | refine Im.sbind ?_)
    | ((conv => arg 3; whnf); first
      | ((with_reducible refine Im.fin ?_); exact zr) | ((with_reducible refine Im.anyo ?_ ?_); (next => kernel_rfl)) | ((with_reducible refine Im.bite_t ?_ ?_); (next => exact zq)) | ((with_reducible refine Im.bite_f ?_ ?_); (next => exact zq)) | ((with_reducible refine Im.bite_t ?_ ?_); (next => exact zd)) | ((with_reducible refine Im.must ?_ ?_); (next => exact zd)) | ((with_reducible refine Im.bite_f ?_ ?_); (next => exact zd)) | (with_reducible refine Im.byl ?_) | ((with_reducible refine Im.vget ByteArray.empty ?_ ?_ ?_); (next => exact zd); (next => exact zd)) | ((with_reducible refine Im.vget z45 ?_ ?_ ?_); (next => exact zd); (next => exact zd)) | ((with_reducible refine Im.vget (0 : Int) ?_ ?_ ?_); (next => exact zd); (next => exact zd)) | ((with_reducible refine Im.vget false ?_ ?_ ?_); (next => exact zd); (next => exact zd))
      | exact zm | exact zx | fail)
  all_goals skip
theorem spec_l02Part.vi {k m : Nat} {Gv : FuncId → Option (List VV → Option (VV × List VV))} (hG : Base Gv) (hm : k + 3 ≤ m) (a0 : ByteArray) (a1 : ByteArray) : Im (fun r => (.int r, [])) (spec_l02Part.f k a0 a1) (callv Tryz.prog ti keep Gv m 65 [.str a0, .str a1]) := by
  obtain ⟨m, rfl⟩ : ∃ m', m = m' + 1 := ⟨m - 1, by omega⟩
  rw [show callv Tryz.prog ti keep Gv (m + 1) 65 _ = _ from callv_enter ((hG 65 (by decide) (by decide) (by decide)).trans rfl) Tryz.func65 (by kernel_rfl) rfl rfl]
  unfold spec_l02Part.f
  repeat' first
    | ((with_reducible refine Im.nat (fun k => spec_l02Part.j0 k _ _ _ _ _) _ ?_ (fun kj hkj => ?_)); (next => rfl); (conv => arg 2; simp only [spec_l02Part.j0, Bool.false_eq_true, reduceIte])) | (with_reducible first | exact Im.none | refine Im.ite (fun h => ?_) (fun h => ?_) | refine Im.sbind ?_)
    | ((conv => arg 3; whnf); first
      | ((with_reducible refine Im.fin ?_); exact zr) | ((with_reducible refine Im.anyo ?_ ?_); (next => kernel_rfl)) | ((with_reducible refine Im.bite_t ?_ ?_); (next => exact zq)) | ((with_reducible refine Im.bite_f ?_ ?_); (next => exact zq)) | ((with_reducible refine Im.bite_t ?_ ?_); (next => exact zd)) | ((with_reducible refine Im.must ?_ ?_); (next => exact zd)) | ((with_reducible refine Im.bite_f ?_ ?_); (next => exact zd)) | (with_reducible refine Im.byl ?_) | ((with_reducible refine Im.vget ByteArray.empty ?_ ?_ ?_); (next => exact zd); (next => exact zd)) | ((with_reducible refine Im.vget z45 ?_ ?_ ?_); (next => exact zd); (next => exact zd)) | ((with_reducible refine Im.vget (0 : Int) ?_ ?_ ?_); (next => exact zd); (next => exact zd)) | ((with_reducible refine Im.vget false ?_ ?_ ?_); (next => exact zd); (next => exact zd)) | ((with_reducible refine Im.call (spec_ReadDec.vi hG ?_ _) ?_ (fun r hr => ?_)); (next => omega); (next => exact zr)) | ((with_reducible refine Im.call (spec_l02Less.vi hG ?_ _ _) ?_ (fun r hr => ?_)); (next => omega); (next => exact zr)) | ((with_reducible refine Im.call (spec_l02Texts.vi hG ?_ _ _) ?_ (fun r hr => ?_)); (next => omega); (next => exact zr))
      | exact zm | exact zx | fail)
  all_goals skip
theorem spec_CompareVersion.vi {k m : Nat} {Gv : FuncId → Option (List VV → Option (VV × List VV))} (hG : Base Gv) (hm : k + 4 ≤ m) (a0_0 : Int) (a0_1 : Int) (a0_2 : Int) (l0_3 : List ByteArray) (a1_0 : Int) (a1_1 : Int) (a1_2 : Int) (l1_3 : List ByteArray) : Im (fun r => (.int r, [])) (spec_CompareVersion.f k a0_0 a0_1 a0_2 l0_3 a1_0 a1_1 a1_2 l1_3) (callv Tryz.prog ti keep Gv m 41 [.ag [.int a0_0, .int a0_1, .int a0_2, .sl (l0_3.map VV.str)], .ag [.int a1_0, .int a1_1, .int a1_2, .sl (l1_3.map VV.str)]]) := by
  obtain ⟨m, rfl⟩ : ∃ m', m = m' + 1 := ⟨m - 1, by omega⟩
  rw [show callv Tryz.prog ti keep Gv (m + 1) 41 _ = _ from callv_enter ((hG 41 (by decide) (by decide) (by decide)).trans rfl) Tryz.func41 (by kernel_rfl) rfl rfl]
  unfold spec_CompareVersion.f
  repeat' first
    | (with_reducible first | exact Im.none | refine Im.ite (fun h => ?_) (fun h => ?_) | refine Im.sbind ?_)
    | ((conv => arg 3; whnf); first
      | ((with_reducible refine Im.fin ?_); exact zr) | ((with_reducible refine Im.anyo ?_ ?_); (next => kernel_rfl)) | ((with_reducible refine Im.bite_t ?_ ?_); (next => exact zq)) | ((with_reducible refine Im.bite_f ?_ ?_); (next => exact zq)) | ((with_reducible refine Im.bite_t ?_ ?_); (next => exact zd)) | ((with_reducible refine Im.must ?_ ?_); (next => exact zd)) | ((with_reducible refine Im.bite_f ?_ ?_); (next => exact zd)) | (with_reducible refine Im.byl ?_) | ((with_reducible refine Im.vget ByteArray.empty ?_ ?_ ?_); (next => exact zd); (next => exact zd)) | ((with_reducible refine Im.vget z45 ?_ ?_ ?_); (next => exact zd); (next => exact zd)) | ((with_reducible refine Im.vget (0 : Int) ?_ ?_ ?_); (next => exact zd); (next => exact zd)) | ((with_reducible refine Im.vget false ?_ ?_ ?_); (next => exact zd); (next => exact zd)) | ((with_reducible refine Im.call (spec_l02Less.vi hG ?_ _ _) ?_ (fun r hr => ?_)); (next => omega); (next => exact zr)) | ((with_reducible refine Im.call (spec_l02Part.vi hG ?_ _ _) ?_ (fun r hr => ?_)); (next => omega); (next => exact zr))
      | ((with_reducible refine Im.loop (S := fun s : List Int × Int × Int × Int × Int × List ByteArray × Int × Int × Int × List ByteArray => [.un, .un, .bx [.int s.2.2.1, .int s.2.2.2.1, .int s.2.2.2.2.1, .sl (s.2.2.2.2.2.1.map VV.str)], .bx [.int s.2.2.2.2.2.2.1, .int s.2.2.2.2.2.2.2.1, .int s.2.2.2.2.2.2.2.2.1, .sl (s.2.2.2.2.2.2.2.2.2.map VV.str)], .un, .ow 3 1 (s.1.map VV.int), .int s.2.1, .un, .un, .un, .un, .un, .un, .un, .un, .un, .un, .un, .un, .un, .un, .un, .un, .un, .un, .un, .un, .un, .un, .un, .un, .un, .un, .un, .un, .un, .un, .un, .un, .un, .un, .un, .un, .un, .un, .un, .un, .un, .un, .un, .un, .un, .un, .un, .un, .un, .un, .un, .un, .un, .un, .un, .un, .un, .un, .un, .un, .un, .un, .un, .un, .un, .un, .un, .un, .un, .un, .un, .un, .un, .un, .un, .un, .un, .un, .un, .un, .un, .un, .un]) (L := fun k s => spec_CompareVersion.l0 k s.1 s.2.1 s.2.2.1 s.2.2.2.1 s.2.2.2.2.1 s.2.2.2.2.2.1 s.2.2.2.2.2.2.1 s.2.2.2.2.2.2.2.1 s.2.2.2.2.2.2.2.2.1 s.2.2.2.2.2.2.2.2.2) _ ?_ ?_ _ _ ⟨_, _, _, _, _, _, _, _, _, _⟩ _ (Nat.le_refl _) zo ?_)
         (next => intro s; rfl)
         (next =>
           intro k1 M1 ⟨x5, x6, x307000, x307001, x307002, x307003, x308000, x308001, x308002, x308003⟩ hk1 hM1 ih1
           conv => arg 2; simp only [spec_CompareVersion.l0]
           repeat' first
             | ((with_reducible refine Im.nat (fun k => spec_CompareVersion.j1 k _ _ _ _ _ _ _ _ _) _ ?_ (fun kj hkj => ?_)); (next => rfl); (conv => arg 2; simp only [spec_CompareVersion.j1, Bool.false_eq_true, reduceIte])) | (with_reducible first | exact Im.none | refine Im.ite (fun h => ?_) (fun h => ?_) | refine Im.sbind ?_)
             | ((conv => arg 3; whnf); first
               | ((with_reducible refine Im.fin ?_); exact zr) | ((with_reducible refine Im.anyo ?_ ?_); (next => kernel_rfl)) | ((with_reducible refine Im.bite_t ?_ ?_); (next => exact zq)) | ((with_reducible refine Im.bite_f ?_ ?_); (next => exact zq)) | ((with_reducible refine Im.bite_t ?_ ?_); (next => exact zd)) | ((with_reducible refine Im.must ?_ ?_); (next => exact zd)) | ((with_reducible refine Im.bite_f ?_ ?_); (next => exact zd)) | (with_reducible refine Im.byl ?_) | ((with_reducible refine Im.vget ByteArray.empty ?_ ?_ ?_); (next => exact zd); (next => exact zd)) | ((with_reducible refine Im.vget z45 ?_ ?_ ?_); (next => exact zd); (next => exact zd)) | ((with_reducible refine Im.vget (0 : Int) ?_ ?_ ?_); (next => exact zd); (next => exact zd)) | ((with_reducible refine Im.vget false ?_ ?_ ?_); (next => exact zd); (next => exact zd)) | ((with_reducible refine Im.call (spec_l02Less.vi hG ?_ _ _) ?_ (fun r hr => ?_)); (next => omega); (next => exact zr)) | ((with_reducible refine Im.call (spec_l02Part.vi hG ?_ _ _) ?_ (fun r hr => ?_)); (next => omega); (next => exact zr)) | ((with_reducible refine ih1 _ ⟨_, _, _, _, _, _, _, _, _, _⟩ _ ?_ ?_); (next => exact zo); exact zr)
               | ((with_reducible refine Im.loop (S := fun s : Int × Int × Int × Int × List ByteArray × Int × Int × Int × List ByteArray => [.un, .un, .bx [.int s.2.1, .int s.2.2.1, .int s.2.2.2.1, .sl (s.2.2.2.2.1.map VV.str)], .bx [.int s.2.2.2.2.2.1, .int s.2.2.2.2.2.2.1, .int s.2.2.2.2.2.2.2.1, .sl (s.2.2.2.2.2.2.2.2.map VV.str)], .un, .un, .un, .int s.1, .un, .un, .un, .un, .un, .un, .un, .un, .un, .un, .un, .un, .un, .un, .un, .un, .un, .un, .un, .un, .un, .un, .un, .un, .un, .un, .un, .un, .un, .un, .un, .un, .un, .un, .un, .un, .un, .un, .un, .un, .un, .un, .un, .un, .un, .un, .un, .un, .un, .un, .un, .un, .un, .un, .un, .un, .un, .un, .un, .un, .un, .un, .un, .un, .un, .un, .un, .un, .un, .un, .un, .un, .un, .un, .un, .un, .un, .un, .un, .un, .un, .un]) (L := fun k s => spec_CompareVersion.l1 k s.1 s.2.1 s.2.2.1 s.2.2.2.1 s.2.2.2.2.1 s.2.2.2.2.2.1 s.2.2.2.2.2.2.1 s.2.2.2.2.2.2.2.1 s.2.2.2.2.2.2.2.2) _ ?_ ?_ _ _ ⟨_, _, _, _, _, _, _, _, _⟩ _ (Nat.le_refl _) zo ?_)
                  (next => intro s; rfl)
                  (next =>
                    intro k2 M2 ⟨x7, x307000, x307001, x307002, x307003, x308000, x308001, x308002, x308003⟩ hk2 hM2 ih2
                    conv => arg 2; simp only [spec_CompareVersion.l1]
                    repeat' first
                      | ((with_reducible refine Im.nat (fun k => spec_CompareVersion.j3 k _ _ _ _ _ _ _ _ _ _) _ ?_ (fun kj hkj => ?_)); (next => rfl); (conv => arg 2; simp only [spec_CompareVersion.j3, Bool.false_eq_true, reduceIte])) | (with_reducible first | exact Im.none | refine Im.ite (fun h => ?_) (fun h => ?_) | refine Im.sbind ?_)
                      | ((conv => arg 3; whnf); first
                        | ((with_reducible refine Im.fin ?_); exact zr) | ((with_reducible refine Im.anyo ?_ ?_); (next => kernel_rfl)) | ((with_reducible refine Im.bite_t ?_ ?_); (next => exact zq)) | ((with_reducible refine Im.bite_f ?_ ?_); (next => exact zq)) | ((with_reducible refine Im.bite_t ?_ ?_); (next => exact zd)) | ((with_reducible refine Im.must ?_ ?_); (next => exact zd)) | ((with_reducible refine Im.bite_f ?_ ?_); (next => exact zd)) | (with_reducible refine Im.byl ?_) | ((with_reducible refine Im.vget ByteArray.empty ?_ ?_ ?_); (next => exact zd); (next => exact zd)) | ((with_reducible refine Im.vget z45 ?_ ?_ ?_); (next => exact zd); (next => exact zd)) | ((with_reducible refine Im.vget (0 : Int) ?_ ?_ ?_); (next => exact zd); (next => exact zd)) | ((with_reducible refine Im.vget false ?_ ?_ ?_); (next => exact zd); (next => exact zd)) | ((with_reducible refine Im.call (spec_l02Less.vi hG ?_ _ _) ?_ (fun r hr => ?_)); (next => omega); (next => exact zr)) | ((with_reducible refine Im.call (spec_l02Part.vi hG ?_ _ _) ?_ (fun r hr => ?_)); (next => omega); (next => exact zr)) | ((with_reducible refine ih2 _ ⟨_, _, _, _, _, _, _, _, _⟩ _ ?_ ?_); (next => exact zo); exact zr)
                        | exact zm | exact zx | fail)
                    all_goals skip)
                  exact zr)
               | exact zm | exact zx | fail)
           all_goals skip)
         exact zr)
      | exact zm | exact zx | fail)
  all_goals skip
theorem spec_Next.vi {k m : Nat} {Gv : FuncId → Option (List VV → Option (VV × List VV))} (hG : Base Gv) (hm : k + 5 ≤ m) (a0_0 : Int) (a0_1 : Int) (a0_2 : Int) (l0_3 : List ByteArray) (a1 : Int) : Im (fun r => (.ag [.int r.1, .int r.2.1, .int r.2.2.1, .sl (r.2.2.2.map VV.str)], [])) (spec_Next.f k a0_0 a0_1 a0_2 l0_3 a1) (callv Tryz.prog ti keep Gv m 146 [.ag [.int a0_0, .int a0_1, .int a0_2, .sl (l0_3.map VV.str)], .int a1]) := by
  obtain ⟨m, rfl⟩ : ∃ m', m = m' + 1 := ⟨m - 1, by omega⟩
  rw [show callv Tryz.prog ti keep Gv (m + 1) 146 _ = _ from callv_enter ((hG 146 (by decide) (by decide) (by decide)).trans rfl) Tryz.func146 (by kernel_rfl) rfl rfl]
  unfold spec_Next.f
  repeat' first
    | ((with_reducible refine Im.nat (fun k => spec_Next.j0 k _ _ _ _ _ _ _ _ _ _ _ _ _) _ ?_ (fun kj hkj => ?_)); (next => rfl); (conv => arg 2; simp only [spec_Next.j0, Bool.false_eq_true, reduceIte])) | (with_reducible first | exact Im.none | refine Im.ite (fun h => ?_) (fun h => ?_) | refine Im.sbind ?_)
    | ((conv => arg 3; whnf); first
      | ((with_reducible refine Im.fin ?_); exact zr) | ((with_reducible refine Im.anyo ?_ ?_); (next => kernel_rfl)) | ((with_reducible refine Im.bite_t ?_ ?_); (next => exact zq)) | ((with_reducible refine Im.bite_f ?_ ?_); (next => exact zq)) | ((with_reducible refine Im.bite_t ?_ ?_); (next => exact zd)) | ((with_reducible refine Im.must ?_ ?_); (next => exact zd)) | ((with_reducible refine Im.bite_f ?_ ?_); (next => exact zd)) | (with_reducible refine Im.byl ?_) | ((with_reducible refine Im.vget ByteArray.empty ?_ ?_ ?_); (next => exact zd); (next => exact zd)) | ((with_reducible refine Im.vget z45 ?_ ?_ ?_); (next => exact zd); (next => exact zd)) | ((with_reducible refine Im.vget (0 : Int) ?_ ?_ ?_); (next => exact zd); (next => exact zd)) | ((with_reducible refine Im.vget false ?_ ?_ ?_); (next => exact zd); (next => exact zd)) | ((with_reducible refine Im.call (spec_VersionOk.vi hG ?_ _ _ _ _) ?_ (fun r hr => ?_)); (next => omega); (next => exact zr)) | ((with_reducible refine Im.call (spec_l01In.vi hG ?_ _ _ _) ?_ (fun r hr => ?_)); (next => omega); (next => exact zr))
      | exact zm | exact zx | fail)
  all_goals skip
theorem spec_l03Below.vi {k m : Nat} {Gv : FuncId → Option (List VV → Option (VV × List VV))} (hG : Base Gv) (hm : k + 6 ≤ m) (a0_0 : Int) (a0_1 : Int) (a0_2 : Int) (l0_3 : List ByteArray) (a1 : Int) : Im (fun r => (.tu [.str r.1, .bool r.2], [])) (spec_l03Below.f k a0_0 a0_1 a0_2 l0_3 a1) (callv Tryz.prog ti keep Gv m 126 [.ag [.int a0_0, .int a0_1, .int a0_2, .sl (l0_3.map VV.str)], .int a1]) := by
  obtain ⟨m, rfl⟩ : ∃ m', m = m' + 1 := ⟨m - 1, by omega⟩
  rw [show callv Tryz.prog ti keep Gv (m + 1) 126 _ = _ from callv_enter ((hG 126 (by decide) (by decide) (by decide)).trans rfl) Tryz.func126 (by kernel_rfl) rfl rfl]
  unfold spec_l03Below.f
  repeat' first
    | (with_reducible first | exact Im.none | refine Im.ite (fun h => ?_) (fun h => ?_) | refine Im.sbind ?_)
    | ((conv => arg 3; whnf); first
      | ((with_reducible refine Im.fin ?_); exact zr) | ((with_reducible refine Im.anyo ?_ ?_); (next => kernel_rfl)) | ((with_reducible refine Im.bite_t ?_ ?_); (next => exact zq)) | ((with_reducible refine Im.bite_f ?_ ?_); (next => exact zq)) | ((with_reducible refine Im.bite_t ?_ ?_); (next => exact zd)) | ((with_reducible refine Im.must ?_ ?_); (next => exact zd)) | ((with_reducible refine Im.bite_f ?_ ?_); (next => exact zd)) | (with_reducible refine Im.byl ?_) | ((with_reducible refine Im.vget ByteArray.empty ?_ ?_ ?_); (next => exact zd); (next => exact zd)) | ((with_reducible refine Im.vget z45 ?_ ?_ ?_); (next => exact zd); (next => exact zd)) | ((with_reducible refine Im.vget (0 : Int) ?_ ?_ ?_); (next => exact zd); (next => exact zd)) | ((with_reducible refine Im.vget false ?_ ?_ ?_); (next => exact zd); (next => exact zd)) | ((with_reducible refine Im.call (spec_CompareVersion.vi hG ?_ _ _ _ _ _ _ _ _) ?_ (fun r hr => ?_)); (next => omega); (next => exact zr)) | ((with_reducible refine Im.call (spec_Next.vi hG ?_ _ _ _ _ _) ?_ (fun r hr => ?_)); (next => omega); (next => exact zr)) | ((with_reducible refine Im.call (spec_VersionText.vi hG ?_ _ _ _ _) ?_ (fun r hr => ?_)); (next => omega); (next => exact zr))
      | exact zm | exact zx | fail)
  all_goals skip
theorem spec_l03Alone.vi {k m : Nat} {Gv : FuncId → Option (List VV → Option (VV × List VV))} (hG : Base Gv) (hm : k + 7 ≤ m) (a0 : ByteArray) : Im (fun r => (.tu [.ag [.str r.1, .str r.2.1], .bool r.2.2], [])) (spec_l03Alone.f k a0) (callv Tryz.prog ti keep Gv m 93 [.str a0]) := by
  obtain ⟨m, rfl⟩ : ∃ m', m = m' + 1 := ⟨m - 1, by omega⟩
  rw [show callv Tryz.prog ti keep Gv (m + 1) 93 _ = _ from callv_enter ((hG 93 (by decide) (by decide) (by decide)).trans rfl) Tryz.func93 (by kernel_rfl) rfl rfl]
  unfold spec_l03Alone.f
  repeat' first
    | (with_reducible first | exact Im.none | refine Im.ite (fun h => ?_) (fun h => ?_) | refine Im.sbind ?_)
    | ((conv => arg 3; whnf); first
      | ((with_reducible refine Im.fin ?_); exact zr) | ((with_reducible refine Im.anyo ?_ ?_); (next => kernel_rfl)) | ((with_reducible refine Im.bite_t ?_ ?_); (next => exact zq)) | ((with_reducible refine Im.bite_f ?_ ?_); (next => exact zq)) | ((with_reducible refine Im.bite_t ?_ ?_); (next => exact zd)) | ((with_reducible refine Im.must ?_ ?_); (next => exact zd)) | ((with_reducible refine Im.bite_f ?_ ?_); (next => exact zd)) | (with_reducible refine Im.byl ?_) | ((with_reducible refine Im.vget ByteArray.empty ?_ ?_ ?_); (next => exact zd); (next => exact zd)) | ((with_reducible refine Im.vget z45 ?_ ?_ ?_); (next => exact zd); (next => exact zd)) | ((with_reducible refine Im.vget (0 : Int) ?_ ?_ ?_); (next => exact zd); (next => exact zd)) | ((with_reducible refine Im.vget false ?_ ?_ ?_); (next => exact zd); (next => exact zd)) | ((with_reducible refine Im.call (spec_ReadVersion.vi hG ?_ _) ?_ (fun r hr => ?_)); (next => omega); (next => exact zr)) | ((with_reducible refine Im.call (spec_l03Below.vi hG ?_ _ _ _ _ _) ?_ (fun r hr => ?_)); (next => omega); (next => exact zr))
      | exact zm | exact zx | fail)
  all_goals skip
theorem spec_l03Caret.vi {m : Nat} {Gv : FuncId → Option (List VV → Option (VV × List VV))} (hG : Base Gv) (hm : 1 ≤ m) (a0_0 : Int) (a0_1 : Int) (a0_2 : Int) (l0_3 : List ByteArray) : Im (fun r => (.int r, [])) (spec_l03Caret.f a0_0 a0_1 a0_2 l0_3) (callv Tryz.prog ti keep Gv m 91 [.ag [.int a0_0, .int a0_1, .int a0_2, .sl (l0_3.map VV.str)]]) := by
  obtain ⟨m, rfl⟩ : ∃ m', m = m' + 1 := ⟨m - 1, by omega⟩
  rw [show callv Tryz.prog ti keep Gv (m + 1) 91 _ = _ from callv_enter ((hG 91 (by decide) (by decide) (by decide)).trans rfl) Tryz.func91 (by kernel_rfl) rfl rfl]
  unfold spec_l03Caret.f
  repeat' first
    | (with_reducible first | exact Im.none | refine Im.ite (fun h => ?_) (fun h => ?_) | refine Im.sbind ?_)
    | ((conv => arg 3; whnf); first
      | ((with_reducible refine Im.fin ?_); exact zr) | ((with_reducible refine Im.anyo ?_ ?_); (next => kernel_rfl)) | ((with_reducible refine Im.bite_t ?_ ?_); (next => exact zq)) | ((with_reducible refine Im.bite_f ?_ ?_); (next => exact zq)) | ((with_reducible refine Im.bite_t ?_ ?_); (next => exact zd)) | ((with_reducible refine Im.must ?_ ?_); (next => exact zd)) | ((with_reducible refine Im.bite_f ?_ ?_); (next => exact zd)) | (with_reducible refine Im.byl ?_) | ((with_reducible refine Im.vget ByteArray.empty ?_ ?_ ?_); (next => exact zd); (next => exact zd)) | ((with_reducible refine Im.vget z45 ?_ ?_ ?_); (next => exact zd); (next => exact zd)) | ((with_reducible refine Im.vget (0 : Int) ?_ ?_ ?_); (next => exact zd); (next => exact zd)) | ((with_reducible refine Im.vget false ?_ ?_ ?_); (next => exact zd); (next => exact zd))
      | exact zm | exact zx | fail)
  all_goals skip
theorem spec_l03From.vi {k m : Nat} {Gv : FuncId → Option (List VV → Option (VV × List VV))} (hG : Base Gv) (hm : k + 7 ≤ m) (a0 : ByteArray) (a1_0 : Int) (a1_1 : Int) (a1_2 : Int) (l1_3 : List ByteArray) (a2 : Int) : Im (fun r => (.tu [.ag [.str r.1, .str r.2.1], .bool r.2.2], [])) (spec_l03From.f k a0 a1_0 a1_1 a1_2 l1_3 a2) (callv Tryz.prog ti keep Gv m 90 [.str a0, .ag [.int a1_0, .int a1_1, .int a1_2, .sl (l1_3.map VV.str)], .int a2]) := by
  obtain ⟨m, rfl⟩ : ∃ m', m = m' + 1 := ⟨m - 1, by omega⟩
  rw [show callv Tryz.prog ti keep Gv (m + 1) 90 _ = _ from callv_enter ((hG 90 (by decide) (by decide) (by decide)).trans rfl) Tryz.func90 (by kernel_rfl) rfl rfl]
  unfold spec_l03From.f
  repeat' first
    | (with_reducible first | exact Im.none | refine Im.ite (fun h => ?_) (fun h => ?_) | refine Im.sbind ?_)
    | ((conv => arg 3; whnf); first
      | ((with_reducible refine Im.fin ?_); exact zr) | ((with_reducible refine Im.anyo ?_ ?_); (next => kernel_rfl)) | ((with_reducible refine Im.bite_t ?_ ?_); (next => exact zq)) | ((with_reducible refine Im.bite_f ?_ ?_); (next => exact zq)) | ((with_reducible refine Im.bite_t ?_ ?_); (next => exact zd)) | ((with_reducible refine Im.must ?_ ?_); (next => exact zd)) | ((with_reducible refine Im.bite_f ?_ ?_); (next => exact zd)) | (with_reducible refine Im.byl ?_) | ((with_reducible refine Im.vget ByteArray.empty ?_ ?_ ?_); (next => exact zd); (next => exact zd)) | ((with_reducible refine Im.vget z45 ?_ ?_ ?_); (next => exact zd); (next => exact zd)) | ((with_reducible refine Im.vget (0 : Int) ?_ ?_ ?_); (next => exact zd); (next => exact zd)) | ((with_reducible refine Im.vget false ?_ ?_ ?_); (next => exact zd); (next => exact zd)) | ((with_reducible refine Im.call (spec_l03Below.vi hG ?_ _ _ _ _ _) ?_ (fun r hr => ?_)); (next => omega); (next => exact zr))
      | exact zm | exact zx | fail)
  all_goals skip
theorem spec_l03Short.vi {k m : Nat} {Gv : FuncId → Option (List VV → Option (VV × List VV))} (hG : Base Gv) (hm : k + 7 ≤ m) (a0 : ByteArray) : Im (fun r => (.tu [.ag [.str r.1, .str r.2.1], .bool r.2.2], [])) (spec_l03Short.f k a0) (callv Tryz.prog ti keep Gv m 94 [.str a0]) := by
  obtain ⟨m, rfl⟩ : ∃ m', m = m' + 1 := ⟨m - 1, by omega⟩
  rw [show callv Tryz.prog ti keep Gv (m + 1) 94 _ = _ from callv_enter ((hG 94 (by decide) (by decide) (by decide)).trans rfl) Tryz.func94 (by kernel_rfl) rfl rfl]
  unfold spec_l03Short.f
  repeat' first
    | ((with_reducible refine Im.nat (fun k => spec_l03Short.j0 k _ _) _ ?_ (fun kj hkj => ?_)); (next => rfl); (conv => arg 2; simp only [spec_l03Short.j0, Bool.false_eq_true, reduceIte])) | ((with_reducible refine Im.nat (fun k => spec_l03Short.j1 k _ _ _ _ _ _ _) _ ?_ (fun kj hkj => ?_)); (next => rfl); (conv => arg 2; simp only [spec_l03Short.j1, Bool.false_eq_true, reduceIte])) | (with_reducible first | exact Im.none | refine Im.ite (fun h => ?_) (fun h => ?_) | refine Im.sbind ?_)
    | ((conv => arg 3; whnf); first
      | ((with_reducible refine Im.fin ?_); exact zr) | ((with_reducible refine Im.anyo ?_ ?_); (next => kernel_rfl)) | ((with_reducible refine Im.bite_t ?_ ?_); (next => exact zq)) | ((with_reducible refine Im.bite_f ?_ ?_); (next => exact zq)) | ((with_reducible refine Im.bite_t ?_ ?_); (next => exact zd)) | ((with_reducible refine Im.must ?_ ?_); (next => exact zd)) | ((with_reducible refine Im.bite_f ?_ ?_); (next => exact zd)) | (with_reducible refine Im.byl ?_) | ((with_reducible refine Im.vget ByteArray.empty ?_ ?_ ?_); (next => exact zd); (next => exact zd)) | ((with_reducible refine Im.vget z45 ?_ ?_ ?_); (next => exact zd); (next => exact zd)) | ((with_reducible refine Im.vget (0 : Int) ?_ ?_ ?_); (next => exact zd); (next => exact zd)) | ((with_reducible refine Im.vget false ?_ ?_ ?_); (next => exact zd); (next => exact zd)) | ((with_reducible refine Im.call (spec_ReadVersion.vi hG ?_ _) ?_ (fun r hr => ?_)); (next => omega); (next => exact zr)) | ((with_reducible refine Im.call (spec_l01Cut.vi hG ?_ _ _) ?_ (fun r hr => ?_)); (next => omega); (next => exact zr)) | ((with_reducible refine Im.call (spec_l01In.vi hG ?_ _ _ _) ?_ (fun r hr => ?_)); (next => omega); (next => exact zr)) | ((with_reducible refine Im.call (spec_l03Below.vi hG ?_ _ _ _ _ _) ?_ (fun r hr => ?_)); (next => omega); (next => exact zr))
      | exact zm | exact zx | fail)
  all_goals skip
theorem spec_l03Is.vi {k m : Nat} {Gv : FuncId → Option (List VV → Option (VV × List VV))} (hG : Base Gv) (hm : k + 7 ≤ m) (a0 : ByteArray) : Im (fun r => (.bool r, [])) (spec_l03Is.f k a0) (callv Tryz.prog ti keep Gv m 66 [.str a0]) := by
  obtain ⟨m, rfl⟩ : ∃ m', m = m' + 1 := ⟨m - 1, by omega⟩
  rw [show callv Tryz.prog ti keep Gv (m + 1) 66 _ = _ from callv_enter ((hG 66 (by decide) (by decide) (by decide)).trans rfl) Tryz.func66 (by kernel_rfl) rfl rfl]
  unfold spec_l03Is.f
  repeat' first
    | (with_reducible first | exact Im.none | refine Im.ite (fun h => ?_) (fun h => ?_) | refine Im.sbind ?_)
    | ((conv => arg 3; whnf); first
      | ((with_reducible refine Im.fin ?_); exact zr) | ((with_reducible refine Im.anyo ?_ ?_); (next => kernel_rfl)) | ((with_reducible refine Im.bite_t ?_ ?_); (next => exact zq)) | ((with_reducible refine Im.bite_f ?_ ?_); (next => exact zq)) | ((with_reducible refine Im.bite_t ?_ ?_); (next => exact zd)) | ((with_reducible refine Im.must ?_ ?_); (next => exact zd)) | ((with_reducible refine Im.bite_f ?_ ?_); (next => exact zd)) | (with_reducible refine Im.byl ?_) | ((with_reducible refine Im.vget ByteArray.empty ?_ ?_ ?_); (next => exact zd); (next => exact zd)) | ((with_reducible refine Im.vget z45 ?_ ?_ ?_); (next => exact zd); (next => exact zd)) | ((with_reducible refine Im.vget (0 : Int) ?_ ?_ ?_); (next => exact zd); (next => exact zd)) | ((with_reducible refine Im.vget false ?_ ?_ ?_); (next => exact zd); (next => exact zd)) | ((with_reducible refine Im.call (spec_ReadVersion.vi hG ?_ _) ?_ (fun r hr => ?_)); (next => omega); (next => exact zr))
      | exact zm | exact zx | fail)
  all_goals skip
end Go.Proofs.YtoidompkofomjaaGreatDoor.VI

end
