/- A part of the proof that the law FnSort answers true at every input that its row speaks of. Conditions: the row's own. -/
import Derived.Test.YtcfeihimmboghaaGreatDoorMFnSort7
import Derived.Test.YtcfeihimmboghaaGreatDoorMFnSort3
import Derived.Test.YtcfeihimmboghaaGreatDoorVMore
import Derived.Test.YtcfeihimmboghaaGreatDoorMFnSort5
import Derived.KernelRfl
import Derived.Laws.Strings
import Derived.Test.YtcfeihimmboghaaGreatDoorProg
import Derived.Test.YtcfeihimmboghaaGreatDoorKFnSort0
import Derived.Test.YtcfeihimmboghaaGreatDoorKFnSort1
import Derived.Test.YtcfeihimmboghaaGreatDoorMFnSort2
import Derived.Test.YtcfeihimmboghaaGreatDoorKFnSort2
section
namespace Go.Proofs.YtcfeihimmboghaaGreatDoor.VI
open Go Go.RowKit
set_option linter.unusedVariables false
set_option linter.unusedSimpArgs false
def unl : List Bool → Nat
  | [] => 0
  | true :: r => unl r
  | false :: r => unl r + 1
theorem unl_set : ∀ (l : List Bool) (i : Nat), l[i]? = some false → unl (l.set i true) + 1 = unl l
  | [], i, h => by simp at h
  | true :: r, 0, h => by simp at h
  | false :: r, 0, h => rfl
  | true :: r, i + 1, h => by rw [List.set_cons_succ]; simp only [unl]; exact unl_set r i (by simpa using h)
  | false :: r, i + 1, h => by rw [List.set_cons_succ]; simp only [unl]; rw [unl_set r i (by simpa using h)]
theorem unl_zero : ∀ (l : List Bool), unl l = 0 → ∀ i : Nat, l[i]? ≠ some false
  | [], h, i => by simp
  | true :: r, h, 0 => by simp
  | false :: r, h, i => by simp [unl] at h
  | true :: r, h, i + 1 => by rw [List.getElem?_cons_succ]; exact unl_zero r (by simpa only [unl] using h) i
theorem unl_rep : ∀ n, unl (List.replicate n false) = n
  | 0 => rfl
  | n + 1 => by rw [List.replicate_succ, unl, unl_rep n]
theorem nat_eq {a b : Nat} (h : ¬ a < b) (k : ¬ b < a) : a = b := by omega
theorem listed_set {L : Array Bool} {i j : Nat} (hi : i < L.size) : (L.setIfInBounds i true).getD j false = true ↔ L.getD j false = true ∨ j = i := by
  simp only [Array.getD_eq_getD_getElem?, Array.getElem?_setIfInBounds]
  by_cases h : i = j
  · subst h; simp [hi]
  · rw [if_neg h]
    have : j ≠ i := fun e => h e.symm
    simp [this]
section
variable {P : Program} {NG : Nat} {GW : World → Prop} {io : List Nat} {w0 : World} {pd0 : Nat → Nat → Prop} {C : Cx} {R : Type} {K : Env → Option R} {r : R} {Q : Exit → Act → World → Prop} {env0 : Env} {ops : Array Oper} {n : Nat} {vals : Nat → VV} {sv : Nat → Option (Nat × VV)}
open Classical in
theorem QS.at {D : Nat → Option Nat} {S S' : Nat → Prop} {e e' : Env} (h : QS D vals env0 n S e) (h' : QS D vals env0 n S' e') {t : Nat} (hs : ∀ (k : Nat), k < n → D k = some t → (S k ↔ S' k)) : get e t = get e' t := by
  by_cases ht : t < env0.length
  · by_cases hx : ∃ (k : Nat), k < n ∧ (D k = some t ∧ S k)
    · obtain ⟨k, h1, ⟨h3, h4⟩, h5⟩ := exists_max n hx
      rw [h.hit k t h1 h3 h4 ht fun j a b c d => h5 j a b ⟨c, d⟩, h'.hit k t h1 h3 ((hs k h1 h3).1 h4) ht fun j a b c d => h5 j a b ⟨c, (hs j b c).2 d⟩]
    · have hm : ∀ (k : Nat), k < n → D k = some t → ¬ S k := fun k h1 h3 h4 => hx ⟨k, h1, h3, h4⟩
      rw [h.miss t hm, h'.miss t fun k h1 h3 h4 => hm k h1 h3 ((hs k h1 h3).2 h4)]
  · have hn : ∀ {e : Env}, e.length = env0.length → get e t = .un := fun he => nth_none (List.getElem?_eq_none (by omega))
    rw [hn h.len, hn h'.len]
theorem vops_step {dr : Option (List Nat)} (hti : TIok P C.ti) (gws : ∀ w w', GW w → Below NG w w' → GW w') (hC : CallOk P NG GW C.call) {G : Gh} {env : Env} {a : Act} {w : World} {i : Nat} {o : Oper} {rest : List Oper} {Nk : Act → World → Prop} (hi : ops[i]? = some o) (hs : Sim NG GW io w0 pd0 G env a w) (h : vops C ops.toList dr (o :: rest) env K = some r) (hN : ∀ G' env' a' w', Sim NG GW io w0 pd0 G' env' a' w' → vops C ops.toList dr rest env' K = some r → Nk a' w') : wpOp P ops Q i Nk a w := by
  have hnext : Nx NG GW io w0 pd0 (fun env' => vops C ops.toList dr rest env' K) r Nk := fun G' env' a' w' hs' h' => hN G' env' a' w' hs' h'
  unfold wpOp
  rw [hi]
  simp only
  rw [vops] at h
  split at h
  · rename_i hg
    have hw : Region.wanted o (yielded ops a.tmps) = true := by simp [Region.wanted, hg]
    rw [if_pos hw]
    exact .inl (vop_sound hti gws hC hs hnext h)
  · rename_i j want hg
    have hskip : ∀ (h2 : vput dr o.dst (.s undef) env (fun env' => vops C ops.toList dr rest env' K) = some r), Nk (a.put o.dst undef) w := fun h2 => hnext _ _ _ _ (hs.put o.dst fun d _ => VR.slot (VR.of_dr (.s _)) d) (vput_some h2)
    split at h
    · rename_i b hb
      have hy := seen_ok hs hb
      rcases bite_some h with ⟨hbw, h⟩ | ⟨hbw, h⟩
      · have hw : Region.wanted o (yielded ops a.tmps) = true := by simp only [Region.wanted, hg, hy]; simpa using hbw
        rw [if_pos hw]
        exact .inl (vop_sound hti gws hC hs hnext h)
      · have hw : ¬ Region.wanted o (yielded ops a.tmps) = true := by simp only [Region.wanted, hg, hy]; simpa using hbw
        rw [if_neg hw]
        exact hskip h
    · rename_i hb
      have hy := seen_ok hs hb
      have hw : ¬ Region.wanted o (yielded ops a.tmps) = true := by simp [Region.wanted, hg, hy]
      rw [if_neg hw]
      exact hskip h
    · cases h
inductive AnySt (C : Cx) (ops : Array Oper) (K : Env → Option R) (r : R) (vals : Nat → VV) (sv : Nat → Option (Nat × VV)) (env0 : Env) (n : Nat) (L : Array Bool) (env : Env) : Prop where
  | quiet (h0 : ∀ j, n ≤ j → L.getD j false = false) (h1 : Down ops.toList L) (h2 : QS (DD ops.toList sv) (VD vals sv) env0 (2 * n) (fun j => L.getD (j / 2) false = true) env)
  | last (j : Nat) (h0 : ∀ i, L.getD i false = true ↔ i < j) (hn : n ≤ j) (hj : j ≤ ops.size) (h1 : vops C ops.toList (some (allocs ops.toList)) (ops.toList.drop j) env K = some r)
theorem any_ok (hti : TIok P C.ti) (gws : ∀ w w', GW w → Below NG w w' → GW w') (hC : CallOk P NG GW C.call) (hO : Ord C ops.toList n)
    (hal0 : (allocs ops.toList).any (fun d => env0.any (refersD d)) = false)
    (hch : vops C ops.toList (some (allocs ops.toList)) (ops.toList.drop n) (chO ops.toList vals sv env0 n) K = some r)
    (hq : ∀ (k : Nat) o, k < n → ops.toList[k]? = some o → QStep P NG GW io w0 pd0 Q ops.toList (allocs ops.toList) k o (chO ops.toList vals sv env0 k) (vals k) (sv k)) (hsv : ∀ k, n ≤ k → sv k = none)
    (hn : Nx NG GW io w0 pd0 K r (Q .normal)) :
    ∀ (fuel : Nat) (L : Array Bool) (G : Gh) (env : Env) (a : Act) (w : World), L.size = ops.size → unl L.toList ≤ fuel → AnySt C ops K r vals sv env0 n L env → Sim NG GW io w0 pd0 G env a w → wpAny P .any ops Q fuel L a w := by
  have wr : ∀ (j : Nat) t, DD ops.toList sv j = some t → j < 2 * n → ∃ o, ops.toList[j / 2]? = some o ∧ Wr ops.toList o t ∧ (j % 2 = 0 → sdOf ops.toList o = some t ∧ plain (get (chO ops.toList vals sv env0 (j / 2)) t) = true ∧ ∃ xs, VD vals sv j = .sl xs) ∧ (j % 2 = 1 → o.dst = some t) := by
    intro j t hj hjn
    have hlt : j / 2 < ops.toList.length := by have := hO.le; omega
    have ho : ops.toList[j / 2]? = some (ops.toList[j / 2]'hlt) := List.getElem?_eq_getElem hlt
    refine ⟨_, ho, ?_⟩
    rcases Nat.mod_two_eq_zero_or_one j with h2 | h2
    · have e : j = 2 * (j / 2) := by omega
      rw [e, DD_even] at hj
      cases hs : sv (j / 2) with
      | none => rw [hs] at hj; cases hj
      | some p =>
        rw [hs] at hj
        obtain ⟨t', s'⟩ := p
        cases hj
        obtain ⟨h3, h4, xs, h5⟩ := (hq (j / 2) _ (by omega) ho).2.2.2.2.1 _ s' hs
        refine ⟨.inr h3, fun _ => ⟨h3, h4, xs, ?_⟩, fun h => by omega⟩
        rw [e, VD_even, hs]
        exact h5
    · have e : j = 2 * (j / 2) + 1 := by omega
      rw [e, DD_odd, ho] at hj
      exact ⟨.inl hj, fun h => by omega, fun _ => hj⟩
  have full : ∀ (L : Array Bool) (G : Gh) (env : Env) (a : Act) (w : World), (∀ i, i < ops.size → L.getD i false = true) → AnySt C ops K r vals sv env0 n L env → Sim NG GW io w0 pd0 G env a w → Q .normal a w := by
    intro L G env a w hf hst hs
    have hl := hO.le
    cases hst with
    | quiet h0 h1 h2 =>
      have hnn : ops.size ≤ n := Nat.le_of_not_lt fun hlt => by have := hf n hlt; rw [h0 n (Nat.le_refl _)] at this; cases this
      have he : env = chO ops.toList vals sv env0 n := h2.uniq ((QS.chain (2 * n) (Nat.le_refl _)).congr fun k hk => ⟨fun _ => hf (k / 2) (by simp at hl; omega), fun _ => hk⟩)
      rw [List.drop_eq_nil_of_le (by simpa using hnn), ← he] at hch
      exact hn _ _ _ _ hs hch
    | last j h0 hnj hj h1 =>
      have : ops.size ≤ j := Nat.le_of_not_lt fun hlt => by have := (h0 j).1 (hf j hlt); omega
      rw [List.drop_eq_nil_of_le (by simpa using this)] at h1
      exact hn _ _ _ _ hs h1
  have noready : ∀ (L : Array Bool), L.size = ops.size → Region.ready .any ops L = [] → ∀ i, i < ops.size → L.getD i false = true := by
    intro L hsz hr i
    induction i using Nat.strongRecOn with
    | _ i ih =>
      intro hi
      by_cases hL : L.getD i false = true
      · exact hL
      · exfalso
        have ho : ops.toList[i]? = some (ops.toList[i]'(by simpa using hi)) := List.getElem?_eq_getElem (by simpa using hi)
        have hm : i ∈ Region.ready .any ops.toList.toArray L := ready_iff.2 ⟨_, ho, by
          simp only [Array.getD_eq_getD_getElem?] at hL ⊢
          rw [Array.getElem?_eq_getElem (by omega)] at hL ⊢
          simpa using hL, fun e he hb => by
            have := hO.edge i _ ho e he hb
            exact ih e.on this (by omega)⟩
        rw [Array.toArray_toList] at hm
        rw [hr] at hm; cases hm
  intro fuel
  induction fuel with
  | zero =>
    intro L G env a w hsz hu hst hs
    have hall : ∀ i, i < ops.size → L.getD i false = true := by
      intro i hi
      have := unl_zero L.toList (by omega) i
      rw [Array.getElem?_toList, Array.getElem?_eq_getElem (by omega)] at this
      rw [Array.getD_eq_getD_getElem?, Array.getElem?_eq_getElem (by omega)]
      simpa using this
    refine ⟨?_, full L G env a w hall hst hs⟩
    refine List.eq_nil_iff_forall_not_mem.2 fun i hi => ?_
    rw [← Array.toArray_toList (xs := ops)] at hi
    obtain ⟨o, ho, h1, h2⟩ := ready_iff.1 hi
    have hlt : i < ops.size := by simpa using (List.getElem?_eq_some_iff.1 ho).1
    have := hall i hlt
    rw [Array.getD_eq_getD_getElem?, Array.getElem?_eq_getElem (by omega)] at this h1
    simp at this h1
    rw [this] at h1; cases h1
  | succ fuel ih =>
    intro L G env a w hsz hu hst hs
    refine ⟨fun hr => full L G env a w (noready L hsz hr) hst hs, fun i hi => ?_⟩
    rw [← Array.toArray_toList (xs := ops)] at hi
    obtain ⟨o, ho, hLi, hre⟩ := ready_iff.1 hi
    have hlt : i < ops.size := by simpa using (List.getElem?_eq_some_iff.1 ho).1
    have hLi' : L.getD i false = false := by
      rw [Array.getD_eq_getD_getElem?, Array.getElem?_eq_getElem (by omega)] at hLi ⊢
      simpa using hLi
    have hget : L.toList[i]? = some false := by
      rw [Array.getD_eq_getD_getElem?, Array.getElem?_eq_getElem (by omega)] at hLi
      rw [Array.getElem?_toList, Array.getElem?_eq_getElem (by omega)]
      simpa using hLi
    have hoa : ops[i]? = some o := by rw [← ho]; simp
    have hsz' : (L.setIfInBounds i true).size = ops.size := by simpa using hsz
    have hu' : unl (L.setIfInBounds i true).toList ≤ fuel := by
      have := unl_set L.toList i hget
      rw [Array.toList_setIfInBounds]; omega
    have hset : ∀ j, (L.setIfInBounds i true).getD j false = true ↔ L.getD j false = true ∨ j = i := fun j => listed_set (by omega)
    have seq : ∀ (j : Nat), (∀ i, L.getD i false = true ↔ i < j) → n ≤ j → j ≤ ops.size → (∀ k, k < i → ((befores ops.toList []).getD i 0).testBit k = true) → Down ops.toList L → vops C ops.toList (some (allocs ops.toList)) (ops.toList.drop j) env K = some r → wpOp P ops Q i (wpAny P .any ops Q fuel (L.setIfInBounds i true)) a w := by
      intro j h0 hnj hj hbs hd h1
      have hij : i = j := by
        have h3 : ¬ i < j := fun h => by have := (h0 i).2 h; rw [hLi'] at this; cases this
        have h4 : ¬ j < i := fun h => by
          have := before_listed hd i o ho hre j (hbs j h)
          have := (h0 j).1 this
          omega
        omega
      subst hij
      rw [List.drop_eq_getElem_cons (by simpa using hlt)] at h1
      have hoe : ops.toList[i]'(by simpa using hlt) = o := by
        have := List.getElem?_eq_getElem (l := ops.toList) (i := i) (by simpa using hlt)
        rw [ho] at this; exact (Option.some.inj this).symm
      rw [hoe] at h1
      refine vops_step hti gws hC hoa hs h1 fun G' env' a' w' hs' h' => ih _ G' env' a' w' hsz' hu' (.last (i + 1) (fun k => ?_) (by omega) (by omega) h') hs'
      rw [hset, h0]; omega
    cases hst with
    | quiet h0 hd0 h2 =>
      by_cases hin : i < n
      ·
        have hQ := hq i o hin ho
        have hch2 := QS.chain (vals := VD vals sv) (D := DD ops.toList sv) (n := 2 * n) (env0 := env0) (2 * i) (by omega)
        have later : ∀ (k : Nat) p d, i < k → k < n → ops.toList[k]? = some p → Wr ops.toList p d → Wr ops.toList o d → ¬ L.getD k false = true := fun k p d hik hk hp h1 h3 h => by
          have := before_listed hd0 k p hp (hd0 k p hp h) i (hO.dist i k o p d hik hk ho hp h3 h1)
          rw [hLi'] at this; cases this
        have hag : Agree ops.toList (allocs ops.toList) o (chO ops.toList vals sv env0 i) env := by
          refine ⟨fun t ht => ?_, fun t cs hta hb => ?_, fun d hd' => ?_, fun d hda => ?_⟩
          · refine h2.at hch2 fun j hj hd => ?_
            obtain ⟨p, hp, hpd, _, _⟩ := wr j t hd hj
            rcases Nat.lt_trichotomy (j / 2) i with hki | hki | hki
            · refine ⟨fun _ => by omega, fun _ => ?_⟩
              cases hb : ((befores ops.toList []).getD i 0).testBit (j / 2)
              · exact absurd (by simpa using ht) ((hO.apart (j / 2) i p o hki hin hp ho hb).1 t hpd)
              · exact before_listed hd0 i o ho hre (j / 2) hb
            · rw [hki]
              exact ⟨fun h => absurd h (by rw [hLi']; decide), fun h => by omega⟩
            · refine ⟨fun h => ?_, fun h => by omega⟩
              exfalso
              cases hb : ((befores ops.toList []).getD (j / 2) 0).testBit i
              · exact absurd (by simpa using ht) ((hO.apart i (j / 2) o p hki (by omega) ho hp hb).2 t hpd)
              · have := before_listed hd0 (j / 2) p hp (hd0 (j / 2) p hp h) i hb
                rw [hLi'] at this; cases this
          · by_cases hx : ∃ (j : Nat), j < 2 * n ∧ DD ops.toList sv j = some t
            · have htl : t < env0.length := by
                refine Nat.lt_of_not_le fun hle => ?_
                rw [get, nth_none (List.getElem?_eq_none (by rw [show (chO ops.toList vals sv env0 i).length = env0.length from hch2.len]; exact hle))] at hb
                cases hb
              by_cases hki : ∃ (j : Nat), j < 2 * n ∧ (DD ops.toList sv j = some t ∧ j < 2 * i)
              · obtain ⟨j, hj, ⟨hd, hji⟩, hmax⟩ := exists_max _ hki
                obtain ⟨p, hp, hpd, hev, hod⟩ := wr j t hd hj
                rw [chO, hch2.hit j t hj hd hji htl fun j' a b c d => hmax j' a b ⟨c, d⟩] at hb
                rcases Nat.mod_two_eq_zero_or_one j with h6 | h6
                · obtain ⟨_, _, xs, h7⟩ := hev h6
                  rw [h7] at hb; cases hb
                · have e : j = 2 * (j / 2) + 1 := by omega
                  rw [e, VD_odd] at hb
                  exact absurd ((hq (j / 2) p (by omega) hp).2.2.1 cs hb t (hod h6)) hta
              · obtain ⟨j0, hj0, hd0'⟩ := hx
                obtain ⟨j, hjle, hd, hmin⟩ := exists_min (p := fun j => DD ops.toList sv j = some t) hd0'
                obtain ⟨p, hp, hpd, hev, hod⟩ := wr j t hd (by omega)
                have hge : ¬ j < 2 * i := fun h => hki ⟨j, by omega, hd, h⟩
                have hchk := QS.chain (D := DD ops.toList sv) (n := 2 * n) (vals := VD vals sv) (env0 := env0) (2 * (j / 2)) (by omega)
                have h5 : get (chO ops.toList vals sv env0 i) t = get env0 t := hch2.miss t fun j' hj' hd' h => hki ⟨j', hj', hd', h⟩
                have h6 : get (chO ops.toList vals sv env0 (j / 2)) t = get env0 t := hchk.miss t fun j' hj' hd' h => hmin j' (by omega) hd'
                have h8 : plain (get (chO ops.toList vals sv env0 (j / 2)) t) = true := by
                  rcases Nat.mod_two_eq_zero_or_one j with h7 | h7
                  · exact (hev h7).2.1
                  · exact (hq (j / 2) p (by omega) hp).1 t (hod h7)
                rw [h6, ← h5, hb] at h8
                cases h8
            · have hm : ∀ (j : Nat), j < 2 * n → DD ops.toList sv j ≠ some t := fun j h1 h4 => hx ⟨j, h1, h4⟩
              rw [chO, hch2.miss t fun j h1 h4 => absurd h4 (hm j h1)] at hb
              rw [h2.miss t fun j h1 h4 => absurd h4 (hm j h1)]
              exact hb
          · have := hQ.1 d hd'
            rw [h2.at hch2 (t := d) fun j hj hd => ?_]
            · exact this
            · obtain ⟨p, hp, hpd, _, _⟩ := wr j d hd hj
              rcases Nat.lt_trichotomy (j / 2) i with hki | hki | hki
              · exact ⟨fun _ => by omega, fun _ => before_listed hd0 i o ho hre (j / 2) (hO.dist (j / 2) i p o d hki hin hp ho hpd (.inl hd'))⟩
              · rw [hki]
                exact ⟨fun h => absurd h (by rw [hLi']; decide), fun h => by omega⟩
              · exact ⟨fun h => absurd h (later (j / 2) p d hki (by omega) hp hpd (.inl hd')), fun h => by omega⟩
          · refine List.any_eq_false.2 fun v hv => ?_
            obtain ⟨t, ht, rfl⟩ := List.getElem_of_mem hv
            have hgt : get env t = env[t] := nth_some (List.getElem?_eq_getElem ht)
            rw [← hgt]
            by_cases hx : ∃ (j : Nat), j < 2 * n ∧ (DD ops.toList sv j = some t ∧ L.getD (j / 2) false = true)
            · obtain ⟨j, hj, ⟨hd, hs4⟩, hmax⟩ := exists_max _ hx
              obtain ⟨p, hp, hpd, hev, hod⟩ := wr j t hd hj
              rw [h2.hit j t hj hd hs4 (by rw [← h2.len]; exact ht) fun j' a b c d => hmax j' a b ⟨c, d⟩]
              rcases Nat.mod_two_eq_zero_or_one j with h6 | h6
              · obtain ⟨_, _, xs, h7⟩ := hev h6
                rw [h7]; simp [refersD, refers]
              · have e : j = 2 * (j / 2) + 1 := by omega
                rw [e, VD_odd]
                have := (hq (j / 2) p (by omega) hp).2.1 d hda (by rw [hod h6]; simp)
                rw [this]; simp
            · rw [h2.miss t fun j h1 h3 h5 => hx ⟨j, h1, h3, h5⟩]
              have h7 := List.any_eq_false.1 hal0 d hda
              have h7' : env0.any (refersD d) = false := by simpa using h7
              have ht0 : t < env0.length := by rw [← h2.len]; exact ht
              have := List.any_eq_false.1 h7' env0[t] (List.getElem_mem _)
              rw [get, nth_some (List.getElem?_eq_getElem ht0)]
              exact this
        have hw := hQ.2.2.2.2.2 env G a w hag hs (wpAny P .any ops Q fuel (L.setIfInBounds i true)) (fun G' a' w' hs' => ih _ G' _ a' w' hsz' hu' (.quiet ?_ ?_ ?_) hs')
        · rwa [Array.toArray_toList] at hw
        · intro j hj
          have : ¬ (L.setIfInBounds i true).getD j false = true := fun h => by
            rcases (hset j).1 h with h | h
            · rw [h0 j hj] at h; cases h
            · omega
          simpa using this
        · intro j p hp hj e he hb
          rw [hset]
          rcases (hset j).1 hj with h | h
          · exact .inl (hd0 j p hp h e he hb)
          · subst h; rw [ho] at hp; cases hp
            exact .inl (hre e he hb)
        · have e2 : 2 * i / 2 = i := by omega
          have st1 := h2.step (k := 2 * i) (by omega) (by rw [e2, hLi']; simp) (fun j d hij hj hd hd2 h => by
            obtain ⟨p, hp, hpd, _, _⟩ := wr j d hd hj
            obtain ⟨p2, hp2, hpd2, _, _⟩ := wr (2 * i) d hd2 (by omega)
            rw [e2, ho] at hp2; cases hp2
            by_cases hji : j / 2 = i
            · rw [hji, hLi'] at h; cases h
            · exact later (j / 2) p d (by omega) (by omega) hp hpd hpd2 h)
          rw [DD_even, VD_even, put_put2] at st1
          have e3 : (2 * i + 1) / 2 = i := by omega
          have st2 := st1.step (k := 2 * i + 1) (by omega) (fun h => by
            rcases h with h | h
            · rw [e3, hLi'] at h; cases h
            · omega) (fun j d hij hj hd hd2 h => by
            obtain ⟨p, hp, hpd, _, _⟩ := wr j d hd hj
            obtain ⟨p2, hp2, hpd2, _, _⟩ := wr (2 * i + 1) d hd2 (by omega)
            rw [e3, ho] at hp2; cases hp2
            rcases h with h | h
            · exact later (j / 2) p d (by omega) (by omega) hp hpd hpd2 h
            · omega)
          rw [DD_odd, VD_odd, ho] at st2
          refine st2.congr fun k hk => ?_
          rw [hset]
          constructor
          · rintro ((h | h) | h)
            · exact .inl h
            · exact .inr (by omega)
            · exact .inr (by omega)
          · rintro (h | h)
            · exact .inl (.inl h)
            · rcases Nat.mod_two_eq_zero_or_one k with h6 | h6
              · exact .inl (.inr (by omega))
              · exact .inr (by omega)
      ·
        have hsol := fun k (hk : k < i) => hO.solid k i (by omega) (by simpa using hlt) hk
        have hall : ∀ k, k < i → L.getD k false = true := fun k hk => before_listed hd0 i o ho hre k (hsol k hk)
        have hni : n = i := by
          refine nat_eq (fun h => ?_) (fun h => by omega)
          have := hall n h
          rw [h0 n (Nat.le_refl _)] at this; cases this
        have hle : ∀ k, L.getD k false = true ↔ k < n := fun k => ⟨fun h => Nat.lt_of_not_le fun hk => absurd h (by rw [h0 k hk]; decide), fun h => hall k (by omega)⟩
        have he : env = chO ops.toList vals sv env0 n := h2.uniq ((QS.chain (2 * n) (Nat.le_refl _)).congr fun k hk => ⟨fun _ => (hle (k / 2)).2 (by omega), fun _ => hk⟩)
        rw [← he] at hch
        exact seq n hle (Nat.le_refl _) (by simpa using hO.le) hsol hd0 hch
    | last j h0 hnj hj h1 =>
      have hd : Down ops.toList L := fun k p hp hk e he hb => by
        have h5 := (h0 k).1 hk
        have := hO.edge k p hp e he hb
        exact (h0 e.on).2 (by omega)
      have hge : n ≤ i := by
        have : ¬ i < j := fun h => by have := (h0 i).2 h; rw [hLi'] at this; cases this
        omega
      exact seq j h0 hnj hj (fun k hk => hO.solid k i hge (by simpa using hlt) hk) hd h1
theorem any_sound (hm : P.follows .mixedOrders = true) (hti : TIok P C.ti) (gws : ∀ w w', GW w → Below NG w w' → GW w') (hC : CallOk P NG GW C.call) : AnyOk P NG GW C := by
  intro R io w0 pd0 G env a w K r Q id ops hO hal hs h hn
  obtain ⟨n, hO⟩ := anyOrder_ord hO
  have hmem : ∀ (k : Nat) o t d, ops.toList[k]? = some o → o.op = .alloc t → o.dst = some d → d ∈ allocs ops.toList := by
    intro k o t d ho hop hd
    unfold allocs
    exact List.mem_filterMap.2 ⟨o, List.mem_of_getElem? ho, by rw [hop]; exact hd⟩
  obtain ⟨vals, sv, h1, h0, h2⟩ := canon (io := io) (w0 := w0) (pd0 := pd0) (Q := Q) hti gws hC hO hmem h n (Nat.le_refl _)
  refine wp_region_any hm (any_ok hti gws hC hO hal h1 h2 h0 hn ops.size _ G env a w.drew (by simp) ?_ (.quiet ?_ ?_ ?_) (hs.drew gws))
  · rw [Array.toList_replicate, unl_rep]; exact Nat.le_refl _
  · intro j hj
    simp only [Array.getD_eq_getD_getElem?, Array.getElem?_replicate]
    split <;> rfl
  · intro j o ho hj
    simp only [Array.getD_eq_getD_getElem?, Array.getElem?_replicate] at hj
    split at hj <;> simp at hj
  · refine ⟨rfl, fun k d hk hd hsk => ?_, fun _ _ => rfl⟩
    simp only [Array.getD_eq_getD_getElem?, Array.getElem?_replicate] at hsk
    split at hsk <;> simp at hsk
end
def kindB : IntKind → IntKind → Bool
  | a, b => decide (a = b)
def zB : Value → Value → Bool
  | .int k 0, .int k' 0 => kindB k k'
  | .bool false, .bool false => true
  | .string ⟨⟨[]⟩⟩, .string ⟨⟨[]⟩⟩ => true
  | .slice none 0 0, .slice none 0 0 => true
  | .pointer none, .pointer none => true
  | _, _ => false
theorem zB_eq {a b : Value} (h : zB a b = true) : a = b ∧ b.oneCell' = true := by
  unfold zB at h
  split at h <;> first
    | (cases h; done)
    | (simp only [kindB, decide_eq_true_eq] at h; subst h; exact ⟨rfl, rfl⟩)
    | exact ⟨rfl, rfl⟩
def zsB : List Value → List Value → Bool
  | [], [] => true
  | a :: r, b :: s => zB a b && zsB r s
  | _, _ => false
theorem zsB_eq : ∀ {a b : List Value}, zsB a b = true → a = b ∧ ∀ v ∈ b, v.oneCell' = true
  | [], [], _ => ⟨rfl, by simp⟩
  | a :: r, b :: s, h => by
    rw [zsB, Bool.and_eq_true] at h
    obtain ⟨rfl, h1⟩ := zB_eq h.1
    obtain ⟨rfl, h2⟩ := zsB_eq h.2
    exact ⟨rfl, by intro v hv; rcases List.mem_cons.1 hv with rfl | hv; exact h1; exact h2 v hv⟩
  | [], _ :: _, h => by simp [zsB] at h
  | _ :: _, [], h => by simp [zsB] at h
def fsB (P : Program) : List Field → List (Nat × Nat) → Bool
  | [], [] => true
  | f :: r, (o, z) :: s => Nat.beq f.offset o && ((match P.info? f.type with
    | some inf => Nat.beq inf.size z
    | none => false) && fsB P r s)
  | _, _ => false
theorem fsB_ok {P : Program} : ∀ {l : List Field} {fs : List (Nat × Nat)}, fsB P l fs = true → l.length = fs.length ∧ ∀ (j : Nat) o z, fs[j]? = some (o, z) → ∃ f inf, l[j]? = some f ∧ f.offset = o ∧ P.info? f.type = some inf ∧ inf.size = z
  | [], [], _ => ⟨rfl, by simp⟩
  | f :: r, (o, z) :: s, h => by
    rw [fsB, Bool.and_eq_true, Bool.and_eq_true] at h
    obtain ⟨h1, h2, h3⟩ := h
    obtain ⟨hl, h4⟩ := fsB_ok h3
    refine ⟨by simp [hl], fun j o' z' hj => ?_⟩
    cases j with
    | zero =>
      simp at hj
      obtain ⟨rfl, rfl⟩ := hj
      split at h2
      · rename_i inf hi
        exact ⟨f, inf, rfl, Nat.eq_of_beq_eq_true h1, hi, Nat.eq_of_beq_eq_true h2⟩
      · cases h2
    | succ j => exact h4 j o' z' (by simpa using hj)
  | [], _ :: _, h => by simp [fsB] at h
  | _ :: _, [], h => by simp [fsB] at h
def infoB (P : Program) (t : TypeId) (i : TI) : Bool := match P.info? t with
  | some inf => (match inf.zero with
    | some z => zsB z.cells.toList i.zero && (Nat.beq inf.size i.sz && (Nat.beq inf.bytes i.bytes && (Nat.beq i.zero.length i.sz && (match i.k with
      | .agg _ => (match z with
        | .agg _ => true
        | _ => false)
      | _ => Nat.beq i.sz 1))))
    | none => false)
  | none => false
def undB (P : Program) (t : TypeId) : TK → Bool
  | .agg fs => (match P.underlying t with
    | some (.struct fields) => fsB P fields.toList fs
    | _ => false)
  | .slice e => (match P.underlying t with
    | some (.slice e') => Nat.beq e' e
    | _ => false)
  | .str => (match P.underlying t with
    | some .string => true
    | _ => false)
  | .bool => (match P.underlying t with
    | some .bool => true
    | _ => false)
  | .int k => (match P.underlying t with
    | some (.int k') => kindB k' k
    | _ => false)
  | .ptr => (match P.underlying t with
    | some (.pointer _) => true
    | _ => false)
def look : List (TypeId × TI) → TypeId → Option TI
  | [], _ => none
  | (u, i) :: r, t => match Nat.beq u t with
    | true => some i
    | false => look r t
theorem look_all {q : TypeId × TI → Bool} : ∀ {l : List (TypeId × TI)} {t : TypeId} {i : TI}, l.all q = true → look l t = some i → q (t, i) = true
  | [], t, i, _, h => by cases h
  | (u, j) :: r, t, i, ha, h => by
    rw [List.all_cons, Bool.and_eq_true] at ha
    rw [look] at h
    split at h
    · rename_i hb
      cases h
      have := Nat.eq_of_beq_eq_true hb
      subst this
      exact ha.1
    · exact look_all ha.2 h
theorem TIok.of {P : Program} {l : List (TypeId × TI)} (h1 : l.all (fun p => infoB P p.1 p.2) = true) (h2 : l.all (fun p => undB P p.1 p.2.k) = true) : TIok P (look l) := by
  refine ⟨fun t i h => ?_, fun t i h => ?_⟩
  · have := look_all h1 h
    simp only [infoB] at this
    split at this
    case h_2 => cases this
    rename_i inf hinf
    split at this
    case h_2 => cases this
    rename_i z hz
    simp only [Bool.and_eq_true] at this
    obtain ⟨a, b, c, d, e⟩ := this
    obtain ⟨a1, a2⟩ := zsB_eq a
    refine ⟨inf, z, hinf, hz, a1, Nat.eq_of_beq_eq_true b, Nat.eq_of_beq_eq_true c, Nat.eq_of_beq_eq_true d, a2, ?_⟩
    cases hk : i.k <;> simp only [hk] at e ⊢ <;> first
      | exact Nat.eq_of_beq_eq_true e
      | (split at e
         · exact ⟨_, rfl⟩
         · cases e)
  · have := look_all h2 h
    simp only at this
    cases hk : i.k <;> simp only [hk, undB] at this ⊢ <;> split at this <;> first
      | (cases this; done)
      | (rename_i h3; exact h3)
      | (rename_i h3; exact ⟨_, h3⟩)
      | (rename_i h3; simp only [kindB, decide_eq_true_eq] at this; rw [h3, this])
      | (rename_i h3; rw [h3, Nat.eq_of_beq_eq_true this])
      | (rename_i h3
         obtain ⟨h4, h5⟩ := fsB_ok this
         exact ⟨_, h3, by simpa using h4, fun j o z hj => by
          obtain ⟨f, inf, h6, h7⟩ := h5 j o z hj
          exact ⟨f, inf, by simpa using h6, h7⟩⟩)
end Go.Proofs.YtcfeihimmboghaaGreatDoor.VI

end
section
namespace Go.Proofs.YtcfeihimmboghaaGreatDoor.VI
open Go Go.RowKit Go.Proofs.YtcfeihimmboghaaGreatDoorW.PrintWords
set_option linter.unusedVariables false
set_option linter.unusedSimpArgs false
abbrev anyP : Nat → Nat → Prop := fun _ _ => True
structure KV {α : Type} (d : Kd α) (enc : α → List VV) : Prop where
  pos : 0 < d.sz
  len : ∀ x, (enc x).length = d.sz
  rel : ∀ {w x cs}, d.K w x cs → DRs anyP w (enc x) cs
theorem kv_scalar {α : Type} {mk : α → Value} {h1 : ∀ x, (mk x).oneCell' = true} : KV (Kd.scalar mk h1) (fun x => [.s (mk x)]) :=
  ⟨Nat.one_pos, fun _ => rfl, fun {w x cs} h => by cases h; exact .cons _ _ _ _ (.s _) .nil⟩
theorem kv_string : KV Kd.string (fun x => [VV.str x]) := kv_scalar (h1 := fun _ => rfl)
theorem kv_bool : KV Kd.bool (fun x => [VV.bool x]) := kv_scalar (h1 := fun _ => rfl)
theorem kv_int : KV (Kd.int .i64) (fun x => [VV.int x]) := kv_scalar (h1 := fun _ => rfl)
theorem kv_byte : KV (Kd.int .u8) (fun x => [VV.byte x]) := kv_scalar (h1 := fun _ => rfl)
theorem dr_row {α : Type} {d : Kd α} {enc : α → VV} (h : KV d (fun x => (enc x).cells)) {w : World} {A : Option Addr} {xs : List α} {c : Nat} (hc : xs.length ≤ c) (hr : Kd.C d w A xs.length xs) : DR anyP w (.sl (xs.map enc)) (.slice A xs.length c) := by
  obtain ⟨_, hm, hA⟩ := hr
  by_cases h0 : xs.length = 0
  · obtain rfl := List.eq_nil_of_length_eq_zero h0
    exact .sl0 _ _
  obtain ⟨ad, rfl, hrow⟩ := hA (by omega)
  have hsp : ad.spot = none := by
    obtain ⟨cs, hl, _, hcell⟩ := hrow 0 _ (List.getElem?_eq_getElem (by omega))
    have hp := h.pos
    have h1 := hcell 0 _ (List.getElem?_eq_getElem (by omega))
    rw [Nat.zero_mul, Nat.zero_add] at h1
    have h2 : ad.add 0 = ad := by simp [Addr.add]
    rw [h2] at h1
    unfold World.cell? at h1
    split at h1
    · cases hs : ad.spot with
      | none => rfl
      | some _ => rw [hs] at h1; simp at h1
    · cases h1
  obtain ⟨g, off, sp⟩ := ad
  subst hsp
  have key : ∀ (ys : List α) (j0 : Nat), (∀ j p, ys[j]? = some p → ∃ c, c.length = d.sz ∧ d.K w p c ∧ ∀ i u, c[i]? = some u → w.cell? ((⟨g, off, none⟩ : Addr).add ((j0 + j) * d.sz + i)) = some u) → ∃ ms : List Value, DRs anyP w (ys.flatMap fun x => (enc x).cells) ms ∧ (∀ u ∈ ms, u.oneCell' = true) ∧ ∀ (k : Nat) u, ms[k]? = some u → w.cell? ⟨g, off + (j0 * d.sz + k), none⟩ = some u := by
    intro ys
    induction ys with
    | nil => intro j0 _; exact ⟨[], .nil, by simp, fun k u hk => by simp at hk⟩
    | cons y r ih =>
      intro j0 hy
      obtain ⟨c, hl, hK, hcell⟩ := hy 0 y rfl
      obtain ⟨ms, h1, h2, h3⟩ := ih (j0 + 1) fun j p hp => by
        obtain ⟨c', q1, q2, q3⟩ := hy (j + 1) p (by simpa using hp)
        refine ⟨c', q1, q2, fun i u hu => ?_⟩
        have := q3 i u hu
        rw [show j0 + (j + 1) = j0 + 1 + j by omega] at this
        exact this
      refine ⟨c ++ ms, by rw [List.flatMap_cons]; exact (h.rel hK).app h1, fun u hu => ?_, fun k u hu => ?_⟩
      · rcases List.mem_append.1 hu with hu | hu
        · exact d.K_one hK u hu
        · exact h2 u hu
      · by_cases hk : k < c.length
        · rw [List.getElem?_append_left hk] at hu
          have := hcell k u hu
          rw [Nat.add_zero] at this
          have hadd : ∀ n, (⟨g, off, none⟩ : Addr).add n = ⟨g, off + n, none⟩ := fun n => by unfold Addr.add; split <;> simp_all
          rw [hadd] at this
          exact this
        · rw [List.getElem?_append_right (by omega)] at hu
          have := h3 (k - c.length) u hu
          rw [show off + ((j0 + 1) * d.sz + (k - c.length)) = off + (j0 * d.sz + k) by rw [Nat.add_mul]; omega] at this
          exact this
  obtain ⟨ms, h1, h2, h3⟩ := key xs 0 (fun j p hp => by rw [Nat.zero_add]; exact hrow j p hp)
  have := DR.sl (pd := anyP) (w := w) (xs.map enc) g off c d.sz ms (by simpa using hc) (by simpa [maxLen] using hm) (by
      intro x hx
      obtain ⟨y, _, rfl⟩ := List.mem_map.1 hx
      exact h.len y) (by rw [List.flatMap_map]; exact h1) h2 fun k u hu => ⟨by have := h3 k u hu; rw [Nat.zero_mul, Nat.zero_add] at this; exact this, trivial⟩
  rw [List.length_map] at this
  exact this
theorem kv_slice {α : Type} {e : Nat} {d : Kd α} {enc : α → VV} (h : KV d (fun x => (enc x).cells)) : KV (Kd.slice e d) (fun xs => [.sl (xs.map enc)]) :=
  ⟨Nat.one_pos, fun _ => rfl, fun {w xs cs} hK => by
    obtain ⟨A, c, rfl, hl, hr⟩ := hK
    exact .cons _ _ _ _ (dr_row h hl hr) .nil⟩
theorem kv_pair {α β : Type} {a : Kd α} {b : Kd β} {ea : α → List VV} {eb : β → List VV} (h : KV a ea) (k : KV b eb) : KV (Kd.pair a b) (fun x => ea x.1 ++ eb x.2) :=
  ⟨by show 0 < a.sz + b.sz; have := h.pos; omega, fun x => by show (ea x.1 ++ eb x.2).length = a.sz + b.sz; rw [List.length_append, h.len, k.len], fun {w x cs} hK => by
    obtain ⟨c0, c1, rfl, h0, h1⟩ := hK
    exact (h.rel h0).app (k.rel h1)⟩
theorem kv_iso {α β : Type} {d : Kd α} {f : β → α} {ea : α → List VV} {eb : β → List VV} (h : KV d ea) (he : ∀ x, eb x = ea (f x)) : KV (Kd.iso d f) eb :=
  ⟨h.pos, fun x => by rw [he]; exact h.len _, fun {w x cs} hK => by rw [he]; exact h.rel hK⟩
section
variable {P : Program} {NG : Nat} {GW : World → Prop} {f : FuncId}
theorem dr_nbx {pd : Nat → Nat → Prop} {w : World} {v : VV} {m : Value} (h : DR pd w v m) (cs : List VV) : v ≠ .bx cs := by cases h <;> exact fun e => VV.noConfusion e
theorem dr_arg {H : Gh} {w : World} {v : VV} {m : Value} (h : DR H.pd w v m) : ArgR H w v m := by cases h <;> (show DR H.pd w _ _) <;> constructor <;> assumption
theorem CallOk1.calls {vs : List VV} {ms : List Value} {v : Value} {w : World} (h : CallOk1 P NG GW f vs (.s v, [])) (hgw : GW w) (hng : NG ≤ w.heap.size) (ha : DRs anyP w vs ms) : Calls P f ms.toArray w fun e w' => e = .returned v ∧ Below w.heap.size w w' := by
  have hnb : ∀ x ∈ vs, ∀ cs, x ≠ .bx cs := fun x hx cs => by
    obtain ⟨i, hi, rfl⟩ := List.getElem_of_mem hx
    obtain ⟨m, _, hd⟩ := ha.get (List.getElem?_eq_getElem hi)
    exact dr_nbx hd cs
  have hio := ioB_none vs ms hnb
  have := h.2 w ms ⟨anyP, anyP, fun _ => 0, fun _ => none, 0⟩ hgw hng ha.length (fun i x m hx hm => dr_arg (H := ⟨anyP, anyP, fun _ => 0, fun _ => none, 0⟩) (ha.at hx hm)) (by rw [hio]; exact List.nodup_nil) (by rw [hio]; simp) (by rw [hio]; simp) (fun _ _ h => h)
  refine this.mono fun e w' he => ?_
  obtain ⟨m, rfl, hfr, pd', _, hres, _⟩ := he
  have hd : DR pd' w' (.s v) m := hres
  cases hd
  exact ⟨rfl, hfr.os, hfr.tape, hfr.output, hfr.size, fun k hk => hfr.block k hk (by rw [hio]; simp)⟩
end
section
variable {P : Program} {NG : Nat} {GW : World → Prop} {f : FuncId}
theorem CallOk1.callsG {vs : List VV} {ms : List Value} {r : VV} {w : World} (h : CallOk1 P NG GW f vs (r, [])) (hgw : GW w) (hng : NG ≤ w.heap.size) (ha : DRs anyP w vs ms) : Calls P f ms.toArray w fun e w' => ∃ m pd', e = .returned m ∧ ResR w.heap.size pd' w' r m ∧ Below w.heap.size w w' := by
  have hnb : ∀ x ∈ vs, ∀ cs, x ≠ .bx cs := fun x hx cs => by
    obtain ⟨i, hi, rfl⟩ := List.getElem_of_mem hx
    obtain ⟨m, _, hd⟩ := ha.get (List.getElem?_eq_getElem hi)
    exact dr_nbx hd cs
  have hio := ioB_none vs ms hnb
  have := h.2 w ms ⟨anyP, anyP, fun _ => 0, fun _ => none, 0⟩ hgw hng ha.length (fun i x m hx hm => dr_arg (H := ⟨anyP, anyP, fun _ => 0, fun _ => none, 0⟩) (ha.at hx hm)) (by rw [hio]; exact List.nodup_nil) (by rw [hio]; simp) (by rw [hio]; simp) (fun _ _ h => h)
  refine this.mono fun e w' he => ?_
  obtain ⟨m, rfl, hfr, pd', _, hres, _⟩ := he
  exact ⟨m, pd', rfl, hres, hfr.os, hfr.tape, hfr.output, hfr.size, fun k hk => hfr.block k hk (by rw [hio]; simp)⟩
theorem CallOk1.callsT {vs : List VV} {ms : List Value} (ls : List Value) {w : World} (h : CallOk1 P NG GW f vs (.tu (ls.map VV.s), [])) (hgw : GW w) (hng : NG ≤ w.heap.size) (ha : DRs anyP w vs ms) : Calls P f ms.toArray w fun e w' => e = .returned (.tuple ls.toArray) ∧ Below w.heap.size w w' := by
  refine (h.callsG hgw hng ha).mono fun e w' he => ?_
  obtain ⟨m, pd', rfl, hres, hb⟩ := he
  have hd : DR pd' w' (.tu (ls.map VV.s)) m := hres
  cases hd with
  | tu cs us hr =>
    rw [drs_s ls hr]
    exact ⟨rfl, hb⟩
theorem CallOk1.callsR {vs : List VV} {ms : List Value} {α : Type} {enc : α → Value} {h1 : ∀ x, (enc x).oneCell' = true} {e : Nat} {xs : List α} {w : World} (h : CallOk1 P NG GW f vs (.ow e 1 (xs.map fun x => .s (enc x)), [])) (hgw : GW w) (hng : NG ≤ w.heap.size) (ha : DRs anyP w vs ms) : Calls P f ms.toArray w fun ex w' => ∃ v0 : Value, ex = .returned v0 ∧ Kd.R (Kd.scalar enc h1) e w' w.heap.size (fun _ => True) v0 xs ∧ Below w.heap.size w w' := by
  refine (h.callsG hgw hng ha).mono fun ex w' he => ?_
  obtain ⟨m, pd', rfl, hres, hb⟩ := he
  obtain ⟨us, ho, hr, hz, hu, hl, hg⟩ := hres
  have e2 : (xs.map fun x => VV.s (enc x)).flatMap VV.cells = (xs.map enc).map VV.s := by
    clear h ho hr hz hu hl hg
    induction xs with
    | nil => rfl
    | cons x xs ih => rw [List.map_cons, List.flatMap_cons, ih]; rfl
  rw [e2] at hr
  obtain rfl := drs_s _ hr
  rw [List.length_map] at ho
  exact ⟨m, rfl, Kd.R_of_own ho (fun _ _ => trivial), hb⟩
end
end Go.Proofs.YtcfeihimmboghaaGreatDoor.VI

end
section
namespace Go.Proofs.YtcfeihimmboghaaGreatDoor.VI
open Go
set_option linter.unusedSimpArgs false
set_option linter.unusedVariables false
def Im {α β : Type} (e : α → β) (x : Option α) (y : Option β) : Prop := ∀ r, x = some r → y = some (e r)
section
variable {α β γ δ : Type} {e : α → β} {x : Option α} {y z : Option β}
theorem Im.none : Im e .none y := fun _ h => by cases h
theorem Im.ret {r : α} (h : y = some (e r)) : Im e (some r) y := fun s hs => by cases hs; exact h
theorem Im.sbind {a : γ} {f : γ → Option α} (h : Im e (f a) y) : Im e ((some a).bind f) y := h
theorem Im.ite {c : Prop} [Decidable c] {a b : Option α} (ht : c → Im e a y) (hf : ¬ c → Im e b y) : Im e (if c then a else b) y := by
  by_cases h : c
  · rw [if_pos h]; exact ht h
  · rw [if_neg h]; exact hf h
theorem Im.iteB {c : Bool} {a b : Option α} (ht : c = true → Im e a y) (hf : c = false → Im e b y) : Im e (if c = true then a else b) y := by
  cases c
  · exact hf rfl
  · exact ht rfl
theorem Im.bite_t {b : Bool} (hb : b = true) (h : Im e x y) : Im e x (bite b y z) := by subst hb; exact h
theorem Im.bite_f {b : Bool} (hb : b = false) (h : Im e x z) : Im e x (bite b y z) := by subst hb; exact h
theorem Im.must {b : Bool} (hb : b = true) (h : Im e x y) : Im e x (VI.must b y) := by subst hb; exact h
theorem Im.bite_s {b : Bool} (ht : b = true → Im e x y) (hf : b = false → Im e x z) : Im e x (bite b y z) := by
  cases b
  · exact hf rfl
  · exact ht rfl
theorem Im.bind {e' : γ → δ} {u : Option γ} {v : Option δ} {f : γ → Option α} {g : δ → Option β} (h : Im e' u v) (k : ∀ a, u = some a → Im e (f a) (g (e' a))) : Im e (u.bind f) (obind v g) := by
  intro r hr
  obtain ⟨a, ha, hr⟩ := Option.bind_eq_some_iff.1 hr
  rw [h a ha]
  exact k a ha r hr
end
end Go.Proofs.YtcfeihimmboghaaGreatDoor.VI

end
section
namespace Go.Proofs.YtcfeihimmboghaaGreatDoor.VI
open Go Go.RowKit Go.Proofs.YtcfeihimmboghaaGreatDoorW.PrintWords
set_option linter.unusedVariables false
set_option linter.unusedSimpArgs false
theorem frc1_eq' {α : Type} (v : VV) (k : VV → α) : frc1 v k = k v := by cases v <;> rfl
theorem frcL_eq' {α : Type} : ∀ (l : List VV) (k : List VV → α), frcL l k = k l
  | [], _ => rfl
  | v :: r, k => by rw [frcL, frc1_eq', frcL_eq' r]
theorem clr_clr : ∀ (l : List Nat) (env : Env) (i : Nat), clr l i (clr l i env) = clr l i env
  | l, [], i => rfl
  | l, v :: r, i => by
    simp only [clr]
    rw [clr_clr l r (i + 1)]
    split <;> rfl
theorem clear_clear (l : Option (List Nat)) (env : Env) : clear l (clear l env) = clear l env := by
  cases l with
  | none => rfl
  | some l => exact clr_clr l env 0
section
variable {α β γ δ : Type} {e : α → β} {x : Option α} {y z : Option β}
theorem iter_clear {l : Option (List Nat)} {g : Env → (Exit → Env → Option β) → Option β} {K : Exit → Env → Option β} : ∀ {M : Nat} {env : Env}, iter (fun env' K' => clearK l env' fun e => g e K') M env K = iter (fun env' K' => clearK l env' fun e => g e K') M (clear l env) K
  | 0, _ => rfl
  | M + 1, env => by simp only [iter, clearK, frcL_eq', clear_clear]
theorem Im.loop {σ : Type} {l : Option (List Nat)} {g : Env → (Exit → Env → Option β) → Option β} {K : Exit → Env → Option β} (S : σ → Env) (L : Nat → σ → Option α) (k0 : Nat) (h0 : ∀ s, L 0 s = Option.none)
    (hs : ∀ k M s, k + 1 ≤ k0 → k ≤ M → (∀ k' s' env, k' ≤ k → clear l env = S s' → Im e (L k' s') (iter (fun env' K' => clearK l env' fun e => g e K') M env K)) → Im e (L (k + 1) s) (iter (fun env' K' => clearK l env' fun e => g e K') (M + 1) (S s) K)) :
    ∀ k M s env, k ≤ k0 → k ≤ M → clear l env = S s → Im e (L k s) (iter (fun env' K' => clearK l env' fun e => g e K') M env K) := by
  intro k
  induction k using Nat.strongRecOn with
  | _ k IH =>
    intro M s env hk hM hc
    cases k with
    | zero => rw [h0]; exact Im.none
    | succ k =>
      obtain ⟨M, rfl⟩ : ∃ M', M = M' + 1 := ⟨M - 1, by omega⟩
      rw [iter_clear, hc]
      exact hs k M s hk (by omega) fun k' s' env' hk' hc' => IH k' (by omega) M s' env' (by omega) (by omega) hc'
theorem Im.nat (F : Nat → Option α) (k : Nat) (h0 : F 0 = Option.none) (hs : ∀ k', k = k' + 1 → Im e (F (k' + 1)) y) : Im e (F k) y := by
  cases k with
  | zero => rw [h0]; exact Im.none
  | succ k => exact hs k rfl
theorem Im.vget {τ : Type} {l : List τ} {enc : τ → VV} {i : Int} {f : VV → Option β} (d : τ) (h0 : 0 ≤ i) (h1 : i < (l.length : Int)) (h : Im e x (f (enc (rdOf d l i)))) : Im e x (vget (l.map enc) i f) := by
  unfold VI.vget
  have hl : i.toNat < l.length := by omega
  rw [List.getElem?_map, List.getElem?_eq_getElem hl]
  simp only [Option.map_some]
  unfold rdOf at h
  rw [List.getD_eq_getElem?_getD, List.getElem?_eq_getElem hl] at h
  exact h
theorem Im.anyo {C : Cx} {l : List Oper} (h : anyOrder C l = true) (k : Im e x y) : Im e x (bite (anyOrder C l) y z) := Im.bite_t h k
theorem Im.fin {b : β} {r : α} (h : b = e r) : Im e (some r) (some b) := Im.ret (congrArg some h)
theorem Im.call {e' : γ → VV × List VV} {u : Option γ} {fn : List VV → Option (VV × List VV)} {us bs : List VV} {f : γ → Option α} {g : VV × List VV → Option β} (h : Im e' u (fn bs)) (ha : us = bs) (k : ∀ a, u = some a → Im e (f a) (g (e' a))) : Im e (u.bind f) (obind (fn us) g) := by
  subst ha
  exact Im.bind h k
end
theorem byL_of : ∀ l : List Int, byL (l.map VV.byte) = some l
  | [] => rfl
  | n :: r => by
    show obind (byL (r.map VV.byte)) _ = _
    rw [byL_of r]
    rfl
theorem Im.byl {α β : Type} {e : α → β} {x : Option α} {l : List Int} {f : List Int → Option β} (h : Im e x (f l)) : Im e x (obind (byL (l.map VV.byte)) f) := by
  rw [byL_of]
  exact h
theorem wr_i64 (n : Int) : wr .i64 n = wrap64 n := rfl
theorem wr_u8 (n : Int) : wr .u8 n = n % 256 := rfl
theorem bt_bt (s : ByteArray) (i : Int) : VI.bt s i = Go.Proofs.YtcfeihimmboghaaGreatDoorW.PrintWords.bt s i := rfl
theorem ba_size (a : Array UInt8) : (⟨a⟩ : ByteArray).size = a.size := rfl
theorem ba_toList (a : Array UInt8) : (⟨a⟩ : ByteArray).toList = a.toList := by
  rw [Go.ByteArray.toList_eq]
theorem rd_rdOf (xs : List Int) (i : Int) : Go.Proofs.YtcfeihimmboghaaGreatDoorW.PrintWords.rd xs i = rdOf 0 xs i := rfl
theorem u8_bits : IntKind.bits .u8 = 8 := rfl
theorem fdiv_16 (x : Int) : x.fdiv 16 = x / 16 := Int.fdiv_eq_ediv_of_nonneg x (by decide)
theorem fdiv_16b (x : Int) : x.fdiv (2 ^ min (Int.toNat 4) 8) = x / 16 := Int.fdiv_eq_ediv_of_nonneg x (by decide)
theorem bits_and8 (x y : Int) : IntKind.wrap .u8 ((BitVec.ofInt 8 x &&& BitVec.ofInt 8 y).toNat : Int) = Go.bits .and .u8 x y := rfl
theorem bits_and (x y : Int) : IntKind.wrap .u8 ((BitVec.ofInt IntKind.u8.bits x &&& BitVec.ofInt IntKind.u8.bits y).toNat : Int) = Go.bits .and .u8 x y := rfl
theorem and_t {a b : Bool} (h : a = true) (k : b = true) : (a && b) = true := by rw [h, k]; rfl
theorem all_cells {α : Type} {enc : α → VV} {z : Nat} {l : List α} (h : ∀ x, Nat.beq (enc x).cells.length z = true) : ((l.map enc).all fun v => Nat.beq v.cells.length z) = true := by
  rw [List.all_map, List.all_eq_true]
  exact fun x _ => h x
theorem cells_str (b : ByteArray) : (VV.str b).cells = [VV.str b] := rfl
theorem beq_self (n : Nat) : Nat.beq n n = true := Nat.beq_refl n
noncomputable def limF {α : Type} (g : Nat → Option α) : Option α := open Classical in if h : ∃ k r, g k = some r then some (Classical.choose (Classical.choose_spec h)) else none
theorem limF_up {α : Type} {g : Nat → Option α} (hm : ∀ k, LeO (g k) (g (k + 1))) {r : α} : ∀ (d k : Nat), g k = some r → g (k + d) = some r
  | 0, k, h => h
  | d + 1, k, h => hm (k + d) r (limF_up hm d k h)
theorem limF_inv {α : Type} {g : Nat → Option α} {r : α} (h : limF g = some r) : ∃ k, g k = some r := by
  unfold limF at h
  split at h
  · rename_i hx
    cases h
    exact ⟨_, Classical.choose_spec (Classical.choose_spec hx)⟩
  · cases h
theorem limF_some {α : Type} {g : Nat → Option α} (hm : ∀ k, LeO (g k) (g (k + 1))) {k : Nat} {r : α} (h : g k = some r) : limF g = some r := by
  have hx : ∃ k r, g k = some r := ⟨k, r, h⟩
  have e : limF g = some (Classical.choose (Classical.choose_spec hx)) := by unfold limF; rw [dif_pos hx]
  rw [e]
  obtain ⟨j, hj⟩ := limF_inv e
  have h1 := limF_up hm j k h
  have h2 := limF_up hm k j hj
  rw [Nat.add_comm j k, h1] at h2
  exact h2.symm
theorem Im.vopc {α β : Type} {e : α → β} {x : Option α} {C : Cx} {ops : List Oper} {dr : Option (List Nat)} {o : Oper} {env env2 : Env} {K : Env → Option β} (h : ∀ K' : Env → Option β, vop C ops dr o env K' = K' env2) (k : Im e x (K env2)) : Im e x (vop C ops dr o env K) := by rw [h]; exact k
def nlw (e : Nat) (b : Bool) (l : List ByteArray) : VV := match b, l with
  | true, [] => .nl
  | _, l => .ow e 1 (l.map VV.str)
theorem nlw_f (e : Nat) (l : List ByteArray) : nlw e false l = .ow e 1 (l.map VV.str) := rfl
theorem nlw_t (e : Nat) (a : ByteArray) (l : List ByteArray) : nlw e true (a :: l) = .ow e 1 ((a :: l).map VV.str) := rfl
theorem nlw_n (e : Nat) : nlw e true [] = .nl := rfl
theorem zr {P : Prop} (h : P := by first | (first | rfl | (simp only [List.length_map, List.length_set, List.length_replicate, List.map_append, List.map_set, List.map_cons, List.map_nil, List.map_replicate, List.map_take, List.map_drop, wr_i64, wr_u8, bt_bt, rd_rdOf, u8_bits, fdiv_16, fdiv_16b, bits_and, bits_and8, ba_toList, bne, Int.zero_sub, nlw_f, nlw_t, nlw_n, List.cons_append]; first | done | rfl)) | fail) : P := h
theorem zq {P : Prop} (h : P := by first | assumption | exact decide_eq_true (by assumption) | exact decide_eq_false (by assumption) | ((try clear ih1); (try clear ih2); (try clear ih3); simp only [*, decide_true, decide_false, Bool.beq_true, Bool.beq_false, Bool.not_true, Bool.not_false, beq_self_eq_true, Bool.true_and, Bool.and_true, Bool.eq_false_iff, ne_eq, not_false_eq_true, not_true_eq_false, Bool.not_eq_true', Bool.not_eq_eq_eq_not, Bool.not_true, Bool.not_false, Bool.and_false, Bool.false_and]; done) | fail) : P := h
theorem zd {P : Prop} (h : P := by first | (((try clear ih1); (try clear ih2); (try clear ih3); first | assumption | exact decide_eq_true (by assumption) | exact decide_eq_false (by assumption) | (simp [*, wr_i64, wr_u8, bt_bt, rd_rdOf, u8_bits, fdiv_16, fdiv_16b, bits_and, bits_and8, ba_size, ba_toList, bndOk, VV.cells, Nat.beq_eq]; done) | (simp [*, wr_i64, wr_u8, bt_bt, rd_rdOf, u8_bits, fdiv_16, fdiv_16b, bits_and, bits_and8, ba_size, ba_toList, bndOk, VV.cells, Nat.beq_eq]; omega) | ((try simp only [← List.map_take, ← List.map_drop]); refine and_t ?_ (all_cells (fun _ => rfl)); first | (simp [*, bndOk]; done) | (simp [*, bndOk]; omega) | (simp only [List.length_append, List.length_map, List.length_cons, List.length_nil, List.length_take, List.length_drop, Option.getD_none, Option.getD_some, decide_eq_true_eq] at *; omega)) | omega | (simp_all [wr_i64, wr_u8, bt_bt, rd_rdOf, u8_bits, fdiv_16, fdiv_16b, bits_and, bits_and8, ba_size, ba_toList, bndOk, VV.cells, Nat.beq_eq]; done) | (simp [wr_i64, wr_u8, bt_bt, rd_rdOf, u8_bits, fdiv_16, fdiv_16b, bits_and, bits_and8, ba_size, ba_toList, bndOk, VV.cells, Nat.beq_eq] at *; omega))) | fail) : P := h
theorem zm {P : Prop} (h : P := by first | (((with_reducible refine Im.ret ?_); (simp [resv, fixnl, VI.get, VI.nth, VI.must, List.length_map, beq_self]; done))) | fail) : P := h
theorem zx {P : Prop} (h : P := by first | ((exfalso; (try clear ih1); (try clear ih2); (try clear ih3); simp_all; done)) | fail) : P := h
theorem zo {P : Prop} (h : P := by first | (first | omega | (dsimp only; omega)) | fail) : P := h
end Go.Proofs.YtcfeihimmboghaaGreatDoor.VI

end
section
namespace Go.Proofs.YtcfeihimmboghaaGreatDoor.VI
open Go
def tis : List (TypeId × TI) := [(3, ⟨1, 8, [.int .i64 0], .int .i64⟩),
 (4, ⟨1, 1, [.bool false], .bool⟩),
 (5, ⟨1, 1, [.int .u8 0], .int .u8⟩),
 (9, ⟨1, 16, [.string ⟨#[]⟩], .str⟩),
 (22, ⟨1, 24, [.slice none 0 0], .slice 5⟩),
 (24, ⟨1, 24, [.slice none 0 0], .slice 86⟩),
 (40, ⟨1, 24, [.slice none 0 0], .slice 9⟩),
 (69, ⟨4, 48, [.int .i64 0, .int .i64 0, .int .i64 0, .slice none 0 0], .agg [(0, 1), (1, 1), (2, 1), (3, 1)]⟩),
 (73, ⟨1, 24, [.slice none 0 0], .slice 133⟩),
 (83, ⟨1, 8, [.pointer none], .ptr⟩),
 (86, ⟨2, 32, [.string ⟨#[]⟩, .string ⟨#[]⟩], .agg [(0, 1), (1, 1)]⟩),
 (99, ⟨1, 24, [.slice none 0 0], .slice 3⟩),
 (133, ⟨2, 32, [.string ⟨#[]⟩, .string ⟨#[]⟩], .agg [(0, 1), (1, 1)]⟩),
 (137, ⟨3, 40, [.slice none 0 0, .int .i64 0, .int .i64 0], .agg [(0, 1), (1, 1), (2, 1)]⟩),
 (140, ⟨2, 32, [.pointer none, .slice none 0 0], .agg [(0, 1), (1, 1)]⟩),
 (159, ⟨1, 8, [.pointer none], .ptr⟩)]
def ti (t : TypeId) : Option TI := look tis t
theorem hti : TIok Tryz.prog ti := TIok.of (l := tis) (by kernel_rfl) (by kernel_rfl)
end Go.Proofs.YtcfeihimmboghaaGreatDoor.VI

end
section
namespace Go.Proofs.YtcfeihimmboghaaGreatDoor.VI
open Go Go.RowKit Go.Proofs.YtcfeihimmboghaaGreatDoor.G Go.Proofs.YtcfeihimmboghaaGreatDoorW.PrintWords
def e86 (x : S86) : VV := .ag [.str x.f0, .str x.f1]
def e133 (x : S133) : VV := .ag [.str x.f0, .str x.f1]
@[simp] theorem rd_T86_eq (xs : List S86) (i : Int) : rd_T86 xs i = rdOf z86 xs i := rfl
@[simp] theorem rd_T133_eq (xs : List S133) (i : Int) : rd_T133 xs i = rdOf z133 xs i := rfl
def keep : FuncId → Nat → Option (List Nat) := fun f b => match f, b with
  | 7, 0 => some [3, 4, 7]
  | 7, 2 => some [3, 4, 12]
  | 20, 0 => some [0, 5, 6, 7]
  | 21, 0 => some [0, 3]
  | 26, 0 => some [0, 5, 23, 24, 25]
  | 27, 0 => some [1, 5, 6, 7]
  | 46, 0 => some [0, 1, 5]
  | 52, 0 => some [0, 3, 4]
  | 54, 0 => some [0, 3, 4]
  | 63, 0 => some [0, 1, 5]
  | 66, 0 => some [0, 1, 5]
  | 67, 0 => some [0, 1, 5]
  | 68, 0 => some [0, 1, 5]
  | 69, 0 => some [0, 3, 4]
  | 69, 2 => some [0, 3, 4, 5, 7]
  | 70, 0 => some [0, 3, 4, 7]
  | 71, 0 => some [3, 7, 8, 9]
  | 74, 0 => some [3, 4]
  | 75, 0 => some [3, 4, 5]
  | 76, 0 => some [0, 1, 5]
  | 78, 0 => some [2, 3, 24, 25, 26]
  | 78, 2 => some [2, 3, 56, 57]
  | 79, 0 => some [0, 1, 5]
  | 80, 0 => some [1, 5, 6, 7]
  | 81, 0 => some [0, 3, 4, 7]
  | 82, 0 => some [1, 5, 6]
  | 83, 0 => some [0, 1, 5]
  | 84, 0 => some [1, 5, 6, 7, 8]
  | 84, 2 => some [1, 5, 7, 9, 10]
  | 85, 0 => some [1, 6, 7, 8, 15, 16, 17]
  | 86, 0 => some [0, 1, 5]
  | 122, 0 => some [0, 1, 5, 6, 7]
  | 127, 0 => some [0, 1, 7, 8]
  | 147, 0 => some [0, 3]
  | 148, 0 => some [2, 3, 5, 6]
  | 148, 2 => some [2, 3, 7]
  | 152, 0 => some [0, 1, 5]
  | 172, 0 => some [1, 3, 4]
  | 208, 0 => some [1, 13, 14, 15]
  | 208, 2 => some [1, 24, 25, 26]
  | 215, 0 => some [1, 3]
  | 253, 0 => some [0, 3]
  | 279, 0 => some [0, 3]
  | _, _ => none
def unS : List VV → Option (List ByteArray)
  | [] => some []
  | .s (.string b) :: r => obind (unS r) fun l => some (b :: l)
  | _ => none
theorem unS_map : ∀ l : List ByteArray, unS (l.map VV.str) = some l
  | [] => rfl
  | b :: r => by
    show obind (unS (r.map VV.str)) _ = _
    rw [unS_map r]
    rfl
noncomputable def impl_ReadDec.gv : List VV → Option (VV × List VV)
  | [.s (.string a0)] => (impl_ReadDec.f a0).map fun r => (.int r, [])
  | _ => none
noncomputable def impl_SortVersions.gv : List VV → Option (VV × List VV)
  | [.sl q0] => obind (unS q0) fun l0 => (impl_SortVersions.f l0).map fun r => (.ow 9 1 (r.map VV.str), [])
  | _ => none
noncomputable def spec_DrawSortVersions.gv : List VV → Option (VV × List VV)
  | [.sl q0] => obind (byL q0) fun l0 => (limF (fun k => spec_DrawSortVersions.f k l0)).map fun r => (.ow 9 1 (r.map VV.str), [])
  | _ => none
noncomputable def spec_DrawNewest.gv : List VV → Option (VV × List VV)
  | [.sl q0] => obind (byL q0) fun l0 => (limF (fun k => spec_DrawNewest.f k l0)).map fun r => (.ow 9 1 (r.map VV.str), [])
  | _ => none
noncomputable def strings_Join.gv : List VV → Option (VV × List VV)
  | [.sl q0, .s (.string a1)] => obind (unS q0) fun l0 => (strings_Join.f l0 a1).map fun r => (.str r, [])
  | _ => none
noncomputable def strings_Split.gv : List VV → Option (VV × List VV)
  | [.s (.string a0), .s (.string a1)] => (strings_Split.f a0 a1).map fun r => (.ow 9 1 (r.map VV.str), [])
  | _ => none
noncomputable def strings_TrimLeft.gv : List VV → Option (VV × List VV)
  | [.s (.string a0), .s (.string a1)] => (strings_TrimLeft.f a0 a1).map fun r => (.str r, [])
  | _ => none
noncomputable def strconv_Itoa.gv : List VV → Option (VV × List VV)
  | [.s (.int .i64 a0)] => (strconv_Itoa.f a0).map fun r => (.str r, [])
  | _ => none
noncomputable def strings_Cut.gv : List VV → Option (VV × List VV)
  | [.s (.string a0), .s (.string a1)] => (strings_Cut.f a0 a1).map fun r => (.tu [.str r.1, .str r.2.1, .bool r.2.2], [])
  | _ => none
noncomputable def strings_Compare.gv : List VV → Option (VV × List VV)
  | [.s (.string a0), .s (.string a1)] => (strings_Compare.f a0 a1).map fun r => (.int r, [])
  | _ => none
noncomputable def Gv0 : FuncId → Option (List VV → Option (VV × List VV)) := fun f => match f with
  | 53 => some impl_ReadDec.gv
  | 91 => some strings_Join.gv
  | 94 => some strings_Split.gv
  | 123 => some strings_TrimLeft.gv
  | 124 => some strconv_Itoa.gv
  | 153 => some strings_Cut.gv
  | 210 => some strings_Compare.gv
  | _ => none
def Base (G : FuncId → Option (List VV → Option (VV × List VV))) : Prop := ∀ f, f ≠ 71 → f ≠ 72 → f ≠ 73 → G f = Gv0 f
theorem base0 : Base Gv0 := fun _ _ _ _ => rfl
noncomputable def Gv : FuncId → Option (List VV → Option (VV × List VV)) := fun f => match f with
  | 71 => some impl_SortVersions.gv
  | 72 => some spec_DrawSortVersions.gv
  | 73 => some spec_DrawNewest.gv
  | f => Gv0 f
theorem base1 : Base Gv := fun f h71 h72 h73 => by
  unfold Gv
  split
  · exact absurd rfl h71
  · exact absurd rfl h72
  · exact absurd rfl h73
  · rfl
noncomputable abbrev cv := callv Tryz.prog ti keep Gv
end Go.Proofs.YtcfeihimmboghaaGreatDoor.VI

end
section
namespace Go.Proofs.YtcfeihimmboghaaGreatDoor.VI
open Go Go.RowKit Go.Proofs.YtcfeihimmboghaaGreatDoor.G Go.Proofs.YtcfeihimmboghaaGreatDoorW.PrintWords
set_option linter.unusedVariables false
set_option linter.unusedSimpArgs false
theorem kv86 : KV k86 (fun x => (e86 x).cells) := kv_iso (kv_pair kv_string kv_string) (fun _ => rfl)
theorem kv133 : KV k133 (fun x => (e133 x).cells) := kv_iso (kv_pair kv_string kv_string) (fun _ => rfl)
end Go.Proofs.YtcfeihimmboghaaGreatDoor.VI

end
