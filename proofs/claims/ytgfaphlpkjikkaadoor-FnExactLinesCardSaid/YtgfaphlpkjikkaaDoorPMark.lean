/- The laws' marks: what markText answers, and that what is marked is held (lists of strings). -/
import Derived.Test.YtgfaphlpkjikkaaDoorU1
import Derived.Test.YtgfaphlpkjikkaaDoorGlawsmarkText
namespace Go.Proofs.YtgfaphlpkjikkaaDoor.U
open Go Go.RowKit Go.Proofs.YtgfaphlpkjikkaaDoorW.PrintWords Go.Proofs.YtgfaphlpkjikkaaDoor.G
set_option linter.unusedVariables false

theorem markText_l : ∀ (n : Nat) (x0 : Int) (x3 : ByteArray), x0.toNat = n → x0 ≤ 4611686018427387904 → x3.size + n ≤ 4611686018427387908 → ∃ r, Ev (fun k => laws_markText.l0 k x0 x3) r := by
  intro n
  induction n using Nat.strongRecOn with
  | _ n ih =>
    intro x0 x3 hn hx h3
    by_cases h : x0 > 0
    · have hq : Int.tdiv x0 10 = x0 / 10 := Int.tdiv_eq_ediv_of_nonneg (by omega)
      have e : wrap64 (Int.tdiv x0 10) = x0 / 10 := by rw [hq, w64 (by omega) (by omega)]
      have hone : (strOfNums [(wrap64 (48 + Int.tmod x0 10)) % 256]).size = 1 := by unfold strOfNums; rfl
      obtain ⟨r, hr⟩ := ih (x0 / 10).toNat (by omega) (x0 / 10) (strOfNums [(wrap64 (48 + Int.tmod x0 10)) % 256] ++ x3) rfl (by omega) (by rw [ByteArray.size_append, hone]; omega)
      refine ⟨r, Ev.step (fun k => ?_) hr⟩
      rw [laws_markText.l0, if_pos h, Option.bind_some, if_pos (by rw [hone]; omega), e]
    · exact ⟨_, Ev.step (f := fun _ => some ((⟨#[109]⟩ : ByteArray) ++ x3)) (fun k => by rw [laws_markText.l0, if_neg h, if_pos (by omega)]) (Ev.now _)⟩
theorem markText_ex (a : Int) (h : a ≤ 4611686018427387904) : ∃ r, Ev (fun k => laws_markText.f k a) r := by
  unfold laws_markText.f
  by_cases h0 : a ≤ 0
  · exact ⟨_, ev_pos h0 (Ev.now _)⟩
  · obtain ⟨r, hr⟩ := markText_l a.toNat a ⟨#[]⟩ rfl h (by show 0 + _ ≤ _; omega)
    exact ⟨r, ev_neg h0 hr⟩
/-- Marked and held: a list's loop. W: how many marks a member takes. -/
theorem mark_held {α : Type} (z : α) (g : Nat → List α → Int → Int → Option (Int × List α)) (h : Nat → List α → Int → Int → Option Int) (W : α → Nat)
    (gend : ∀ k x0 c, g (k + 1) x0 c (x0.length : Int) = some (c, x0)) (hend : ∀ k y c, h (k + 1) y c (y.length : Int) = some c)
    (step : ∀ (e : α) (c : Int), 0 ≤ c → c ≤ 2305843009213693952 → ∃ e' c', c ≤ c' ∧ c' ≤ c + W e ∧
      (∀ x0 (i : Nat) r, i < x0.length → i ≤ 140737488355328 → x0.getD i z = e → Ev (fun k => g k (x0.set i e') c' ((i + 1 : Nat) : Int)) r → Ev (fun k => g k x0 c (i : Int)) r) ∧
      (∀ y (i : Nat) r, i < y.length → i ≤ 140737488355328 → y.getD i z = e' → Ev (fun k => h k y c' ((i + 1 : Nat) : Int)) r → Ev (fun k => h k y c (i : Int)) r))
    (l : List α) (c : Int) (hl : l.length ≤ 140737488355328) (hc : 0 ≤ c) (hb : c + ((l.map W).sum : Nat) ≤ 2305843009213693952) :
    ∃ l' r, l'.length = l.length ∧ Ev (fun k => g k l c 0) (r, l') ∧ Ev (fun k => h k l' c 0) r ∧ c ≤ r ∧ r ≤ c + ((l.map W).sum : Nat) := by
  have key : ∀ d i (x0 : List α) (c : Int), i + d = x0.length → x0.length ≤ 140737488355328 → 0 ≤ c → c + (((x0.drop i).map W).sum : Nat) ≤ 2305843009213693952 →
      ∃ l' r, l'.length = x0.length ∧ l'.take i = x0.take i ∧ Ev (fun k => g k x0 c (i : Int)) (r, l') ∧ Ev (fun k => h k l' c (i : Int)) r ∧ c ≤ r ∧ r ≤ c + (((x0.drop i).map W).sum : Nat) := by
    intro d
    induction d with
    | zero =>
      intro i x0 c hi hm hc hb
      have e : i = x0.length := by omega
      subst e
      exact ⟨x0, c, rfl, rfl, Ev.step (f := fun _ => some (c, x0)) (fun k => gend k x0 c) (Ev.now _), Ev.step (f := fun _ => some c) (fun k => hend k x0 c) (Ev.now _), Int.le_refl _, by omega⟩
    | succ d ih =>
      intro i x0 c hi hm hc hb
      have hlt : i < x0.length := by omega
      rw [drop_getD x0 i z hlt, List.map_cons, List.sum_cons] at hb
      obtain ⟨e', c', h1, h2, h3, h4⟩ := step (x0.getD i z) c hc (by omega)
      have hd : (x0.set i e').drop (i + 1) = x0.drop (i + 1) := by rw [List.drop_set_of_lt (by omega)]
      obtain ⟨l', r, k1, k2, k3, k4, k5, k6⟩ := ih (i + 1) (x0.set i e') c' (by simpa using (by omega : i + 1 + d = x0.length)) (by simpa using hm) (by omega) (by rw [hd]; omega)
      rw [List.length_set] at k1
      have hi1 : i ≤ 140737488355328 := by omega
      refine ⟨l', r, k1, ?_, h3 x0 i _ hlt hi1 rfl k3, h4 l' i r (by omega) hi1 ?_ k4, by omega, ?_⟩
      · have := congrArg (List.take i) k2
        rw [List.take_take, List.take_take, Nat.min_eq_left (by omega), List.take_set_of_le (Nat.le_refl _)] at this
        exact this
      · have h5 : l'[i]? = (x0.set i e')[i]? := by
          have := congrArg (fun q : List α => q[i]?) k2
          simpa [List.getElem?_take] using this
        rw [List.getElem?_set_self hlt] at h5
        rw [List.getD_eq_getElem?_getD, h5]; rfl
      · rw [hd] at k6
        rw [drop_getD x0 i z hlt, List.map_cons, List.sum_cons]; omega
  obtain ⟨l', r, k1, _, k3, k4, k5, k6⟩ := key l.length 0 l c (by omega) hl hc (by simpa using hb)
  exact ⟨l', r, k1, k3, k4, k5, by simpa using k6⟩
end Go.Proofs.YtgfaphlpkjikkaaDoor.U
