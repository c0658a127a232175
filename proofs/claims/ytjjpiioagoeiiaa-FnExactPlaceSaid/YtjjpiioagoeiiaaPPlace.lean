/- What Place answers, of the program and of the reference. -/
import Derived.Test.YtjjpiioagoeiiaaPKey
import Derived.Test.YtjjpiioagoeiiaaPIn
import Derived.Test.YtjjpiioagoeiiaaGspecPlace
import Derived.Test.YtjjpiioagoeiiaaGimplPlace
namespace Go.Proofs.Ytjjpiioagoeiiaa.U
open Go Go.RowKit Go.Proofs.YtjjpiioagoeiiaaW.PrintWords Go.Proofs.Ytjjpiioagoeiiaa.G
set_option linter.unusedVariables false
set_option linter.unusedSimpArgs false

theorem strings_Count_eq (s : ByteArray) (c : UInt8) : strings_Count.f s (S [c]) = some (((L s).count c : Nat) : Int) := by
  unfold strings_Count.f
  rw [dif_pos (by rfl)]
  rfl
def place (l : B) (i : Int) : Int × Int := if 0 ≤ i ∧ i ≤ l.length then (1 + (((l.take i.toNat).count 10 : Nat) : Int), i - lastIx (l.take i.toNat) 10) else (0, 0)
theorem lastIx_snoc (l : B) (x c : UInt8) : lastIx (l ++ [x]) c = if x = c then (l.length : Int) else lastIx l c := by
  have hb : ∀ i, i ≤ l.length → lastBelow (l ++ [x]) c i = lastBelow l c i := by
    intro i
    induction i with
    | zero => intro _; rfl
    | succ i ih =>
      intro hi
      rw [lastBelow, lastBelow, ih (by omega)]
      have : at_ (l ++ [x]) i = at_ l i := by rw [at_eq _ _ (by simp; omega), at_eq _ _ (by omega), List.getElem_append_left]
      rw [this]
  rw [lastIx_below, lastIx_below, List.length_append, List.length_singleton, lastBelow, hb _ (Nat.le_refl _)]
  have : at_ (l ++ [x]) l.length = x := by rw [at_eq _ _ (by simp)]; simp
  rw [this]

theorem spec_Place_ev (s : ByteArray) (i : Int) (hs : s.size ≤ 1099511627776) : Ev (fun k => spec_Place.f k s i) (place (L s) i) := by
  have hsz := size_L s
  unfold spec_Place.f
  rw [spec_l01In_eq]
  refine ev_some ?_
  by_cases h : 0 ≤ i ∧ i ≤ (s.size : Int)
  · refine ev_pos (by simpa using h) ?_
    obtain ⟨n, rfl⟩ := Int.eq_ofNat_of_zero_le h.1
    have hn : n ≤ (L s).length := by omega
    unfold place
    rw [if_pos ⟨by omega, by omega⟩, Int.toNat_natCast]
    have hlr := fun j => lastIx_range ((L s).take j) 10
    have hc0 : ∀ j, ((L s).take j).count 10 ≤ j := fun j => Nat.le_trans List.count_le_length (List.length_take_le _ _)
    refine loop_up (fun k j (st : Int × Int) => spec_Place.l0 k s (n : Int) st.1 st.2 j) n (fun j st => st = (1 + ((((L s).take j).count 10 : Nat) : Int), 1 + (j : Int) - (lastIx ((L s).take j) 10 + 1))) (fun _ _ => (1 + ((((L s).take n).count 10 : Nat) : Int), (n : Int) - lastIx ((L s).take n) 10)) ?_ ?_ 0 (1, 1) (by omega) (by simp [lastIx_below, lastBelow])
    · rintro st rfl
      refine Ev.step (f := fun k => some _) (fun k => by rw [spec_Place.l0, if_neg (by omega)]) (ev_use (Ev.now _) ?_)
      ext <;> simp; omega
    · rintro j st hj rfl ih
      have hjl : j < (L s).length := by omega
      have h1 := hlr j
      have h2 := hc0 j
      rw [List.length_take] at h1
      have hts := take_at (L s) j hjl
      by_cases e : at_ (L s) j = 10
      · refine Ev.step (f := fun k => spec_Place.l0 k s (n : Int) (1 + ((((L s).take (j + 1)).count 10 : Nat) : Int)) 1 ((j + 1 : Nat) : Int)) (fun k => ?_) (ih (1 + ((((L s).take (j + 1)).count 10 : Nat) : Int), 1) ?_)
        · rw [spec_Place.l0, if_pos (by omega), if_pos (by omega), if_pos (by omega), bt_nat, e, if_pos (by decide), inc j (by omega)]
          dsimp only
          rw [w64 (by omega) (by omega), hts, e, List.count_append]
          congr 1
          first | done | (simp; done) | (simp; omega)
        · ext
          · rfl
          · show (1 : Int) = _
            rw [hts, e, lastIx_snoc, if_pos rfl, List.length_take]; omega
      · refine Ev.step (f := fun k => spec_Place.l0 k s (n : Int) (1 + ((((L s).take (j + 1)).count 10 : Nat) : Int)) (1 + ((j + 1 : Nat) : Int) - (lastIx ((L s).take (j + 1)) 10 + 1)) ((j + 1 : Nat) : Int)) (fun k => ?_) (ih (1 + ((((L s).take (j + 1)).count 10 : Nat) : Int), 1 + ((j + 1 : Nat) : Int) - (lastIx ((L s).take (j + 1)) 10 + 1)) rfl)
        rw [spec_Place.l0, if_pos (by omega), if_pos (by omega), if_pos (by omega), bt_nat, if_neg (fun e' => e ((byte_is _ 10 10 (by decide)).1 e')), inc j (by omega)]
        dsimp only
        rw [w64 (by omega) (by omega), hts, lastIx_snoc, if_neg e, List.count_append, show List.count 10 [at_ (L s) j] = 0 by simp [e]]
        congr 1
        first | done | omega
  · refine ev_neg (by simpa using h) (ev_use (Ev.now _) ?_)
    unfold place
    rw [if_neg (by rw [← hsz]; exact h)]

theorem impl_Place_eq (s : ByteArray) (i : Int) (hs : s.size ≤ 1099511627776) : impl_Place.f s i = some (place (L s) i) := by
  have hsz := size_L s
  unfold impl_Place.f place
  rw [impl_within_eq, Option.bind_some]
  by_cases h : 0 ≤ i ∧ i ≤ (s.size : Int)
  · have hr := lastIx_range ((L s).take i.toNat) 10
    have hc : ((L s).take i.toNat).count 10 ≤ (L s).length := Nat.le_trans List.count_le_length (List.length_take_le' _ _)
    have hl : ((L s).take i.toNat).length ≤ (L s).length := List.length_take_le' _ _
    have h3 : ((S ((L s).take i.toNat)).size) ≤ 1099511627776 := by rw [size_S]; omega
    rw [if_pos (by simpa using h), if_pos h.1, if_pos h.2, if_pos (by rw [← hsz]; exact h), take_extract, show (⟨#[10]⟩ : ByteArray) = S [10] from rfl, strings_Count_eq, strings_LastIndex_eq _ _ h3, Option.bind_some, Option.bind_some, L_S, w64 (by omega) (by omega), w64 (by omega) (by omega)]
  · rw [if_neg (by simpa using h), if_neg (by rw [← hsz]; exact h)]

end Go.Proofs.Ytjjpiioagoeiiaa.U
