/- A part of the proof that the law FnRange answers true at every input that its row speaks of. Conditions: the row's own. -/
import Derived.Test.YtieohddolkeegaaGreatDoorVMore
import Derived.Deep.Slices
import Derived.Deep.Fields
import Derived.ChangeSame
import Derived.ChangeArms
namespace Go.Proofs.YtieohddolkeegaaGreatDoor.Op
open Go Go.ChangeShapes Go.WideShapes Go.Deep Go.RowKit Go.Proofs.aA.aZ
set_option linter.unusedVariables false
set_option linter.unusedSimpArgs false
structure VU (P : Program) {α : Type} (t : TypeId) (d : Kd α) (z : α → Prop) : Prop where
  sz : P.cellsOf t = d.sz
  open_ : ∀ {H : Type} {enc : TypeId × Value → H} {w : World} {fuel : Nat} {cs : List Value} {x : DataW H × List MemPlace}, DataW.trod enc P w 0 (fun _ => true) true fuel t cs = some x → ∃ a : α, d.K w a cs ∧ z a
section
variable {P : Program} {t : TypeId}
theorem Vw {k : IntKind} (hc : P.cellsOf t = 1) (ht : P.underlying t = some (.int k)) : VU P t (Kd.int k) (fun n => (Lit.int k n).wf = true) :=
  ⟨hc, fun h => by
    obtain ⟨n, rfl, _, hn⟩ := DataW.trod_int ht h
    exact ⟨n, rfl, hn⟩⟩
theorem Q8 {α : Type} {n : Nat} {q : Nat → α → Prop} (h : ∀ i, i < n → ∃ a, q i a) : ∃ l : List α, l.length = n ∧ ∀ i a, l[i]? = some a → q i a := by
  induction n with
  | zero => exact ⟨[], rfl, fun i a e => by simp at e⟩
  | succ n ih =>
    obtain ⟨l, hl, hq⟩ := ih fun i hi => h i (by omega)
    obtain ⟨a, ha⟩ := h n (by omega)
    refine ⟨l ++ [a], by simp [hl], fun i b e => ?_⟩
    by_cases hi : i < l.length
    · rw [List.getElem?_append_left hi] at e; exact hq i b e
    · have hin : i = n := by
        have := (List.getElem?_eq_some_iff.1 e).1
        simp at this; omega
      subst hin
      rw [List.getElem?_append_right (by omega), hl, Nat.sub_self] at e
      cases e; exact ha
theorem Ol {α : Type} {e : TypeId} {d : Kd α} {z : α → Prop} (hc : P.cellsOf t = 1) (ht : P.underlying t = some (.slice e)) (h : VU P e d z) : VU P t (Kd.slice e d) (fun l => l.length ≤ maxLen ∧ ∀ a ∈ l, z a) :=
  ⟨hc, fun {H enc w fuel cs x} ho => by
    rcases open_slice ht ho with ⟨rfl, _⟩ | ⟨a, len, cap, m, n, D, Pl, rfl, hb, hl, hm, hmm, hx, hi⟩
    · refine ⟨[], ⟨none, 0, rfl, Nat.le_refl _, rfl, Nat.zero_le _, fun h0 => absurd h0 (Nat.lt_irrefl _)⟩, Nat.zero_le _, fun a ha => by cases ha⟩
    · have hmc : m = cap := by simpa using hmm
      subst hmc
      have hch : ∀ i, i < len → ∃ y : α, ∃ c : List Value, (c.length = d.sz ∧ d.K w y c ∧ ∀ j u, c[j]? = some u → w.cell? (a.add (i * d.sz + j)) = some u) ∧ z y := by
        intro i him
        obtain ⟨cs', hcs, htr⟩ := hi i (by omega)
        obtain ⟨y, hK, hz⟩ := h.open_ htr
        obtain ⟨_, hcl, hat⟩ := World.cells?_some hcs
        rw [h.sz] at hcl hat
        refine ⟨y, cs', ⟨hcl, hK, fun j u hu => ?_⟩, hz⟩
        have hj : j < d.sz := by have := (List.getElem?_eq_some_iff.1 hu).1; omega
        rw [← Go.Deep.add_add, hat j hj, hu]
      obtain ⟨l, hll, hq⟩ := Q8 hch
      subst hll
      refine ⟨l, ⟨some a, m, rfl, hl, rfl, by unfold maxLen at hm; omega, fun _ => ⟨a, rfl, fun j p hp => ?_⟩⟩, by omega, fun y hy => ?_⟩
      · obtain ⟨c, hc1, _⟩ := hq j p hp
        exact ⟨c, hc1⟩
      · obtain ⟨j, hj, rfl⟩ := List.getElem_of_mem hy
        obtain ⟨c, _, hz⟩ := hq j _ (List.getElem?_eq_getElem hj)
        exact hz⟩
structure OpensF (P : Program) {α : Type} (fs : List Field) (o : Nat) (d : Kd α) (z : α → Prop) : Prop where
  open_ : ∀ {H : Type} {enc : TypeId × Value → H} {w : World} {n : Nat} {cs : List Value} {xs : List (DataW H × List MemPlace)}, cs.length = o + d.sz → xs.length = fs.length →
    (∀ (i : Nat) (f : Field), fs[i]? = some f → DataW.trod enc P w 0 (fun _ => true) true n f.type ((cs.drop f.offset).take (P.cellsOf f.type)) = xs[i]?) → ∃ a : α, d.K w a (cs.drop o) ∧ z a
theorem Vu {α : Type} {e : TypeId} {d : Kd α} {z : List α → Prop} (h : VU P t (Kd.slice e d) z) {H : Type} {enc : TypeId × Value → H} {w : World} {A : Option Addr} {len cap : Nat} {y : DataW H} {p : List MemPlace}
    (ho : DataW.Trod enc P w 0 (fun _ => true) true t (.slice A len cap) y p) : ∃ l : List α, len = l.length ∧ l.length ≤ cap ∧ Kd.C d w A l.length l ∧ z l := by
  obtain ⟨fuel, hf⟩ := ho
  obtain ⟨l, ⟨A', c, e1, hl, hC⟩, hz⟩ := h.open_ hf
  simp [Value.cells] at e1
  obtain ⟨rfl, rfl, rfl⟩ := e1
  exact ⟨l, rfl, hl, hC, hz⟩
end
end Go.Proofs.YtieohddolkeegaaGreatDoor.Op

