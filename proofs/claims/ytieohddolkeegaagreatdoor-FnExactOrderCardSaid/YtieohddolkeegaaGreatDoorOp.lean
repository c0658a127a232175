/- A part of the proof that the law FnExactOrder answers true at every input that its row speaks of. Conditions: the row's own. -/
import Derived.Test.YtieohddolkeegaaGreatDoorVMore
import Derived.Deep.Slices
import Derived.Deep.Fields
import Derived.ChangeSame
import Derived.ChangeArms
namespace Go.Proofs.YtieohddolkeegaaGreatDoor.Op
open Go Go.ChangeShapes Go.WideShapes Go.Deep Go.RowKit Go.Proofs.YtieohddolkeegaaGreatDoorW.PrintWords
set_option linter.unusedVariables false
set_option linter.unusedSimpArgs false
structure Opens (P : Program) {α : Type} (t : TypeId) (d : Kd α) (z : α → Prop) : Prop where
  sz : P.cellsOf t = d.sz
  open_ : ∀ {H : Type} {enc : TypeId × Value → H} {w : World} {fuel : Nat} {cs : List Value} {x : DataW H × List MemPlace}, DataW.trod enc P w 0 (fun _ => true) true fuel t cs = some x → ∃ a : α, d.K w a cs ∧ z a
section
variable {P : Program} {t : TypeId}
theorem opens_string (hc : P.cellsOf t = 1) (ht : P.underlying t = some .string) : Opens P t Kd.string (fun s => s.size ≤ maxLen) :=
  ⟨hc, fun h => by
    obtain ⟨s, rfl, _, hs⟩ := DataW.trod_string ht h
    exact ⟨s, rfl, hs⟩⟩
theorem opens_bool (hc : P.cellsOf t = 1) (ht : P.underlying t = some .bool) : Opens P t Kd.bool (fun _ => True) :=
  ⟨hc, fun h => by
    obtain ⟨b, rfl, _⟩ := DataW.trod_bool ht h
    exact ⟨b, rfl, trivial⟩⟩
theorem choose_list {α : Type} {n : Nat} {q : Nat → α → Prop} (h : ∀ i, i < n → ∃ a, q i a) : ∃ l : List α, l.length = n ∧ ∀ i a, l[i]? = some a → q i a := by
  induction n with
  | zero => exact ⟨[], rfl, fun i a e => by simp at e⟩
  | succ n ih =>
    obtain ⟨l, hl, hq⟩ := ih fun i hi => h i (by omega)
    obtain ⟨a, ha⟩ := h n (by omega)
    refine ⟨l ++ [a], by simp [hl], fun i b e => ?_⟩
    by_cases hi : i < l.length
    · rw [List.getElem?_append_left hi] at e; exact hq i b e
    · have hin : i = n := by
        have := (List.getElem?_eq_some_iff.1 e).1
        simp at this; omega
      subst hin
      rw [List.getElem?_append_right (by omega), hl, Nat.sub_self] at e
      cases e; exact ha
theorem opens_slice {α : Type} {e : TypeId} {d : Kd α} {z : α → Prop} (hc : P.cellsOf t = 1) (ht : P.underlying t = some (.slice e)) (h : Opens P e d z) : Opens P t (Kd.slice e d) (fun l => l.length ≤ maxLen ∧ ∀ a ∈ l, z a) :=
  ⟨hc, fun {H enc w fuel cs x} ho => by
    rcases open_slice ht ho with ⟨rfl, _⟩ | ⟨a, len, cap, m, n, D, Pl, rfl, hb, hl, hm, hmm, hx, hi⟩
    · refine ⟨[], ⟨none, 0, rfl, Nat.le_refl _, rfl, Nat.zero_le _, fun h0 => absurd h0 (Nat.lt_irrefl _)⟩, Nat.zero_le _, fun a ha => by cases ha⟩
    · have hmc : m = cap := by simpa using hmm
      subst hmc
      have hch : ∀ i, i < len → ∃ y : α, ∃ c : List Value, (c.length = d.sz ∧ d.K w y c ∧ ∀ j u, c[j]? = some u → w.cell? (a.add (i * d.sz + j)) = some u) ∧ z y := by
        intro i him
        obtain ⟨cs', hcs, htr⟩ := hi i (by omega)
        obtain ⟨y, hK, hz⟩ := h.open_ htr
        obtain ⟨_, hcl, hat⟩ := World.cells?_some hcs
        rw [h.sz] at hcl hat
        refine ⟨y, cs', ⟨hcl, hK, fun j u hu => ?_⟩, hz⟩
        have hj : j < d.sz := by have := (List.getElem?_eq_some_iff.1 hu).1; omega
        rw [← Go.Deep.add_add, hat j hj, hu]
      obtain ⟨l, hll, hq⟩ := choose_list hch
      subst hll
      refine ⟨l, ⟨some a, m, rfl, hl, rfl, by unfold maxLen at hm; omega, fun _ => ⟨a, rfl, fun j p hp => ?_⟩⟩, by omega, fun y hy => ?_⟩
      · obtain ⟨c, hc1, _⟩ := hq j p hp
        exact ⟨c, hc1⟩
      · obtain ⟨j, hj, rfl⟩ := List.getElem_of_mem hy
        obtain ⟨c, _, hz⟩ := hq j _ (List.getElem?_eq_getElem hj)
        exact hz⟩
structure OpensF (P : Program) {α : Type} (fs : List Field) (o : Nat) (d : Kd α) (z : α → Prop) : Prop where
  open_ : ∀ {H : Type} {enc : TypeId × Value → H} {w : World} {n : Nat} {cs : List Value} {xs : List (DataW H × List MemPlace)}, cs.length = o + d.sz → xs.length = fs.length →
    (∀ (i : Nat) (f : Field), fs[i]? = some f → DataW.trod enc P w 0 (fun _ => true) true n f.type ((cs.drop f.offset).take (P.cellsOf f.type)) = xs[i]?) → ∃ a : α, d.K w a (cs.drop o) ∧ z a
theorem opensF_one {α : Type} {f : Field} {o : Nat} {d : Kd α} {z : α → Prop} (ho : f.offset = o) (h : Opens P f.type d z) : OpensF P [f] o d z :=
  ⟨fun {H enc w n cs xs} hl hx hf => by
    have h0 := hf 0 f rfl
    have hxl : 0 < xs.length := by rw [hx]; simp
    rw [List.getElem?_eq_getElem hxl, ho, h.sz, List.take_of_length_le (by simp; omega)] at h0
    exact h.open_ h0⟩
theorem opensF_cons {α β : Type} {f : Field} {fs : List Field} {o : Nat} {d : Kd α} {d' : Kd β} {z : α → Prop} {z' : β → Prop} (ho : f.offset = o) (h : Opens P f.type d z) (h' : OpensF P fs (o + d.sz) d' z') :
    OpensF P (f :: fs) o (Kd.pair d d') (fun x => z x.1 ∧ z' x.2) :=
  ⟨fun {H enc w n cs xs} hl hx hf => by
    have h0 := hf 0 f rfl
    have hxl : 0 < xs.length := by rw [hx]; simp
    rw [List.getElem?_eq_getElem hxl, ho, h.sz] at h0
    obtain ⟨a, hK, hz⟩ := h.open_ h0
    have hl' : cs.length = o + (d.sz + d'.sz) := hl
    obtain ⟨b, hK', hz'⟩ := h'.open_ (cs := cs) (xs := xs.tail) (by omega) (by simp [hx]) (fun i g hg => by
      have := hf (i + 1) g (by simpa using hg)
      rw [this, List.getElem?_tail])
    refine ⟨(a, b), ⟨(cs.drop o).take d.sz, cs.drop (o + d.sz), ?_, hK, hK'⟩, hz, hz'⟩
    rw [← List.drop_drop, List.take_append_drop]⟩
theorem opens_struct {α β : Type} {fs : Array Field} {d : Kd α} {g : β → α} {z : α → Prop} (hc : P.cellsOf t = d.sz) (ht : P.underlying t = some (.struct fs)) (hg : ∀ a, ∃ b, g b = a) (h : OpensF P fs.toList 0 d z) :
    Opens P t (Kd.iso d g) (fun b => z (g b)) :=
  ⟨hc, fun {H enc w fuel cs x} ho => by
    obtain ⟨xs, n, hn, hx, hcl, hxl, hf⟩ := DataW.trod_struct ht ho
    obtain ⟨a, hK, hz⟩ := h.open_ (cs := cs) (xs := xs) (n := n) (by rw [hcl, hc, Nat.zero_add]) (by simpa using hxl) (fun i f hi => hf i f (by simpa using hi))
    obtain ⟨b, rfl⟩ := hg a
    rw [List.drop_zero] at hK
    exact ⟨b, hK, hz⟩⟩
theorem arg_struct {α : Type} {d : Kd α} {z : α → Prop} (h : Opens P t d z) {H : Type} {enc : TypeId × Value → H} {w : World} {cs : Array Value} {y : DataW H} {p : List MemPlace}
    (ho : DataW.Trod enc P w 0 (fun _ => true) true t (.agg cs) y p) : ∃ a : α, d.K w a cs.toList ∧ z a := by
  obtain ⟨fuel, hf⟩ := ho
  exact h.open_ hf
end
end Go.Proofs.YtieohddolkeegaaGreatDoor.Op

