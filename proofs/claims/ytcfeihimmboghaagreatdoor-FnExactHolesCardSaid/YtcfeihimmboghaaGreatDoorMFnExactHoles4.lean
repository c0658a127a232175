/- A part of the proof that the law FnExactHoles answers true at every input that its row speaks of. Conditions: the row's own. -/
import Derived.Test.YtcfeihimmboghaaGreatDoorMFnExactHoles3
import Derived.Below
import Derived.Laws.Entries
import Derived.Laws.OwnMore
import Derived.Laws.Slices
import Derived.Laws.Tables
import Derived.ChangeKeysEq
import Derived.Test.YtcfeihimmboghaaGreatDoorOrd
section
namespace Go.Proofs.YtcfeihimmboghaaGreatDoor.VI
open Go Go.RowKit
set_option linter.unusedSimpArgs false
set_option linter.unusedVariables false
theorem hao_ (w : World) (o : Obj) (i : Nat) (h : i < w.heap.size) : (w.alloc o).heap[i]? = w.heap[i]? := by
  show (w.heap.push o)[i]? = _
  rw [Array.getElem?_push_lt h, Array.getElem?_eq_getElem h]
structure Fr (io : List Nat) (B : Nat) (w w' : World) : Prop where
  os : w'.os = w.os
  tape : w'.tape = w.tape
  output : w'.output = w.output
  size : w.heap.size ≤ w'.heap.size
  block : ∀ k, k < B → k ∉ io → w'.heap[k]? = w.heap[k]?
theorem Fr.refl (io : List Nat) (B : Nat) (w : World) : Fr io B w w := ⟨rfl, rfl, rfl, Nat.le_refl _, fun _ _ _ => rfl⟩
theorem Fr.trans {io : List Nat} {B : Nat} {a b c : World} (h : Fr io B a b) (k : Fr io B b c) : Fr io B a c :=
  ⟨k.os.trans h.os, k.tape.trans h.tape, k.output.trans h.output, Nat.le_trans h.size k.size, fun i h1 h2 => (k.block i h1 h2).trans (h.block i h1 h2)⟩
theorem Fr.alloc {io : List Nat} {B : Nat} {a b : World} (h : Fr io B a b) (hB : B ≤ a.heap.size) (o : Obj) : Fr io B a (b.alloc o) :=
  ⟨h.os, h.tape, h.output, Nat.le_trans h.size (by simp), fun i h1 h2 => (hao_ b o i (by have := h.size; omega)).trans (h.block i h1 h2)⟩
structure TIok (P : Program) (ti : TypeId → Option TI) : Prop where
  info : ∀ t i, ti t = some i → ∃ inf z, P.info? t = some inf ∧ inf.zero = some z ∧ z.cells.toList = i.zero ∧ inf.size = i.sz ∧ inf.bytes = i.bytes ∧ i.zero.length = i.sz ∧ (∀ v ∈ i.zero, v.oneCell' = true) ∧ (match i.k with
    | .agg _ => ∃ c, z = .agg c
    | _ => i.sz = 1)
  kind : ∀ t i, ti t = some i → match i.k with
    | .agg fs => ∃ fields, P.underlying t = some (.struct fields) ∧ fields.size = fs.length ∧ ∀ (j : Nat) o z, fs[j]? = some (o, z) → ∃ f inf, fields[j]? = some f ∧ f.offset = o ∧ P.info? f.type = some inf ∧ inf.size = z
    | .slice e => P.underlying t = some (.slice e)
    | .str => P.underlying t = some .string
    | .bool => P.underlying t = some .bool
    | .int k => P.underlying t = some (.int k)
    | .ptr => ∃ e, P.underlying t = some (.pointer e)
structure Sim (NG : Nat) (GW : World → Prop) (io : List Nat) (w0 : World) (pd0 : Nat → Nat → Prop) (G : Gh) (env : Env) (a : Act) (w : World) : Prop where
  size : env.length = a.tmps.size
  slot : ∀ (t : Nat) v m, env[t]? = some v → a.tmps[t]? = some m → SlotR G w t v m
  df : a.defers = []
  fr : Fr io w0.heap.size w0 w
  gw : GW w
  ng : NG ≤ w0.heap.size
  ngio : ∀ g ∈ io, NG ≤ g
  own : ∀ g p, G.own g = some p → g < w.heap.size ∧ (w0.heap.size ≤ g ∨ g ∈ io)
  ownp : ∀ g k, G.own g ≠ none → G.pv g k → G.pd g k
  dv : ∀ g k, G.pd g k → G.pv g k
  B : G.B = w0.heap.size
  old : ∀ g k, g < w0.heap.size → G.pd g k → pd0 g k
def VR (G : Gh) (w : World) : VV → Value → Prop
  | .ow _ _ _, _ => False
  | .nl, _ => False
  | .bx _, _ => False
  | .mr _ _ _, _ => False
  | v, m => SlotR G w 0 v m
theorem VR.slot {G : Gh} {w : World} {v : VV} {m : Value} (h : VR G w v m) (t : Nat) : SlotR G w t v m := by cases v <;> first | exact h | exact h.elim
theorem VR.of_dr {G : Gh} {w : World} {v : VV} {m : Value} (h : DR G.pd w v m) : VR G w v m := by cases h <;> (show DR G.pd w _ _) <;> constructor <;> assumption
theorem nth_some {env : Env} {t : Nat} {v : VV} (h : env[t]? = some v) : nth env t = v := by
  induction env generalizing t with
  | nil => simp at h
  | cons a r ih => cases t with
    | zero => simpa [nth] using h
    | succ t => exact ih (by simpa using h)
theorem nth_none {env : Env} {t : Nat} (h : env[t]? = none) : nth env t = .un := by
  induction env generalizing t with
  | nil => cases t <;> rfl
  | cons a r ih => cases t with
    | zero => simp at h
    | succ t => exact ih (by simpa using h)
theorem frc1_eq {α : Type} (v : VV) (k : VV → α) : frc1 v k = k v := by cases v <;> rfl
theorem frcL_eq {α : Type} : ∀ (l : List VV) (k : List VV → α), frcL l k = k l
  | [], _ => rfl
  | v :: r, k => by rw [frcL, frc1_eq, frcL_eq r]
theorem frc_eq {α : Type} (v : VV) (k : VV → α) : frc v k = k v := by cases v <;> first | rfl | (rw [frc, frcL_eq])
theorem setK_eq {α : Type} : ∀ (n : Nat) (v : VV) (env : Env) (k : Env → α), setK n v env k = k (env.set n v)
  | _, _, [], _ => by simp [setK]
  | 0, _, _ :: _, _ => rfl
  | n + 1, v, a :: r, k => by rw [setK, setK_eq n v r]; rfl
section
variable {R : Type} {K : Env → Option R}
theorem vset_eq (t : Nat) (v : VV) (env : Env) : vset t v env K = K (env.set t v) := by rw [vset, frc_eq, setK_eq]
theorem vput_some {dr : Option (List Nat)} {dst : Option Nat} {v : VV} {env : Env} {r : R} (h : vput dr dst v env K = some r) : K (put dst v env) = some r := by
  cases dst with
  | none => exact h
  | some d =>
    cases dr with
    | none => simpa [vput, vset_eq, put] using h
    | some l =>
      simp only [vput] at h
      split at h
      · simpa [vset_eq, put] using h
      · cases h
theorem clearK_eq {α : Type} (l : Option (List Nat)) (env : Env) (k : Env → α) : clearK l env k = k (clear l env) := frcL_eq _ _
end
section
variable {P : Program} {NG : Nat} {GW : World → Prop} {io : List Nat} {w0 : World} {pd0 : Nat → Nat → Prop} {G G' : Gh} {env : Env} {a : Act} {w w' : World}
theorem OwnR.dr {p : Nat × Nat} {e : TypeId} {sz : Nat} {xs : List VV} {m : Value} (h : OwnR G w p e sz xs m) : DR G.pd w (.sl xs) m := by
  obtain ⟨ms, ho, hr, hz, h1, hl, hg⟩ := h
  rcases ho.2 with ⟨rfl, hn⟩ | ⟨g, cap, cur, rfl, h0, hh, hnc, hcm, hcs, htk⟩
  · obtain rfl : xs = [] := List.eq_nil_of_length_eq_zero hn
    exact .sl0 _ _
  · refine .sl xs g 0 cap sz ms hnc hl hz hr h1 fun k u hu => ?_
    have hk : k < xs.length * sz := by rw [← ho.1]; exact (List.getElem?_eq_some_iff.1 hu).1
    refine ⟨?_, by rw [Nat.zero_add]; exact ((hg g rfl).2 k).2 hk⟩
    have h2 := ho.cells (g := g) rfl k u hu
    have hadd : (⟨g, 0, none⟩ : Addr).add k = ⟨g, 0 + k, none⟩ := by unfold Addr.add; split <;> simp_all
    rw [hadd] at h2; exact h2
theorem view_rel {t : Nat} {v : VV} {m : Value} (h : SlotR G w t v m) : VR G w (view t v) m := by
  cases v <;> first
    | exact h
    | exact VR.of_dr (OwnR.dr h)
    | (obtain ⟨ms, ty, rfl, _⟩ := h; exact rfl)
    | (obtain ⟨ms, rfl, _⟩ := h; exact rfl)
    | (cases h; exact VR.of_dr (.sl0 _ _))
theorem get_rel (hs : Sim NG GW io w0 pd0 G env a w) (t : Nat) : ∃ v, get env t = v ∧ SlotR G w t v (a.eval (.tmp t)) := by
  refine ⟨_, rfl, ?_⟩
  cases h : env[t]? with
  | none => rw [get, nth_none h]; exact SlotR.un
  | some v =>
    rw [get, nth_some h]
    have ht : t < a.tmps.size := by rw [← hs.size]; exact (List.getElem?_eq_some_iff.1 h).1
    have := hs.slot t v (a.tmps[t]) h (Array.getElem?_eq_getElem ht)
    simpa [Act.eval, ht] using this
theorem get_slot (hs : Sim NG GW io w0 pd0 G env a w) (t : Nat) : SlotR G w t (get env t) (a.eval (.tmp t)) := let ⟨v, h, k⟩ := get_rel hs t; h ▸ k
theorem liftc_rel (v : Value) : DR G.pd w (liftc v) v := by
  unfold liftc; split
  · exact .sl0 _ _
  · exact .s _
theorem liftcs_rel : ∀ ms : List Value, DRs G.pd w (ms.map liftc) ms
  | [] => .nil
  | m :: ms => .cons _ _ _ _ (liftc_rel m) (liftcs_rel ms)
theorem lift_rel (v : Value) : VR G w (lift v) v := by
  unfold lift
  split
  · exact VR.of_dr (.sl0 _ _)
  · rename_i cs
    split
    · rename_i h
      have := DR.ag (pd := G.pd) (w := w) _ _ (liftcs_rel cs.toList) (by rw [List.all_eq_true] at h; exact h)
      exact VR.of_dr (by simpa using this)
    · exact VR.of_dr (.un _)
  · exact VR.of_dr (.s _)
theorem rdv_rel (hs : Sim NG GW io w0 pd0 G env a w) (x : Operand) : VR G w (rdv env x) (a.eval x) := by
  cases x with
  | tmp t => exact view_rel (get_slot hs t)
  | const v => exact lift_rel v
  | global g => exact VR.of_dr (.un _)
  | func f => exact ⟨[], rfl, rfl, fun i v u h => by simp at h⟩
theorem Sim.put (hs : Sim NG GW io w0 pd0 G env a w) (dst : Option Nat) {v : VV} {m : Value} (h : ∀ d, dst = some d → SlotR G w d v m) : Sim NG GW io w0 pd0 G (put dst v env) (a.put dst m) w := by
  cases dst with
  | none => exact hs
  | some d =>
    refine { hs with size := by simpa [VI.put, Act.put] using hs.size, slot := ?_ }
    intro t u n hu hn
    simp only [VI.put, Act.put] at hu hn
    rw [List.getElem?_set] at hu
    rw [Array.getElem?_setIfInBounds] at hn
    by_cases hd : d = t
    · subst hd
      rw [if_pos rfl] at hu hn
      split at hu
      · rename_i hl; rw [if_pos (by rw [← hs.size]; exact hl)] at hn
        cases hu; cases hn; exact h d rfl
      · cases hu
    · rw [if_neg hd] at hu hn
      exact hs.slot t u n hu hn
theorem Sim.evo {T L : Nat → Prop} {env' : Env} (hs : Sim NG GW io w0 pd0 G env a w) (E : Evo G w G' w' T L) (hl : env'.length = env.length)
    (hk : ∀ (t : Nat) v' m, env'[t]? = some v' → a.tmps[t]? = some m → (∃ v, env[t]? = some v ∧ v' = v ∧ ¬ T t ∧ ¬ L t ∧ ∀ u, L u → refersD u v = false) ∨ SlotR G' w' t v' m)
    (hf : Fr io w0.heap.size w0 w') (hg : GW w') (ho : ∀ g p, G'.own g = some p → g < w'.heap.size ∧ (w0.heap.size ≤ g ∨ g ∈ io)) (hp : ∀ g k, G'.own g ≠ none → G'.pv g k → G'.pd g k) (hdv : ∀ g k, G'.pd g k → G'.pv g k) (hold : ∀ g k, g < w0.heap.size → G'.pd g k → pd0 g k) : Sim NG GW io w0 pd0 G' env' a w' where
  size := hl.trans hs.size
  slot t v m hv hm := by
    rcases hk t v m hv hm with ⟨u, hu, rfl, h1, h2, h3⟩ | h
    · exact SlotR.keep E h1 h2 h3 (hs.slot t _ m hu hm)
    · exact h
  df := hs.df
  fr := hf
  gw := hg
  ng := hs.ng
  ngio := hs.ngio
  own := ho
  ownp := hp
  dv := hdv
  B := E.bb.trans hs.B
  old := hold
theorem kill_none {t : Nat} {v : VV} (h : refersD t v = false) : kill t v = v := by
  cases v <;> simp_all [refersD, refers, kill]
theorem nbeq_false {a b : Nat} (h : ¬ a = b) : Nat.beq a b = false := by
  cases hb : Nat.beq a b
  · rfl
  · exact absurd (Nat.eq_of_beq_eq_true hb) h
theorem kill_refers (t : Nat) (v : VV) : refersD t (kill t v) = false := by
  cases v <;> simp only [kill] <;> (try split) <;> simp_all [refersD, refers, nbeq_false]
theorem kill_slot {t d : Nat} {v : VV} {m : Value} (h : SlotR G w t v m) : SlotR G w t (kill d v) m := by
  by_cases hr : refersD d v = false
  · rw [kill_none hr]; exact h
  · have : kill d v = .un := by
      cases v <;> simp_all [refersD, refers, kill]
    rw [this]; exact SlotR.un
theorem Sim.fresh (hs : Sim NG GW io w0 pd0 G env a w) (gws : ∀ w w', GW w → Below NG w w' → GW w') (d : Nat) (b : VV) (ms : List Value) (ty : TypeId) (m : Value)
    (hb : ∀ G' : Gh, G'.B ≤ w.heap.size → G'.bl d = w.heap.size → G'.own w.heap.size = some (d, 0) → (∀ k, ¬ G'.pd w.heap.size k) → (∀ v m, DR G.pd w v m → DR G'.pd (w.alloc (.cells ms.toArray ty)) v m) → SlotR G' (w.alloc (.cells ms.toArray ty)) d b m) :
    ∃ G', Sim NG GW io w0 pd0 G' ((env.map (kill d)).set d b) (a.put (some d) m) (w.alloc (.cells ms.toArray ty)) := by
  let g := w.heap.size
  let G' : Gh := ⟨fun x k => x ≠ g ∧ G.pd x k, fun x k => x ≠ g ∧ G.pv x k, fun t => if t = d then g else G.bl t, fun x => if x = g then some (d, 0) else G.own x, G.B⟩
  have hlt : ∀ x k m, w.cell? ⟨x, k, none⟩ = some m → x ≠ g := fun x k m h e => by have := World.block_lt_of_cell? w _ h; simp only [g] at e; simp at this; omega
  have hkeep : ∀ x k m, w.cell? ⟨x, k, none⟩ = some m → (w.alloc (.cells ms.toArray ty)).cell? ⟨x, k, none⟩ = some m := fun x k m h => by
    rw [World.cell?_of_block (hao_ w _ x (by have := World.block_lt_of_cell? w _ h; simpa using this))]; exact h
  have E : Evo G w G' (w.alloc (.cells ms.toArray ty)) (fun _ => False) (fun t => t = d) := by
    refine ⟨fun x k m h1 h2 => ⟨⟨hlt x k m h2, h1⟩, hkeep x k m h2⟩, fun x k m h1 h2 => ⟨⟨hlt x k m h2, h1⟩, hkeep x k m h2⟩, ?_, fun t ht => if_neg ht, rfl⟩
    intro x t j o h1 h2 _
    have hx : x < w.heap.size := (Array.getElem?_eq_some_iff.1 h2).1
    have hne : x ≠ g := by simp only [g]; omega
    exact ⟨(hao_ w _ x hx).trans h2, by simp only [G', if_neg hne]; exact h1, fun k => ⟨fun h => h.2, fun h => ⟨hne, h⟩⟩⟩
  refine ⟨G', ?_⟩
  have hsim : Sim NG GW io w0 pd0 G' ((env.map (kill d)).set d .un) a (w.alloc (.cells ms.toArray ty)) := by
    refine hs.evo E (by simp) ?_ (hs.fr.alloc (Nat.le_refl _) _) (gws _ _ hs.gw ((Below.refl _ w).alloc (by have := hs.ng; have := hs.fr.size; omega) _)) ?_ ?_ ?_ (fun x k h1 h2 => hs.old x k h1 h2.2)
    · intro t v m hv hm
      by_cases htd : t = d
      · subst htd
        rw [List.getElem?_set, if_pos rfl] at hv
        split at hv
        · cases hv; exact .inr SlotR.un
        · cases hv
      · rw [List.getElem?_set, if_neg (fun e => htd e.symm), List.getElem?_map] at hv
        obtain ⟨u, hu, rfl⟩ := Option.map_eq_some_iff.1 hv
        refine .inr (SlotR.keep E id htd (fun x hx => ?_) (kill_slot (hs.slot t u m hu hm)))
        subst hx; exact kill_refers _ _
    · intro x p hx
      simp only [G'] at hx
      split at hx
      · rename_i e; subst e; exact ⟨by simp [g], .inl (by simp only [g]; exact hs.fr.size)⟩
      · have := hs.own x p hx; exact ⟨by simp; omega, this.2⟩
    · intro x k hx hk
      simp only [G'] at hx hk ⊢
      rw [if_neg hk.1] at hx
      exact ⟨hk.1, hs.ownp x k hx hk.2⟩
    · exact fun x k hk => ⟨hk.1, hs.dv x k hk.2⟩
  have := hsim.put (some d) (v := b) (m := m) fun d' hd => by
    cases hd
    exact hb G' (by show G.B ≤ _; rw [hs.B]; exact hs.fr.size) (if_pos rfl) (if_pos rfl) (fun k hk => hk.1 rfl) fun v m h => h.keep E.d
  simpa [VI.put] using this
end
section
variable {P : Program} {NG : Nat} {GW : World → Prop} {io : List Nat} {w0 : World} {pd0 : Nat → Nat → Prop} {G G' : Gh} {env : Env} {a : Act} {w w' : World}
def rehome (G : Gh) (m : Value) (p : Nat × Nat) : Gh := { G with own := fun g => if m.ownBlock = some g then some p else G.own g }
theorem OwnR.home {p p' : Nat × Nat} {e : TypeId} {sz : Nat} {xs : List VV} {m : Value} (h : OwnR G w p e sz xs m) : OwnR (rehome G m p') w p' e sz xs m := by
  obtain ⟨ms, ho, hr, hz, h1, hl, hg⟩ := h
  exact ⟨ms, ho, hr, hz, h1, hl, fun g hgb => ⟨if_pos hgb, (hg g hgb).2⟩⟩
theorem OwnR.other {p p' q : Nat × Nat} {e e' : TypeId} {sz sz' : Nat} {xs ys : List VV} {m u : Value} (h : OwnR G w p e sz xs m) (k : OwnR G w q e' sz' ys u) (hq : q ≠ p) : OwnR (rehome G m p') w q e' sz' ys u := by
  obtain ⟨ms, ho, hr, hz, h1, hl, hg⟩ := k
  refine ⟨ms, ho, hr, hz, h1, hl, fun g hgb => ⟨?_, (hg g hgb).2⟩⟩
  by_cases hm : m.ownBlock = some g
  · obtain ⟨_, _, _, _, _, _, hg'⟩ := h
    exact absurd ((hg g hgb).1.symm.trans (hg' g hm).1) (fun e => hq (Option.some.inj e))
  · simp only [rehome, if_neg hm]; exact (hg g hgb).1
theorem OwnR.evo {p p' : Nat × Nat} {e : TypeId} {sz : Nat} {xs : List VV} {m : Value} (h : OwnR G w p e sz xs m) : Evo G w (rehome G m p') w (fun t => t = p.1) (fun _ => False) := by
  refine ⟨fun _ _ _ a b => ⟨a, b⟩, fun _ _ _ a b => ⟨a, b⟩, ?_, fun _ _ => rfl, rfl⟩
  intro g t j o h1 h2 h3
  refine ⟨h2, ?_, fun _ => Iff.rfl⟩
  by_cases hm : m.ownBlock = some g
  · obtain ⟨_, _, _, _, _, _, hg'⟩ := h
    have := h1.symm.trans (hg' g hm).1
    exact absurd (congrArg Prod.fst (Option.some.inj this)) h3
  · simp only [rehome, if_neg hm]; exact h1
theorem OwnR.owns {p p' : Nat × Nat} {e : TypeId} {sz : Nat} {xs : List VV} {m : Value} (h : OwnR G w p e sz xs m) (hs : Sim NG GW io w0 pd0 G env a w) : ∀ g q, (rehome G m p').own g = some q → g < w.heap.size ∧ (w0.heap.size ≤ g ∨ g ∈ io) := by
  intro g q hq
  by_cases hm : m.ownBlock = some g
  · obtain ⟨_, _, _, _, _, _, hg'⟩ := h
    exact hs.own g p (hg' g hm).1
  · simp only [rehome, if_neg hm] at hq; exact hs.own g q hq
theorem OwnR.ownsp {p p' : Nat × Nat} {e : TypeId} {sz : Nat} {xs : List VV} {m : Value} (h : OwnR G w p e sz xs m) (hs : Sim NG GW io w0 pd0 G env a w) : ∀ g k, (rehome G m p').own g ≠ none → (rehome G m p').pv g k → (rehome G m p').pd g k := by
  intro g k hq hk
  by_cases hm : m.ownBlock = some g
  · obtain ⟨_, _, _, _, _, _, hg'⟩ := h
    exact hs.ownp g k (by rw [(hg' g hm).1]; simp) hk
  · simp only [rehome, if_neg hm] at hq; exact hs.ownp g k hq hk
theorem Sim.give (hs : Sim NG GW io w0 pd0 G env a w) {t d : Nat} {e : TypeId} {sz : Nat} {xs : List VV} (ht : get env t = .ow e sz xs) :
    ∃ G', Sim NG GW io w0 pd0 G' (VI.put (some d) (.ow e sz xs) (env.set t (.sl xs))) (a.put (some d) (a.eval (.tmp t))) w := by
  have h : OwnR G w (t, 0) e sz xs (a.eval (.tmp t)) := by have := get_slot hs t; rw [ht] at this; exact this
  refine ⟨rehome G (a.eval (.tmp t)) (d, 0), ?_⟩
  refine Sim.put (hs.evo h.evo (by simp) ?_ hs.fr hs.gw (h.owns hs) (h.ownsp hs) hs.dv hs.old) (some d) (fun d' hd => by cases hd; exact h.home)
  intro u v m hv hm
  by_cases hu : t = u
  · subst hu
    rw [List.getElem?_set, if_pos rfl] at hv
    split at hv
    · cases hv
      have hq : a.eval (.tmp t) = m := by
        obtain ⟨hlt, rfl⟩ := Array.getElem?_eq_some_iff.1 hm
        simp [Act.eval, hlt]
      rw [← hq]
      exact .inr (VR.slot (VR.of_dr (OwnR.dr h.home)) _)
    · cases hv
  · rw [List.getElem?_set, if_neg hu] at hv
    exact .inl ⟨v, hv, rfl, fun e => hu e.symm, id, fun _ h => h.elim⟩
section
variable {R : Type} {K : Env → Option R} {r : R} {next : Act → World → Prop} {Q : Exit → Act → World → Prop} {o : Oper} {C : Cx} {ops : List Oper} {dr : Option (List Nat)}
theorem wp_value {m : Value} (hrun : (execOp a.eval o).run P w = .ok (.value m) w') (h : next (a.put o.dst m) w') : o.wp P a w next Q := by
  unfold Oper.wp; rw [hrun]; exact h
theorem wp_skip' (hrun : (execOp a.eval o).run P w = .ok .skip w') (h : next (a.put o.dst undef) w') : o.wp P a w next Q := by
  unfold Oper.wp; rw [hrun]; exact h
abbrev Nx (NG : Nat) (GW : World → Prop) (io : List Nat) (w0 : World) (pd0 : Nat → Nat → Prop) (K : Env → Option R) (r : R) (next : Act → World → Prop) : Prop := ∀ G' env' a' w', Sim NG GW io w0 pd0 G' env' a' w' → K env' = some r → next a' w'
theorem val_sound {v : VV} {m : Value} (hs : Sim NG GW io w0 pd0 G env a w) (hn : Nx NG GW io w0 pd0 K r next) (hrun : (execOp a.eval o).run P w = .ok (.value m) w) (hv : VR G w v m) (h : vput dr o.dst v env K = some r) : o.wp P a w next Q :=
  wp_value hrun (hn _ _ _ _ (hs.put o.dst fun d _ => hv.slot d) (vput_some h))
theorem move_sound {own : Bool} {x : Operand} (hs : Sim NG GW io w0 pd0 G env a w) (hn : Nx NG GW io w0 pd0 K r next) (hrun : (execOp a.eval o).run P w = .ok (.value (a.eval x)) w) (h : vmove dr own o.dst x env K = some r) : o.wp P a w next Q := by
  unfold vmove at h
  split at h
  · rename_i t
    split at h
    · rename_i e sz xs ht
      split at h
      · rw [vset_eq] at h
        have h2 := vput_some h
        cases hd : o.dst with
        | none =>
          refine wp_value hrun (hn G _ _ _ ?_ h2)
          rw [hd]
          have h' : OwnR G w (t, 0) e sz xs (a.eval (.tmp t)) := by have := get_slot hs t; rw [ht] at this; exact this
          have hp := hs.put (some t) (v := .sl xs) (m := a.eval (.tmp t)) (fun d hd => by cases hd; exact VR.slot (VR.of_dr h'.dr) _)
          have ha : a.put (some t) (a.eval (.tmp t)) = a := by
            simp only [Act.put, Act.eval]
            congr 1
            by_cases hlt : t < a.tmps.size
            · refine Array.ext (by simp) fun i h1 h2 => ?_
              rw [Array.getElem_setIfInBounds (by simpa using h1)]
              split
              · rename_i e; subst e; simp [hlt]
              · rfl
            · simp [Array.setIfInBounds, hlt]
          rw [ha] at hp
          exact hp
        | some d =>
          obtain ⟨G', hg⟩ := hs.give (d := d) ht
          refine wp_value hrun (hn G' _ _ _ ?_ h2)
          rw [hd]; exact hg
      · have h' : OwnR G w (t, 0) e sz xs (a.eval (.tmp t)) := by have := get_slot hs t; rw [ht] at this; exact this
        exact val_sound hs hn hrun (VR.of_dr h'.dr) h
    · rename_i ht
      have h' : a.eval (.tmp t) = .slice none 0 0 := by have := get_slot hs t; rw [ht] at this; exact this
      split at h
      · exact wp_value hrun (hn _ _ _ _ (hs.put o.dst fun d _ => (show SlotR G w d .nl _ from h')) (vput_some h))
      · rw [h'] at hrun; exact val_sound hs hn hrun (VR.of_dr (.sl0 _ _)) h
    · exact val_sound hs hn hrun (rdv_rel hs _) h
  · split at h
    · exact wp_value hrun (hn _ _ _ _ (hs.put o.dst fun d _ => (show SlotR G w d .nl _ from rfl)) (vput_some h))
    · exact val_sound hs hn hrun (VR.of_dr (.sl0 _ _)) h
  · exact val_sound hs hn hrun (rdv_rel hs _) h
theorem bite_some {α : Type} {b : Bool} {x y : Option α} {r : α} (h : bite b x y = some r) : (b = true ∧ x = some r) ∨ (b = false ∧ y = some r) := by
  cases b
  · exact .inr ⟨rfl, h⟩
  · exact .inl ⟨rfl, h⟩
theorem must_some {α : Type} {b : Bool} {x : Option α} {r : α} (h : must b x = some r) : b = true ∧ x = some r := by
  cases b
  · cases h
  · exact ⟨rfl, h⟩
theorem VR.sv {v m : Value} (h : VR G w (.s v) m) : m = v := by cases h; rfl
theorem wr_eq (k : IntKind) (n : Int) : wr k n = k.wrap n := by
  cases k <;> simp only [wr]
  · simp [IntKind.wrap, IntKind.signed, IntKind.bits, wrap64]; omega
  · simp [IntKind.wrap, IntKind.signed, IntKind.bits]
theorem vint_run {op : BinOp} {k : IntKind} {x y : Int} {b : Bool} {v : Value} (h : vint op k x y = some (b, v)) (hb : b = true) (t : TypeId) (yk : IntKind) (hk : (op = .shr) ∨ k = yk) : (binOp op t (.int k x) (.int yk y)).run P w = .ok v w := by
  subst hb
  cases op <;> simp only [vint, Option.some.injEq, Prod.mk.injEq, reduceCtorEq] at h <;> first
    | (obtain ⟨h1, rfl⟩ := h
       have hk' : k = yk := by simpa using hk
       subst hk'
       simp [binOp, Op.intArith, Op.intDiv, Op.intBits, Op.intCmp, wr_eq] at h1 ⊢ <;> simp_all)
    | (obtain ⟨h1, rfl⟩ := h
       have h2 : ¬ y < 0 := by simp at h1; omega
       simp [binOp, Op.shift, h2])
theorem vstr_run {op : BinOp} {x y : ByteArray} {b : Bool} {v : Value} (h : vstr op x y = some (b, v)) (hb : b = true) (t : TypeId) : (binOp op t (.string x) (.string y)).run P w = .ok v w := by
  subst hb
  cases op <;> simp only [vstr, Option.some.injEq, Prod.mk.injEq, reduceCtorEq] at h <;> first
    | (obtain ⟨h1, rfl⟩ := h
       first
         | (rw [Go.Proofs.YtcfeihimmboghaaGreatDoor.G.str_gtr]; rfl)
         | (rw [Go.Proofs.YtcfeihimmboghaaGreatDoor.G.str_leq]; rfl)
         | (rw [Go.Proofs.YtcfeihimmboghaaGreatDoor.G.str_geq]; rfl)
         | (simp [binOp, Op.stringOp]; done)
         | (have h2 : ¬ ((x.size + y.size : Nat) : Int) > IntKind.i64.max := by
              have : x.size + y.size ≤ 9223372036854775807 := by simpa using h1
              simp [IntKind.max, IntKind.signed, IntKind.bits]; omega
            simp [binOp, Op.stringOp] at h2 ⊢; omega))
end
end
section
variable {α : Type}
theorem setCells_len : ∀ (vs : List α) (cs : List α) (off : Nat), (setCells cs off vs).length = cs.length
  | [], _, _ => rfl
  | v :: r, cs, off => by rw [setCells, setCells_len r]; simp
theorem setCells_eq : ∀ (vs : List α) (cs : List α) (off : Nat), off + vs.length ≤ cs.length → setCells cs off vs = cs.take off ++ vs ++ cs.drop (off + vs.length)
  | [], cs, off, _ => by simp [setCells]
  | v :: r, cs, off, h => by
    have hl : off < cs.length := by simp at h; omega
    rw [setCells, setCells_eq r (cs.set off v) (off + 1) (by simp at h ⊢; omega)]
    have h1 : (cs.set off v).take (off + 1) = cs.take off ++ [v] := by
      rw [List.take_add_one, List.take_set_of_le (Nat.le_refl _)]
      simp [hl]
    have h2 : (cs.set off v).drop (off + 1 + r.length) = cs.drop (off + (v :: r).length) := by
      rw [List.drop_set_of_lt (by omega)]
      simp; congr 1; omega
    rw [h1, h2]; simp
theorem fold_setCells : ∀ (vs : List α) (cs : Array α) (off i : Nat), ((vs.zipIdx i).foldl (fun cs (x : α × Nat) => cs.setIfInBounds (off + x.2) x.1) cs).toList = setCells cs.toList (off + i) vs
  | [], _, _, _ => rfl
  | v :: r, cs, off, i => by
    rw [List.zipIdx_cons, List.foldl_cons, fold_setCells r, setCells]
    simp [Nat.add_assoc]
end
section
variable {pd : Nat → Nat → Prop} {w : World}
theorem DRs.setCells : ∀ {us : List VV} {ns : List Value} {vs : List VV} {ms : List Value} (off : Nat), DRs pd w us ns → DRs pd w vs ms → DRs pd w (VI.setCells vs off us) (VI.setCells ms off ns)
  | _, _, _, _, _, .nil, h => h
  | _, _, _, _, off, .cons _ _ _ _ h hs, h' => DRs.setCells (off + 1) hs (h'.set off h)
theorem setCells_all {α : Type} {p : α → Prop} : ∀ (us : List α) (ms : List α) (off : Nat), (∀ u ∈ us, p u) → (∀ u ∈ ms, p u) → ∀ u ∈ setCells ms off us, p u
  | [], _, _, _, h => h
  | v :: r, ms, off, hu, hm => setCells_all r (ms.set off v) (off + 1) (fun u h => hu u (by simp [h])) (fun u h => by
    rcases List.mem_or_eq_of_mem_set h with h | h
    · exact hm u h
    · exact h ▸ hu v (by simp))
end
section
variable {z : Nat} {xs : List VV}
theorem flat_len : ∀ {xs : List VV}, (∀ x ∈ xs, x.cells.length = z) → (xs.flatMap VV.cells).length = xs.length * z
  | [], _ => by simp
  | x :: r, h => by
    rw [List.flatMap_cons, List.length_append, h x (by simp), flat_len fun y hy => h y (by simp [hy]), List.length_cons, Nat.succ_mul, Nat.add_comm]
theorem flat_take : ∀ {xs : List VV} (n : Nat), (∀ x ∈ xs, x.cells.length = z) → (xs.flatMap VV.cells).take (n * z) = (xs.take n).flatMap VV.cells
  | [], n, _ => by simp
  | x :: r, 0, _ => by simp
  | x :: r, n + 1, h => by
    have hx := h x (by simp)
    rw [List.flatMap_cons, List.take_succ_cons, List.flatMap_cons, ← flat_take n fun y hy => h y (by simp [hy]), Nat.succ_mul, List.take_append, hx]
    rw [List.take_of_length_le (by omega)]
    congr 2; omega
theorem flat_drop : ∀ {xs : List VV} (n : Nat), (∀ x ∈ xs, x.cells.length = z) → (xs.flatMap VV.cells).drop (n * z) = (xs.drop n).flatMap VV.cells
  | [], n, _ => by simp
  | x :: r, 0, _ => by simp
  | x :: r, n + 1, h => by
    have hx := h x (by simp)
    rw [List.flatMap_cons, List.drop_succ_cons, ← flat_drop n fun y hy => h y (by simp [hy]), Nat.succ_mul, List.drop_append, hx]
    rw [List.drop_of_length_le (by omega), List.nil_append]
    congr 1; omega
theorem flat_elem {i : Nat} {x : VV} (h : ∀ x ∈ xs, x.cells.length = z) (hx : xs[i]? = some x) : ((xs.flatMap VV.cells).drop (i * z)).take z = x.cells := by
  obtain ⟨hi, rfl⟩ := List.getElem?_eq_some_iff.1 hx
  rw [flat_drop i h, List.drop_eq_getElem_cons hi, List.flatMap_cons, List.take_append, h _ (List.getElem_mem hi)]
  simp [List.take_of_length_le (Nat.le_of_eq (h _ (List.getElem_mem hi)))]
theorem flat_set {i : Nat} {v : VV} (h : ∀ x ∈ xs, x.cells.length = z) (hi : i < xs.length) (hv : v.cells.length = z) : (xs.set i v).flatMap VV.cells = setCells (xs.flatMap VV.cells) (i * z) v.cells := by
  rw [setCells_eq _ _ _ (by rw [flat_len h, hv]; calc i * z + z = (i + 1) * z := (Nat.succ_mul _ _).symm
                                _ ≤ xs.length * z := Nat.mul_le_mul_right _ hi)]
  rw [flat_take i h, hv, show i * z + z = (i + 1) * z from (Nat.succ_mul _ _).symm, flat_drop (i + 1) h, List.set_eq_take_append_cons_drop, if_pos hi]
  simp
theorem widths_set {i : Nat} {v : VV} (h : ∀ x ∈ xs, x.cells.length = z) (hv : v.cells.length = z) : ∀ x ∈ xs.set i v, x.cells.length = z := by
  intro x hx
  rcases List.mem_or_eq_of_mem_set hx with hx | hx
  · exact h x hx
  · exact hx ▸ hv
theorem repl_get {α : Type} (l : List α) (hl : 0 < l.length) : ∀ (n k : Nat), (List.replicate n l).flatten[k]? = if k < n * l.length then l[k % l.length]? else none
  | 0, k => by simp
  | n + 1, k => by
    rw [List.replicate_succ, List.flatten_cons]
    by_cases hk : k < l.length
    · rw [List.getElem?_append_left hk, if_pos (by rw [Nat.succ_mul]; omega), Nat.mod_eq_of_lt hk]
    · rw [List.getElem?_append_right (by omega), repl_get l hl n (k - l.length)]
      rw [Nat.mod_eq_sub_mod (a := k) (by omega), Nat.succ_mul]
      by_cases h : k - l.length < n * l.length
      · rw [if_pos h, if_pos (by omega)]
      · rw [if_neg h, if_neg (by omega)]
theorem made_list (z : Array Value) (hz : 0 < z.size) (n : Nat) : ((Array.range (n * z.size)).map (z[· % z.size]!)).toList = (List.replicate n z.toList).flatten := by
  refine List.ext_getElem? fun k => ?_
  rw [repl_get _ (by simpa using hz)]
  simp only [Array.length_toList, Array.toList_map, Array.toList_range, List.getElem?_map]
  by_cases hk : k < n * z.size
  · rw [if_pos hk, List.getElem?_range hk]
    have := Nat.mod_lt k hz
    simp [this]
  · rw [if_neg hk]
    simp; omega
end
section
variable {P : Program} {ti : TypeId → Option TI} {G : Gh} {w : World}
theorem zeroV_cells {i : TI} (hti : TIok P ti) {t : TypeId} (hi : ti t = some i) : (zeroV i).cells = i.zero.map liftc := by
  obtain ⟨inf, z, h1, h2, h3, h4, h5, h6, h7, h8⟩ := hti.info t i hi
  unfold zeroV
  cases hk : i.k <;> simp only [hk] at h8 ⊢ <;> first
    | rfl
    | (have hl : i.zero.length = 1 := h6.trans h8
       match hz : i.zero, hl with
       | [a], _ => simp only [List.map_cons, List.map_nil, List.headD_cons]; unfold liftc; split <;> rfl)
theorem liftc_ok {m : Value} (h : m.oneCell' = true) : cellOk (liftc m) = true := by
  unfold liftc; split
  · rfl
  · cases m <;> simp_all [Value.oneCell', cellOk]
theorem repl_flat {v : VV} : ∀ n, (List.replicate n v).flatMap VV.cells = (List.replicate n v.cells).flatten
  | 0 => rfl
  | n + 1 => by rw [List.replicate_succ, List.flatMap_cons, repl_flat n, List.replicate_succ, List.flatten_cons]
theorem DRs.repl {pd : Nat → Nat → Prop} {cs : List VV} {ms : List Value} (h : DRs pd w cs ms) : ∀ n, DRs pd w (List.replicate n cs).flatten (List.replicate n ms).flatten
  | 0 => .nil
  | n + 1 => by rw [List.replicate_succ, List.replicate_succ, List.flatten_cons, List.flatten_cons]; exact h.app (DRs.repl h n)
end
end Go.Proofs.YtcfeihimmboghaaGreatDoor.VI

end
section
namespace Go.Proofs.YtcfeihimmboghaaGreatDoor.VI
open Go Go.RowKit
set_option linter.unusedVariables false
set_option linter.unusedSimpArgs false
section
variable {P : Program} {NG : Nat} {GW : World → Prop} {io : List Nat} {w0 : World} {pd0 : Nat → Nat → Prop} {G G' : Gh} {env : Env} {a : Act} {w w' : World} {ti : TypeId → Option TI}
variable {R : Type} {K : Env → Option R} {r : R} {next : Act → World → Prop} {Q : Exit → Act → World → Prop} {o : Oper} {C : Cx} {ops : List Oper} {dr : Option (List Nat)}
def isAgg' (i : TI) : Bool := match i.k with
  | .agg _ => true
  | _ => false
theorem run_isAgg' (hti : TIok P ti) {t : TypeId} {i : TI} (hi : ti t = some i) : (isAgg t).run P w = .ok (isAgg' i) w := by
  have hk := hti.kind t i hi
  unfold isAgg isAgg'
  cases h : i.k <;> simp only [h] at hk
  all_goals first
    | (obtain ⟨fs, hu, _⟩ := hk; simp [run_underlying hu]; done)
    | (obtain ⟨e, hu⟩ := hk; simp [run_underlying hu]; done)
    | (simp [run_underlying hk]; done)
theorem run_sizeOf' (hti : TIok P ti) {t : TypeId} {i : TI} (hi : ti t = some i) : (sizeOf t).run P w = .ok i.sz w := by
  obtain ⟨inf, z, h1, h2, h3, h4, h5, h6, h7, h8⟩ := hti.info t i hi
  simp [sizeOf, typeInfo, h1, h4]
theorem run_zeroValue' (hti : TIok P ti) {t : TypeId} {i : TI} (hi : ti t = some i) : ∃ z, (zeroValue t).run P w = .ok z w ∧ z.cells.toList = i.zero := by
  obtain ⟨inf, z, h1, h2, h3, h4, h5, h6, h7, h8⟩ := hti.info t i hi
  exact ⟨z, by simp [zeroValue, typeInfo, h1, h2], h3⟩
def ldv (i : TI) (ms : List Value) : Value := if isAgg' i then .agg ms.toArray else ms.headD undef
theorem run_load' (hti : TIok P ti) {t : TypeId} {i : TI} (hi : ti t = some i) {g off : Nat} {ms : List Value} (hl : ms.length = i.sz) (hc : ∀ (k : Nat) u, ms[k]? = some u → w.cell? ⟨g, off + k, none⟩ = some u) :
    (Instr.loadAt t (.pointer (some ⟨g, off, none⟩))).run P w = .ok (ldv i ms) w := by
  have hc' : ∀ j v, ms[j]? = some v → w.cell? ((⟨g, off, none⟩ : Addr).add j) = some v := fun j v h => by rw [Addr.add_lit]; exact hc j v h
  have hr := run_loadCells_list (P := P) (w := w) ⟨g, off, none⟩ ms hc'
  unfold Instr.loadAt Instr.sureAddr loadVar ldv
  cases hagg : isAgg' i
  · obtain ⟨inf, z, h1, h2, h3, h4, h5, h6, h7, h8⟩ := hti.info t i hi
    have h1' : i.sz = 1 := by
      unfold isAgg' at hagg
      cases h : i.k <;> simp [h] at hagg h8 <;> exact h8
    match ms, hl with
    | [m], _ =>
      have := hc 0 m rfl
      simp [run_isAgg' hti hi, hagg] at this ⊢
      rw [this]
    | [], hl => simp at hl; omega
    | _ :: _ :: _, hl => simp at hl; omega
  · simp [run_isAgg' hti hi, hagg, run_sizeOf' hti hi]
    rw [← hl, hr]; rfl
theorem mkv_rel {pd : Nat → Nat → Prop} (hti : TIok P ti) {t : TypeId} {i : TI} (hi : ti t = some i) {c : List VV} {ms : List Value} (hr : DRs pd w (c.map VV.dv) ms) (hl : c.length = i.sz) (h1 : ∀ u ∈ ms, u.oneCell' = true) : DR pd w (mkv i c) (ldv i ms) := by
  obtain ⟨inf, z, _, h2, h3, h4, h5, h6, h7, h8⟩ := hti.info t i hi
  unfold mkv ldv isAgg'
  cases hk : i.k <;> simp only [hk] at h8 ⊢ <;> first
    | exact .ag _ _ hr h1
    | (match c, ms, hr, hl with
       | [v], [m], .cons _ _ _ _ h _, _ => exact h
       | [], _, _, hl => simp at hl; omega
       | _ :: _ :: _, _, _, hl => simp at hl; omega)
theorem cellsAt_some {cs c : List VV} {off n : Nat} (h : cellsAt cs off n = some c) : c = (cs.drop off).take n ∧ c.length = n := by
  unfold cellsAt at h
  split at h
  · cases h; exact ⟨rfl, by assumption⟩
  · cases h
theorem CellR.data {p : Nat × Nat} {v : VV} {m : Value} (h : CellR G w p v m) : DR G.pd w v.dv m := by
  cases v <;> first
    | (have h' : DR G.pd w _ m := h; rw [← h'.dv] at h'; exact h')
    | exact OwnR.dr h
    | (cases h; exact .sl0 _ _)
theorem drop_take_get {α : Type} {l : List α} {off n k : Nat} {v : α} (h : ((l.drop off).take n)[k]? = some v) : l[off + k]? = some v := by
  rw [List.getElem?_take] at h
  split at h
  · rwa [List.getElem?_drop] at h
  · cases h
theorem vload_view (hti : TIok P ti) {t : TypeId} {i : TI} (hi : ti t = some i) {cs : List VV} {off : Nat} {v : VV} {m : Value} (hv : vload i cs off = some v) (h : ViewR G w cs m) : ∃ g o, m = .pointer (some ⟨g, o, none⟩) ∧ ∃ u, (Instr.loadAt t (.pointer (some ⟨g, o + off, none⟩))).run P w = .ok u w ∧ DR G.pd w v u := by
  obtain ⟨g, o, ms, rfl, hr, h1, hc⟩ := h
  unfold vload at hv
  split at hv
  · rename_i c hcc
    cases hv
    obtain ⟨rfl, hl⟩ := cellsAt_some hcc
    have hd := (hr.drop off).take i.sz
    refine ⟨g, o, rfl, ldv i ((ms.drop off).take i.sz), run_load' hti hi (by rw [← hd.length]; exact hl) (fun k u hu => ?_), mkv_rel hti hi (by rw [hd.dv]; exact hd) hl fun u hu => h1 u (List.mem_of_mem_drop (List.mem_of_mem_take hu))⟩
    have := hc (off + k) u (drop_take_get hu)
    rw [Nat.add_assoc]; exact this.1
  · cases hv
theorem box_cell {g : Nat} {ms : List Value} {ty : TypeId} {fr : Nat × Nat} (hh : w.heap[g]? = some (.cells ms.toArray ty fr)) (k : Nat) : w.cell? ⟨g, k, none⟩ = ms[k]? := by
  simp [World.cell?, hh]
theorem vload_box (hti : TIok P ti) {t : TypeId} {i : TI} (hi : ti t = some i) {u : Nat} {cs : List VV} {off : Nat} {v : VV} {m : Value} (hv : vload i cs off = some v) (h : BoxR G w u cs m) : ∃ n, (Instr.loadAt t (.pointer (some ⟨G.bl u, off, none⟩))).run P w = .ok n w ∧ DR G.pd w v n := by
  obtain ⟨ms, ty, rfl, hh, ho, hn, hl, hc, h1⟩ := h
  unfold vload at hv
  split at hv
  · rename_i c hcc
    cases hv
    obtain ⟨rfl, hlc⟩ := cellsAt_some hcc
    have hlen : ((cs.drop off).take i.sz).length = ((ms.drop off).take i.sz).length := by simp [hl]
    refine ⟨ldv i ((ms.drop off).take i.sz), run_load' hti hi (by rw [← hlen]; exact hlc) (fun k u hu => ?_), mkv_rel hti hi (.of (by simp [hl]) fun k a b ha hb => ?_) hlc fun u hu => h1 u (List.mem_of_mem_drop (List.mem_of_mem_take hu))⟩
    · rw [box_cell hh]; exact drop_take_get hu
    · rw [List.getElem?_map] at ha
      obtain ⟨x, hx, rfl⟩ := Option.map_eq_some_iff.1 ha
      exact (hc (off + k) x b (drop_take_get hx) (drop_take_get hb)).data
  · cases hv
theorem Sim.away (hs : Sim NG GW io w0 pd0 G env a w) {t : Nat} {e : TypeId} {sz : Nat} {xs : List VV} (ht : get env t = .ow e sz xs) (p : Nat × Nat) :
    Sim NG GW io w0 pd0 (rehome G (a.eval (.tmp t)) p) (env.set t (.sl xs)) a w ∧ OwnR (rehome G (a.eval (.tmp t)) p) w p e sz xs (a.eval (.tmp t)) := by
  have h : OwnR G w (t, 0) e sz xs (a.eval (.tmp t)) := by have := get_slot hs t; rw [ht] at this; exact this
  refine ⟨hs.evo h.evo (by simp) ?_ hs.fr hs.gw (h.owns hs) (h.ownsp hs) hs.dv hs.old, h.home⟩
  intro u v m hv hm
  by_cases hu : t = u
  · subst hu
    rw [List.getElem?_set, if_pos rfl] at hv
    split at hv
    · cases hv
      have hq : a.eval (.tmp t) = m := by
        obtain ⟨hlt, rfl⟩ := Array.getElem?_eq_some_iff.1 hm
        simp [Act.eval, hlt]
      rw [← hq]
      exact .inr (VR.slot (VR.of_dr (OwnR.dr (h.home (p' := p)))) _)
    · cases hv
  · rw [List.getElem?_set, if_neg hu] at hv
    exact .inl ⟨v, hv, rfl, fun e => hu e.symm, id, fun _ h => h.elim⟩
theorem Sim.write (hs : Sim NG GW io w0 pd0 G env a w) (gws : ∀ w w', GW w → Below NG w w' → GW w') {t : Nat} {ms ms' : List Value} {ty : TypeId} (hh : w.heap[G.bl t]? = some (.cells ms.toArray ty (0, 0))) (ho : G.own (G.bl t) = some (t, 0)) (hn : ∀ k, ¬ G.pd (G.bl t) k) (b : VV)
    (hb : ∀ w' : World, w'.heap[G.bl t]? = some (.cells ms'.toArray ty (0, 0)) → (∀ v m, DR G.pd w v m → DR G.pd w' v m) → (∀ p v m, p ≠ (t, 0) → CellR G w p v m → CellR G w' p v m) → SlotR G w' t b (a.eval (.tmp t))) :
    Sim NG GW io w0 pd0 G (env.set t b) a (w.setRow (G.bl t) ms'.toArray) := by
  have hnv : ∀ k, ¬ G.pv (G.bl t) k := fun k hk => hn k (hs.ownp _ k (by rw [ho]; simp) hk)
  have hcell : ∀ x k, x ≠ G.bl t → (w.setRow (G.bl t) ms'.toArray).cell? ⟨x, k, none⟩ = w.cell? ⟨x, k, none⟩ := fun x k hx => World.cell?_of_block (setRow_other w _ x _ hx)
  have hd : ∀ g k m, G.pd g k → w.cell? ⟨g, k, none⟩ = some m → G.pd g k ∧ (w.setRow (G.bl t) ms'.toArray).cell? ⟨g, k, none⟩ = some m := fun g k m h1 h2 => ⟨h1, by rw [hcell g k (fun e => hn k (e ▸ h1))]; exact h2⟩
  have E : Evo G w G (w.setRow (G.bl t) ms'.toArray) (fun u => u = t) (fun _ => False) := by
    refine ⟨hd, fun g k m h1 h2 => ⟨h1, by rw [hcell g k (fun e => hnv k (e ▸ h1))]; exact h2⟩, ?_, fun _ _ => rfl, rfl⟩
    intro g u j o h1 h2 h3
    have hne : g ≠ G.bl t := fun e => h3 (by rw [e, ho] at h1; exact (congrArg Prod.fst (Option.some.inj h1)).symm)
    exact ⟨(setRow_other w _ g _ hne).trans h2, h1, fun _ => Iff.rfl⟩
  obtain ⟨hlt, hge⟩ := hs.own _ _ ho
  refine hs.evo E (by simp) ?_ ?_ ?_ ?_ hs.ownp hs.dv hs.old
  · intro u v m hv hm
    by_cases hu : t = u
    · subst hu
      rw [List.getElem?_set, if_pos rfl] at hv
      split at hv
      · cases hv
        have hq : a.eval (.tmp t) = m := by
          obtain ⟨hlt, rfl⟩ := Array.getElem?_eq_some_iff.1 hm
          simp [Act.eval, hlt]
        rw [← hq]
        refine .inr (hb _ (setRow_heap w _ _ _ _ _ hh) (fun v m h => h.keep hd) fun p v m hp h => ?_)
        cases v <;> first
          | exact DR.keep hd h
          | exact h
          | (obtain ⟨ms, h2, hr, hz, h1, hl, hg⟩ := h
             refine ⟨ms, own_moves h2 (fun g o hgb hh => ?_), hr.keep hd, hz, h1, hl, hg⟩
             have hne : g ≠ G.bl t := fun e => hp (by have := (hg g hgb).1; rw [e, ho] at this; exact (Option.some.inj this).symm)
             exact (setRow_other w _ g _ hne).trans hh)
      · cases hv
    · rw [List.getElem?_set, if_neg hu] at hv
      exact .inl ⟨v, hv, rfl, fun e => hu e.symm, id, fun _ h => h.elim⟩
  · refine ⟨hs.fr.os, hs.fr.tape, hs.fr.output, by rw [setRow_size]; exact hs.fr.size, fun k h1 h2 => ?_⟩
    rw [setRow_other w _ k _ (fun e => by
      rw [← e] at hge
      rcases hge with h | h
      · omega
      · exact h2 h)]
    exact hs.fr.block k h1 h2
  · refine gws _ _ hs.gw ⟨rfl, rfl, rfl, by rw [setRow_size]; exact Nat.le_refl _, fun k hk => setRow_other w _ k _ (fun e => ?_)⟩
    rw [← e] at hge
    rcases hge with h | h
    · have := hs.ng; omega
    · have := hs.ngio _ h; omega
  · intro g p hp; rw [setRow_size]; exact hs.own g p hp
theorem run_store' (hti : TIok P ti) {t : TypeId} {i : TI} (hi : ti t = some i) {g off : Nat} {ms : List Value} {ty : TypeId} {v : Value} (hh : w.heap[g]? = some (.cells ms.toArray ty (0, 0))) (hl : v.cells.toList.length = i.sz) (hf : off + i.sz ≤ ms.length) (h1 : ∀ u ∈ v.cells.toList, u.oneCell' = true) :
    (Instr.storeAt t (.pointer (some ⟨g, off, none⟩)) v).run P w = .ok () (w.setRow g (setCells ms off v.cells.toList).toArray) := by
  have := run_storeCells_at (P := P) g off ty v.cells.toList 0 ms.toArray w hh (by simp at hl ⊢; omega) h1
  rw [setCells_eq _ _ _ (by omega)]
  unfold Instr.storeAt Instr.sureAddr storeVar
  have hl' : v.cells.size = i.sz := by simpa using hl
  simp only [Nat.add_zero] at this
  simp [run_sizeOf' hti hi, hl']
  simpa [hl'] using this
end
end Go.Proofs.YtcfeihimmboghaaGreatDoor.VI

end
