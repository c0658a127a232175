/- A part of the proof that the law FnPick answers true at every input that its row speaks of. Conditions: the row's own. -/
import Derived.Test.YtoidompkofomjaaGreatDoorMFnPick3
import Derived.Maps.AppendAt
import Derived.Below
import Derived.Laws.Entries
import Derived.Laws.OwnMore
import Derived.Laws.Slices
import Derived.Laws.Tables
import Derived.ChangeKeysEq
import Derived.Test.YtoidompkofomjaaGreatDoorOrd
import Derived.Laws.Small
import Derived.Great.BuildSlice
import Derived.Test.YtoidompkofomjaaGreatDoorVMore
section
namespace Go.Proofs.YtoidompkofomjaaGreatDoor.VI
open Go Go.RowKit
set_option linter.unusedSimpArgs false
set_option linter.unusedVariables false
mutual
inductive DR (pd : Nat → Nat → Prop) (w : World) : VV → Value → Prop
  | s (v : Value) : DR pd w (.s v) v
  | un (m : Value) : DR pd w .un m
  | sl0 (A : Option Addr) (c : Nat) : DR pd w (.sl []) (.slice A 0 c)
  | sl (xs : List VV) (g off c sz : Nat) (ms : List Value) (hc : xs.length ≤ c) (hm : xs.length ≤ maxLen) (hz : ∀ x ∈ xs, x.cells.length = sz) (hr : DRs pd w (xs.flatMap VV.cells) ms) (h1 : ∀ m ∈ ms, m.oneCell' = true)
      (hw : ∀ (k : Nat) m, ms[k]? = some m → w.cell? ⟨g, off + k, none⟩ = some m ∧ pd g (off + k)) : DR pd w (.sl xs) (.slice (some ⟨g, off, none⟩) xs.length c)
  | ag (cs : List VV) (ms : List Value) (hr : DRs pd w cs ms) (h1 : ∀ m ∈ ms, m.oneCell' = true) : DR pd w (.ag cs) (.agg ms.toArray)
  | tu (cs : List VV) (ms : List Value) (hr : DRs pd w cs ms) : DR pd w (.tu cs) (.tuple ms.toArray)
inductive DRs (pd : Nat → Nat → Prop) (w : World) : List VV → List Value → Prop
  | nil : DRs pd w [] []
  | cons (v : VV) (m : Value) (vs : List VV) (ms : List Value) (h : DR pd w v m) (hs : DRs pd w vs ms) : DRs pd w (v :: vs) (m :: ms)
end
section
variable {pd pd' : Nat → Nat → Prop} {w w' : World}
mutual
theorem DR.keep (hk : ∀ g k m, pd g k → w.cell? ⟨g, k, none⟩ = some m → pd' g k ∧ w'.cell? ⟨g, k, none⟩ = some m) : ∀ {v : VV} {m : Value}, DR pd w v m → DR pd' w' v m
  | _, _, .s v => .s v
  | _, _, .un m => .un m
  | _, _, .sl0 A c => .sl0 A c
  | _, _, .sl xs g off c sz ms hc hm hz hr h1 hw => .sl xs g off c sz ms hc hm hz (DRs.keep hk hr) h1 fun k m h => let ⟨a, b⟩ := hk _ _ _ (hw k m h).2 (hw k m h).1; ⟨b, a⟩
  | _, _, .ag cs ms hr h1 => .ag cs ms (DRs.keep hk hr) h1
  | _, _, .tu cs ms hr => .tu cs ms (DRs.keep hk hr)
theorem DRs.keep (hk : ∀ g k m, pd g k → w.cell? ⟨g, k, none⟩ = some m → pd' g k ∧ w'.cell? ⟨g, k, none⟩ = some m) : ∀ {vs : List VV} {ms : List Value}, DRs pd w vs ms → DRs pd' w' vs ms
  | _, _, .nil => .nil
  | _, _, .cons v m vs ms h hs => .cons v m vs ms (DR.keep hk h) (DRs.keep hk hs)
end
theorem DRs.length {vs : List VV} {ms : List Value} (h : DRs pd w vs ms) : vs.length = ms.length := by
  induction vs generalizing ms with
  | nil => cases h; rfl
  | cons v vs ih => cases h with | cons _ m _ ms h hs => simp [ih hs]
theorem DRs.at {vs : List VV} {ms : List Value} (h : DRs pd w vs ms) : ∀ {i : Nat} {v : VV} {m : Value}, vs[i]? = some v → ms[i]? = some m → DR pd w v m := by
  induction vs generalizing ms with
  | nil => intro i v m hv; simp at hv
  | cons a vs ih =>
    cases h with
    | cons _ b _ ms h hs =>
      intro i v m hv hm
      cases i with
      | zero => simp at hv hm; subst hv; subst hm; exact h
      | succ i => exact ih hs (by simpa using hv) (by simpa using hm)
theorem DRs.of {vs : List VV} {ms : List Value} (hl : vs.length = ms.length) (h : ∀ (i : Nat) v m, vs[i]? = some v → ms[i]? = some m → DR pd w v m) : DRs pd w vs ms := by
  induction vs generalizing ms with
  | nil => cases ms with
    | nil => exact .nil
    | cons m ms => simp at hl
  | cons v vs ih => cases ms with
    | nil => simp at hl
    | cons m ms => exact .cons _ _ _ _ (h 0 v m rfl rfl) (ih (by simpa using hl) fun i a b ha hb => h (i + 1) a b (by simpa using ha) (by simpa using hb))
theorem DRs.get {vs : List VV} {ms : List Value} (h : DRs pd w vs ms) {i : Nat} {v : VV} (hv : vs[i]? = some v) : ∃ m, ms[i]? = some m ∧ DR pd w v m := by
  have hl := h.length
  have hi := (List.getElem?_eq_some_iff.1 hv).1
  exact ⟨ms[i]'(by omega), List.getElem?_eq_getElem (by omega), h.at hv (List.getElem?_eq_getElem (by omega))⟩
theorem DRs.app {vs vs' : List VV} {ms ms' : List Value} (h : DRs pd w vs ms) (h' : DRs pd w vs' ms') : DRs pd w (vs ++ vs') (ms ++ ms') := by
  induction vs generalizing ms with
  | nil => cases h; exact h'
  | cons v vs ih => cases h with | cons _ m _ ms h hs => exact .cons _ _ _ _ h (ih hs)
theorem DRs.take {vs : List VV} {ms : List Value} (h : DRs pd w vs ms) (n : Nat) : DRs pd w (vs.take n) (ms.take n) :=
  .of (by simp [h.length]) fun i v m hv hm => by
    rw [List.getElem?_take] at hv hm
    split at hv
    · rename_i hi; rw [if_pos hi] at hm; exact h.at hv hm
    · cases hv
theorem DRs.drop {vs : List VV} {ms : List Value} (h : DRs pd w vs ms) (n : Nat) : DRs pd w (vs.drop n) (ms.drop n) :=
  .of (by simp [h.length]) fun i v m hv hm => by
    rw [List.getElem?_drop] at hv hm; exact h.at hv hm
theorem DRs.set {vs : List VV} {ms : List Value} (h : DRs pd w vs ms) (n : Nat) {v : VV} {m : Value} (hv : DR pd w v m) : DRs pd w (vs.set n v) (ms.set n m) :=
  .of (by simp [h.length]) fun i a b ha hb => by
    rw [List.getElem?_set] at ha hb
    have := h.length
    by_cases hi : n = i
    · subst hi
      rw [if_pos rfl] at ha hb
      split at ha
      · rename_i hl; rw [if_pos (by omega)] at hb; cases ha; cases hb; exact hv
      · cases ha
    · rw [if_neg hi] at ha hb; exact h.at ha hb
theorem DR.cells {v : VV} {m : Value} (h : DR pd w v m) (hok : v.cells.all cellOk = true) : DRs pd w v.cells m.cells.toList ∧ ∀ u ∈ m.cells.toList, u.oneCell' = true := by
  cases h with
  | s =>
    simp only [VV.cells, List.all_cons, List.all_nil, Bool.and_true] at hok
    cases m <;> first
      | (simp [cellOk] at hok; done)
      | (simp only [Value.cells, VV.cells]; exact ⟨.cons _ _ _ _ (.s _) .nil, by intro u hu; simp at hu; subst hu; rfl⟩)
  | un => simp [VV.cells, cellOk] at hok
  | sl0 A c => simp only [Value.cells, VV.cells]; exact ⟨.cons _ _ _ _ (.sl0 A c) .nil, by intro u hu; simp at hu; subst hu; rfl⟩
  | sl xs g off c sz ms hc hm hz hr h1 hw => simp only [Value.cells, VV.cells]; exact ⟨.cons _ _ _ _ (.sl xs g off c sz ms hc hm hz hr h1 hw) .nil, by intro u hu; simp at hu; subst hu; rfl⟩
  | ag cs ms hr h1 => simp only [Value.cells, VV.cells]; exact ⟨hr, h1⟩
  | tu cs ms hr => simp [VV.cells, cellOk] at hok
theorem DR.dv {v : VV} {m : Value} (h : DR pd w v m) : v.dv = v := by cases h <;> rfl
theorem DRs.dv {vs : List VV} {ms : List Value} (h : DRs pd w vs ms) : vs.map VV.dv = vs := by
  induction vs generalizing ms with
  | nil => rfl
  | cons v vs ih => cases h with | cons _ m _ ms h hs => rw [List.map_cons, h.dv, ih hs]
end
structure Gh where
  pd : Nat → Nat → Prop
  pv : Nat → Nat → Prop
  bl : Nat → Nat
  own : Nat → Option (Nat × Nat)
  B : Nat
def OwnR (G : Gh) (w : World) (p : Nat × Nat) (e : TypeId) (sz : Nat) (xs : List VV) (m : Value) : Prop :=
  ∃ (ms : List Value), w.ownsRow G.B e sz m xs.length ms ∧ DRs G.pd w (xs.flatMap VV.cells) ms ∧ (∀ x ∈ xs, x.cells.length = sz) ∧ (∀ u ∈ ms, u.oneCell' = true) ∧ xs.length ≤ maxLen ∧
    ∀ g, m.ownBlock = some g → G.own g = some p ∧ ∀ k, G.pd g k ↔ k < xs.length * sz
def CellR (G : Gh) (w : World) (p : Nat × Nat) : VV → Value → Prop
  | .ow e z xs, m => OwnR G w p e z xs m
  | .nl, m => m = .slice none 0 0
  | v, m => DR G.pd w v m
def ViewR (G : Gh) (w : World) (cs : List VV) (m : Value) : Prop :=
  ∃ (g off : Nat) (ms : List Value), m = .pointer (some ⟨g, off, none⟩) ∧ DRs G.pd w cs ms ∧ (∀ u ∈ ms, u.oneCell' = true) ∧ ∀ (k : Nat) u, ms[k]? = some u → w.cell? ⟨g, off + k, none⟩ = some u ∧ G.pv g (off + k)
def CapR (G : Gh) (w : World) : VV → Value → Prop
  | .pt u o, m => m = .pointer (some ⟨G.bl u, o, none⟩)
  | .vw cs, m => ViewR G w cs m
  | _, _ => False
def BoxR (G : Gh) (w : World) (t : Nat) (cs : List VV) (m : Value) : Prop :=
  ∃ (ms : List Value) (ty : TypeId), m = .pointer (some ⟨G.bl t, 0, none⟩) ∧ w.heap[G.bl t]? = some (.cells ms.toArray ty (0, 0)) ∧ G.own (G.bl t) = some (t, 0) ∧ (∀ k, ¬ G.pd (G.bl t) k) ∧ cs.length = ms.length ∧ (∀ (i : Nat) v u, cs[i]? = some v → ms[i]? = some u → CellR G w (t, i + 1) v u) ∧ ∀ u ∈ ms, u.oneCell' = true
def MadeR (G : Gh) (w : World) (t : Nat) (e : TypeId) (sz : Nat) (xs : List VV) (m : Value) : Prop :=
  ∃ ms : List Value, m = .slice (some ⟨G.bl t, 0, none⟩) xs.length xs.length ∧ w.heap[G.bl t]? = some (.cells ms.toArray e (0, 0)) ∧ G.own (G.bl t) = some (t, 0) ∧ (∀ k, ¬ G.pd (G.bl t) k) ∧ DRs G.pd w (xs.flatMap VV.cells) ms ∧ (∀ x ∈ xs, x.cells.length = sz) ∧ (∀ u ∈ ms, u.oneCell' = true) ∧ xs.length ≤ maxLen ∧ 0 < sz ∧ G.B ≤ G.bl t
def SlotR (G : Gh) (w : World) (t : Nat) : VV → Value → Prop
  | .ow e z xs, m => OwnR G w (t, 0) e z xs m
  | .nl, m => m = .slice none 0 0
  | .bx cs, m => BoxR G w t cs m
  | .mr e sz xs, m => MadeR G w t e sz xs m
  | .pt u o, m => m = .pointer (some ⟨G.bl u, o, none⟩)
  | .sr u n, m => m = .slice (some ⟨G.bl u, 0, none⟩) n n
  | .pe u i sz, m => m = .pointer (some ⟨G.bl u, i.toNat * sz, none⟩)
  | .vw cs, m => ViewR G w cs m
  | .cl f cap, m => ∃ ms : List Value, m = .func (.func f) #[] ms.toArray ∧ cap.length = ms.length ∧ ∀ (i : Nat) v u, cap[i]? = some v → ms[i]? = some u → CapR G w v u
  | v, m => DR G.pd w v m
theorem SlotR.un {G : Gh} {w : World} {t : Nat} {m : Value} : SlotR G w t .un m := DR.un m
structure Evo (G : Gh) (w : World) (G' : Gh) (w' : World) (T L : Nat → Prop) : Prop where
  d : ∀ g k m, G.pd g k → w.cell? ⟨g, k, none⟩ = some m → G'.pd g k ∧ w'.cell? ⟨g, k, none⟩ = some m
  v : ∀ g k m, G.pv g k → w.cell? ⟨g, k, none⟩ = some m → G'.pv g k ∧ w'.cell? ⟨g, k, none⟩ = some m
  b : ∀ g t j o, G.own g = some (t, j) → w.heap[g]? = some o → ¬ T t → w'.heap[g]? = some o ∧ G'.own g = some (t, j) ∧ ∀ k, G'.pd g k ↔ G.pd g k
  l : ∀ t, ¬ L t → G'.bl t = G.bl t
  bb : G'.B = G.B
section
variable {G G' : Gh} {w w' : World} {T L : Nat → Prop}
theorem own_heap {B : Nat} {e : TypeId} {sz n g : Nat} {m : Value} {ms : List Value} (h : w.ownsRow B e sz m n ms) (hg : m.ownBlock = some g) : ∃ o, w.heap[g]? = some o := by
  rcases h.2 with ⟨rfl, _⟩ | ⟨g', cap, cur, rfl, _, hh, _⟩
  · simp [Value.ownBlock] at hg
  · simp [Value.ownBlock] at hg; subst hg; exact ⟨_, hh⟩
theorem own_moves {B : Nat} {e : TypeId} {sz n : Nat} {m : Value} {ms : List Value} (h : w.ownsRow B e sz m n ms) (hb : ∀ g o, m.ownBlock = some g → w.heap[g]? = some o → w'.heap[g]? = some o) : w'.ownsRow B e sz m n ms := by
  refine ⟨h.1, ?_⟩
  rcases h.2 with hn | ⟨g, cap, cur, rfl, h0, hh, rest⟩
  · exact .inl hn
  · exact .inr ⟨g, cap, cur, rfl, h0, hb g _ rfl hh, rest⟩
theorem OwnR.keep {p : Nat × Nat} {e : TypeId} {sz : Nat} {xs : List VV} {m : Value} (E : Evo G w G' w' T L) (hp : ¬ T p.1) (h : OwnR G w p e sz xs m) : OwnR G' w' p e sz xs m := by
  obtain ⟨ms, ho, hr, hz, h1, hl, hg⟩ := h
  refine ⟨ms, E.bb ▸ own_moves ho (fun g o hgb hh => (E.b g p.1 p.2 o (hg g hgb).1 hh hp).1), hr.keep E.d, hz, h1, hl, fun g hgb => ?_⟩
  obtain ⟨o, hh⟩ := own_heap ho hgb
  obtain ⟨_, h2, h3⟩ := E.b g p.1 p.2 o (hg g hgb).1 hh hp
  exact ⟨h2, fun k => (h3 k).trans ((hg g hgb).2 k)⟩
theorem CellR.keep {p : Nat × Nat} {v : VV} {m : Value} (E : Evo G w G' w' T L) (hp : ¬ T p.1) (h : CellR G w p v m) : CellR G' w' p v m := by
  cases v <;> first | exact OwnR.keep E hp h | exact DR.keep E.d h | exact h
theorem ViewR.keep {cs : List VV} {m : Value} (E : Evo G w G' w' T L) (h : ViewR G w cs m) : ViewR G' w' cs m := by
  obtain ⟨g, off, ms, rfl, hr, h1, hc⟩ := h
  exact ⟨g, off, ms, rfl, hr.keep E.d, h1, fun k u hu => let ⟨a, b⟩ := E.v _ _ _ (hc k u hu).2 (hc k u hu).1; ⟨b, a⟩⟩
theorem CapR.keep {v : VV} {m : Value} (E : Evo G w G' w' T L) (hr : ∀ u, L u → refers u v = false) (h : CapR G w v m) : CapR G' w' v m := by
  cases v <;> first
    | exact ViewR.keep E h
    | (rename_i u o; have hn : ¬ L u := fun hT => by have := hr u hT; simp [refers] at this
       show _ = _; rw [E.l u hn]; exact h)
    | exact h.elim
theorem BoxR.keep {t : Nat} {cs : List VV} {m : Value} (E : Evo G w G' w' T L) (hp : ¬ T t) (hq : ¬ L t) (h : BoxR G w t cs m) : BoxR G' w' t cs m := by
  obtain ⟨ms, ty, rfl, hh, ho, hn, hl, hc, h1⟩ := h
  obtain ⟨a, b, c⟩ := E.b _ t 0 _ ho hh hp
  refine ⟨ms, ty, by rw [E.l t hq], by rw [E.l t hq]; exact a, by rw [E.l t hq]; exact b, fun k hk => hn k ((c k).1 (by rw [E.l t hq] at hk; exact hk)), hl, fun i v u hv hu => CellR.keep E hp (hc i v u hv hu), h1⟩
theorem MadeR.keep {t : Nat} {e : TypeId} {sz : Nat} {xs : List VV} {m : Value} (E : Evo G w G' w' T L) (hp : ¬ T t) (hq : ¬ L t) (h : MadeR G w t e sz xs m) : MadeR G' w' t e sz xs m := by
  obtain ⟨ms, rfl, hh, ho, hn, hr, hz, h1, hl, h0, hB⟩ := h
  obtain ⟨a, b, c⟩ := E.b _ t 0 _ ho hh hp
  exact ⟨ms, by rw [E.l t hq], by rw [E.l t hq]; exact a, by rw [E.l t hq]; exact b, fun k hk => hn k ((c k).1 (by rw [E.l t hq] at hk; exact hk)), hr.keep E.d, hz, h1, hl, h0, by rw [E.bb, E.l t hq]; exact hB⟩
theorem SlotR.keep {t : Nat} {v : VV} {m : Value} (E : Evo G w G' w' T L) (hp : ¬ T t) (hq : ¬ L t) (hr : ∀ u, L u → refersD u v = false) (h : SlotR G w t v m) : SlotR G' w' t v m := by
  cases v <;> first
    | exact DR.keep E.d h
    | exact OwnR.keep E hp h
    | exact BoxR.keep E hp hq h
    | exact MadeR.keep E hp hq h
    | exact ViewR.keep E h
    | (obtain ⟨ms, rfl, hl, hc⟩ := h
       refine ⟨ms, rfl, hl, fun i v u hv hu => CapR.keep E (fun x hx => ?_) (hc i v u hv hu)⟩
       have h2 := hr x hx
       simp only [refersD, List.any_eq_false] at h2
       simpa using h2 v (List.mem_of_getElem? hv))
    | (rename_i u _; have hn : ¬ L u := fun hT => by have := hr u hT; simp [refersD, refers] at this
       show _ = _; rw [E.l u hn]; exact h)
    | (rename_i u _ _; have hn : ¬ L u := fun hT => by have := hr u hT; simp [refersD, refers] at this
       show _ = _; rw [E.l u hn]; exact h)
    | exact h
end
theorem hao_ (w : World) (o : Obj) (i : Nat) (h : i < w.heap.size) : (w.alloc o).heap[i]? = w.heap[i]? := by
  show (w.heap.push o)[i]? = _
  rw [Array.getElem?_push_lt h, Array.getElem?_eq_getElem h]
structure Fr (io : List Nat) (B : Nat) (w w' : World) : Prop where
  os : w'.os = w.os
  tape : w'.tape = w.tape
  output : w'.output = w.output
  size : w.heap.size ≤ w'.heap.size
  block : ∀ k, k < B → k ∉ io → w'.heap[k]? = w.heap[k]?
theorem Fr.refl (io : List Nat) (B : Nat) (w : World) : Fr io B w w := ⟨rfl, rfl, rfl, Nat.le_refl _, fun _ _ _ => rfl⟩
theorem Fr.trans {io : List Nat} {B : Nat} {a b c : World} (h : Fr io B a b) (k : Fr io B b c) : Fr io B a c :=
  ⟨k.os.trans h.os, k.tape.trans h.tape, k.output.trans h.output, Nat.le_trans h.size k.size, fun i h1 h2 => (k.block i h1 h2).trans (h.block i h1 h2)⟩
theorem Fr.alloc {io : List Nat} {B : Nat} {a b : World} (h : Fr io B a b) (hB : B ≤ a.heap.size) (o : Obj) : Fr io B a (b.alloc o) :=
  ⟨h.os, h.tape, h.output, Nat.le_trans h.size (by simp), fun i h1 h2 => (hao_ b o i (by have := h.size; omega)).trans (h.block i h1 h2)⟩
structure TIok (P : Program) (ti : TypeId → Option TI) : Prop where
  info : ∀ t i, ti t = some i → ∃ inf z, P.info? t = some inf ∧ inf.zero = some z ∧ z.cells.toList = i.zero ∧ inf.size = i.sz ∧ inf.bytes = i.bytes ∧ i.zero.length = i.sz ∧ (∀ v ∈ i.zero, v.oneCell' = true) ∧ (match i.k with
    | .agg _ => ∃ c, z = .agg c
    | _ => i.sz = 1)
  kind : ∀ t i, ti t = some i → match i.k with
    | .agg fs => ∃ fields, P.underlying t = some (.struct fields) ∧ fields.size = fs.length ∧ ∀ (j : Nat) o z, fs[j]? = some (o, z) → ∃ f inf, fields[j]? = some f ∧ f.offset = o ∧ P.info? f.type = some inf ∧ inf.size = z
    | .slice e => P.underlying t = some (.slice e)
    | .str => P.underlying t = some .string
    | .bool => P.underlying t = some .bool
    | .int k => P.underlying t = some (.int k)
    | .ptr => ∃ e, P.underlying t = some (.pointer e)
structure Sim (NG : Nat) (GW : World → Prop) (io : List Nat) (w0 : World) (pd0 : Nat → Nat → Prop) (G : Gh) (env : Env) (a : Act) (w : World) : Prop where
  size : env.length = a.tmps.size
  slot : ∀ (t : Nat) v m, env[t]? = some v → a.tmps[t]? = some m → SlotR G w t v m
  df : a.defers = []
  fr : Fr io w0.heap.size w0 w
  gw : GW w
  ng : NG ≤ w0.heap.size
  ngio : ∀ g ∈ io, NG ≤ g
  own : ∀ g p, G.own g = some p → g < w.heap.size ∧ (w0.heap.size ≤ g ∨ g ∈ io)
  ownp : ∀ g k, G.own g ≠ none → G.pv g k → G.pd g k
  dv : ∀ g k, G.pd g k → G.pv g k
  B : G.B = w0.heap.size
  old : ∀ g k, g < w0.heap.size → G.pd g k → pd0 g k
def VR (G : Gh) (w : World) : VV → Value → Prop
  | .ow _ _ _, _ => False
  | .nl, _ => False
  | .bx _, _ => False
  | .mr _ _ _, _ => False
  | v, m => SlotR G w 0 v m
theorem VR.slot {G : Gh} {w : World} {v : VV} {m : Value} (h : VR G w v m) (t : Nat) : SlotR G w t v m := by cases v <;> first | exact h | exact h.elim
theorem VR.of_dr {G : Gh} {w : World} {v : VV} {m : Value} (h : DR G.pd w v m) : VR G w v m := by cases h <;> (show DR G.pd w _ _) <;> constructor <;> assumption
theorem nth_some {env : Env} {t : Nat} {v : VV} (h : env[t]? = some v) : nth env t = v := by
  induction env generalizing t with
  | nil => simp at h
  | cons a r ih => cases t with
    | zero => simpa [nth] using h
    | succ t => exact ih (by simpa using h)
theorem nth_none {env : Env} {t : Nat} (h : env[t]? = none) : nth env t = .un := by
  induction env generalizing t with
  | nil => cases t <;> rfl
  | cons a r ih => cases t with
    | zero => simp at h
    | succ t => exact ih (by simpa using h)
theorem frc1_eq {α : Type} (v : VV) (k : VV → α) : frc1 v k = k v := by cases v <;> rfl
theorem frcL_eq {α : Type} : ∀ (l : List VV) (k : List VV → α), frcL l k = k l
  | [], _ => rfl
  | v :: r, k => by rw [frcL, frc1_eq, frcL_eq r]
theorem frc_eq {α : Type} (v : VV) (k : VV → α) : frc v k = k v := by cases v <;> first | rfl | (rw [frc, frcL_eq])
theorem setK_eq {α : Type} : ∀ (n : Nat) (v : VV) (env : Env) (k : Env → α), setK n v env k = k (env.set n v)
  | _, _, [], _ => by simp [setK]
  | 0, _, _ :: _, _ => rfl
  | n + 1, v, a :: r, k => by rw [setK, setK_eq n v r]; rfl
section
variable {R : Type} {K : Env → Option R}
theorem vset_eq (t : Nat) (v : VV) (env : Env) : vset t v env K = K (env.set t v) := by rw [vset, frc_eq, setK_eq]
theorem vput_some {dr : Option (List Nat)} {dst : Option Nat} {v : VV} {env : Env} {r : R} (h : vput dr dst v env K = some r) : K (put dst v env) = some r := by
  cases dst with
  | none => exact h
  | some d =>
    cases dr with
    | none => simpa [vput, vset_eq, put] using h
    | some l =>
      simp only [vput] at h
      split at h
      · simpa [vset_eq, put] using h
      · cases h
theorem clearK_eq {α : Type} (l : Option (List Nat)) (env : Env) (k : Env → α) : clearK l env k = k (clear l env) := frcL_eq _ _
end
section
variable {P : Program} {NG : Nat} {GW : World → Prop} {io : List Nat} {w0 : World} {pd0 : Nat → Nat → Prop} {G G' : Gh} {env : Env} {a : Act} {w w' : World}
theorem OwnR.dr {p : Nat × Nat} {e : TypeId} {sz : Nat} {xs : List VV} {m : Value} (h : OwnR G w p e sz xs m) : DR G.pd w (.sl xs) m := by
  obtain ⟨ms, ho, hr, hz, h1, hl, hg⟩ := h
  rcases ho.2 with ⟨rfl, hn⟩ | ⟨g, cap, cur, rfl, h0, hh, hnc, hcm, hcs, htk⟩
  · obtain rfl : xs = [] := List.eq_nil_of_length_eq_zero hn
    exact .sl0 _ _
  · refine .sl xs g 0 cap sz ms hnc hl hz hr h1 fun k u hu => ?_
    have hk : k < xs.length * sz := by rw [← ho.1]; exact (List.getElem?_eq_some_iff.1 hu).1
    refine ⟨?_, by rw [Nat.zero_add]; exact ((hg g rfl).2 k).2 hk⟩
    have h2 := ho.cells (g := g) rfl k u hu
    have hadd : (⟨g, 0, none⟩ : Addr).add k = ⟨g, 0 + k, none⟩ := by unfold Addr.add; split <;> simp_all
    rw [hadd] at h2; exact h2
theorem view_rel {t : Nat} {v : VV} {m : Value} (h : SlotR G w t v m) : VR G w (view t v) m := by
  cases v <;> first
    | exact h
    | exact VR.of_dr (OwnR.dr h)
    | (obtain ⟨ms, ty, rfl, _⟩ := h; exact rfl)
    | (obtain ⟨ms, rfl, _⟩ := h; exact rfl)
    | (cases h; exact VR.of_dr (.sl0 _ _))
theorem get_rel (hs : Sim NG GW io w0 pd0 G env a w) (t : Nat) : ∃ v, get env t = v ∧ SlotR G w t v (a.eval (.tmp t)) := by
  refine ⟨_, rfl, ?_⟩
  cases h : env[t]? with
  | none => rw [get, nth_none h]; exact SlotR.un
  | some v =>
    rw [get, nth_some h]
    have ht : t < a.tmps.size := by rw [← hs.size]; exact (List.getElem?_eq_some_iff.1 h).1
    have := hs.slot t v (a.tmps[t]) h (Array.getElem?_eq_getElem ht)
    simpa [Act.eval, ht] using this
theorem get_slot (hs : Sim NG GW io w0 pd0 G env a w) (t : Nat) : SlotR G w t (get env t) (a.eval (.tmp t)) := let ⟨v, h, k⟩ := get_rel hs t; h ▸ k
theorem liftc_rel (v : Value) : DR G.pd w (liftc v) v := by
  unfold liftc; split
  · exact .sl0 _ _
  · exact .s _
theorem liftcs_rel : ∀ ms : List Value, DRs G.pd w (ms.map liftc) ms
  | [] => .nil
  | m :: ms => .cons _ _ _ _ (liftc_rel m) (liftcs_rel ms)
theorem lift_rel (v : Value) : VR G w (lift v) v := by
  unfold lift
  split
  · exact VR.of_dr (.sl0 _ _)
  · rename_i cs
    split
    · rename_i h
      have := DR.ag (pd := G.pd) (w := w) _ _ (liftcs_rel cs.toList) (by rw [List.all_eq_true] at h; exact h)
      exact VR.of_dr (by simpa using this)
    · exact VR.of_dr (.un _)
  · exact VR.of_dr (.s _)
theorem rdv_rel (hs : Sim NG GW io w0 pd0 G env a w) (x : Operand) : VR G w (rdv env x) (a.eval x) := by
  cases x with
  | tmp t => exact view_rel (get_slot hs t)
  | const v => exact lift_rel v
  | global g => exact VR.of_dr (.un _)
  | func f => exact ⟨[], rfl, rfl, fun i v u h => by simp at h⟩
theorem Sim.put (hs : Sim NG GW io w0 pd0 G env a w) (dst : Option Nat) {v : VV} {m : Value} (h : ∀ d, dst = some d → SlotR G w d v m) : Sim NG GW io w0 pd0 G (put dst v env) (a.put dst m) w := by
  cases dst with
  | none => exact hs
  | some d =>
    refine { hs with size := by simpa [VI.put, Act.put] using hs.size, slot := ?_ }
    intro t u n hu hn
    simp only [VI.put, Act.put] at hu hn
    rw [List.getElem?_set] at hu
    rw [Array.getElem?_setIfInBounds] at hn
    by_cases hd : d = t
    · subst hd
      rw [if_pos rfl] at hu hn
      split at hu
      · rename_i hl; rw [if_pos (by rw [← hs.size]; exact hl)] at hn
        cases hu; cases hn; exact h d rfl
      · cases hu
    · rw [if_neg hd] at hu hn
      exact hs.slot t u n hu hn
theorem Sim.evo {T L : Nat → Prop} {env' : Env} (hs : Sim NG GW io w0 pd0 G env a w) (E : Evo G w G' w' T L) (hl : env'.length = env.length)
    (hk : ∀ (t : Nat) v' m, env'[t]? = some v' → a.tmps[t]? = some m → (∃ v, env[t]? = some v ∧ v' = v ∧ ¬ T t ∧ ¬ L t ∧ ∀ u, L u → refersD u v = false) ∨ SlotR G' w' t v' m)
    (hf : Fr io w0.heap.size w0 w') (hg : GW w') (ho : ∀ g p, G'.own g = some p → g < w'.heap.size ∧ (w0.heap.size ≤ g ∨ g ∈ io)) (hp : ∀ g k, G'.own g ≠ none → G'.pv g k → G'.pd g k) (hdv : ∀ g k, G'.pd g k → G'.pv g k) (hold : ∀ g k, g < w0.heap.size → G'.pd g k → pd0 g k) : Sim NG GW io w0 pd0 G' env' a w' where
  size := hl.trans hs.size
  slot t v m hv hm := by
    rcases hk t v m hv hm with ⟨u, hu, rfl, h1, h2, h3⟩ | h
    · exact SlotR.keep E h1 h2 h3 (hs.slot t _ m hu hm)
    · exact h
  df := hs.df
  fr := hf
  gw := hg
  ng := hs.ng
  ngio := hs.ngio
  own := ho
  ownp := hp
  dv := hdv
  B := E.bb.trans hs.B
  old := hold
theorem kill_none {t : Nat} {v : VV} (h : refersD t v = false) : kill t v = v := by
  cases v <;> simp_all [refersD, refers, kill]
theorem nbeq_false {a b : Nat} (h : ¬ a = b) : Nat.beq a b = false := by
  cases hb : Nat.beq a b
  · rfl
  · exact absurd (Nat.eq_of_beq_eq_true hb) h
theorem kill_refers (t : Nat) (v : VV) : refersD t (kill t v) = false := by
  cases v <;> simp only [kill] <;> (try split) <;> simp_all [refersD, refers, nbeq_false]
theorem kill_slot {t d : Nat} {v : VV} {m : Value} (h : SlotR G w t v m) : SlotR G w t (kill d v) m := by
  by_cases hr : refersD d v = false
  · rw [kill_none hr]; exact h
  · have : kill d v = .un := by
      cases v <;> simp_all [refersD, refers, kill]
    rw [this]; exact SlotR.un
theorem Sim.fresh (hs : Sim NG GW io w0 pd0 G env a w) (gws : ∀ w w', GW w → Below NG w w' → GW w') (d : Nat) (b : VV) (ms : List Value) (ty : TypeId) (m : Value)
    (hb : ∀ G' : Gh, G'.B ≤ w.heap.size → G'.bl d = w.heap.size → G'.own w.heap.size = some (d, 0) → (∀ k, ¬ G'.pd w.heap.size k) → (∀ v m, DR G.pd w v m → DR G'.pd (w.alloc (.cells ms.toArray ty)) v m) → SlotR G' (w.alloc (.cells ms.toArray ty)) d b m) :
    ∃ G', Sim NG GW io w0 pd0 G' ((env.map (kill d)).set d b) (a.put (some d) m) (w.alloc (.cells ms.toArray ty)) := by
  let g := w.heap.size
  let G' : Gh := ⟨fun x k => x ≠ g ∧ G.pd x k, fun x k => x ≠ g ∧ G.pv x k, fun t => if t = d then g else G.bl t, fun x => if x = g then some (d, 0) else G.own x, G.B⟩
  have hlt : ∀ x k m, w.cell? ⟨x, k, none⟩ = some m → x ≠ g := fun x k m h e => by have := World.block_lt_of_cell? w _ h; simp only [g] at e; simp at this; omega
  have hkeep : ∀ x k m, w.cell? ⟨x, k, none⟩ = some m → (w.alloc (.cells ms.toArray ty)).cell? ⟨x, k, none⟩ = some m := fun x k m h => by
    rw [World.cell?_of_block (hao_ w _ x (by have := World.block_lt_of_cell? w _ h; simpa using this))]; exact h
  have E : Evo G w G' (w.alloc (.cells ms.toArray ty)) (fun _ => False) (fun t => t = d) := by
    refine ⟨fun x k m h1 h2 => ⟨⟨hlt x k m h2, h1⟩, hkeep x k m h2⟩, fun x k m h1 h2 => ⟨⟨hlt x k m h2, h1⟩, hkeep x k m h2⟩, ?_, fun t ht => if_neg ht, rfl⟩
    intro x t j o h1 h2 _
    have hx : x < w.heap.size := (Array.getElem?_eq_some_iff.1 h2).1
    have hne : x ≠ g := by simp only [g]; omega
    exact ⟨(hao_ w _ x hx).trans h2, by simp only [G', if_neg hne]; exact h1, fun k => ⟨fun h => h.2, fun h => ⟨hne, h⟩⟩⟩
  refine ⟨G', ?_⟩
  have hsim : Sim NG GW io w0 pd0 G' ((env.map (kill d)).set d .un) a (w.alloc (.cells ms.toArray ty)) := by
    refine hs.evo E (by simp) ?_ (hs.fr.alloc (Nat.le_refl _) _) (gws _ _ hs.gw ((Below.refl _ w).alloc (by have := hs.ng; have := hs.fr.size; omega) _)) ?_ ?_ ?_ (fun x k h1 h2 => hs.old x k h1 h2.2)
    · intro t v m hv hm
      by_cases htd : t = d
      · subst htd
        rw [List.getElem?_set, if_pos rfl] at hv
        split at hv
        · cases hv; exact .inr SlotR.un
        · cases hv
      · rw [List.getElem?_set, if_neg (fun e => htd e.symm), List.getElem?_map] at hv
        obtain ⟨u, hu, rfl⟩ := Option.map_eq_some_iff.1 hv
        refine .inr (SlotR.keep E id htd (fun x hx => ?_) (kill_slot (hs.slot t u m hu hm)))
        subst hx; exact kill_refers _ _
    · intro x p hx
      simp only [G'] at hx
      split at hx
      · rename_i e; subst e; exact ⟨by simp [g], .inl (by simp only [g]; exact hs.fr.size)⟩
      · have := hs.own x p hx; exact ⟨by simp; omega, this.2⟩
    · intro x k hx hk
      simp only [G'] at hx hk ⊢
      rw [if_neg hk.1] at hx
      exact ⟨hk.1, hs.ownp x k hx hk.2⟩
    · exact fun x k hk => ⟨hk.1, hs.dv x k hk.2⟩
  have := hsim.put (some d) (v := b) (m := m) fun d' hd => by
    cases hd
    exact hb G' (by show G.B ≤ _; rw [hs.B]; exact hs.fr.size) (if_pos rfl) (if_pos rfl) (fun k hk => hk.1 rfl) fun v m h => h.keep E.d
  simpa [VI.put] using this
end
section
variable {P : Program} {NG : Nat} {GW : World → Prop} {io : List Nat} {w0 : World} {pd0 : Nat → Nat → Prop} {G G' : Gh} {env : Env} {a : Act} {w w' : World}
def rehome (G : Gh) (m : Value) (p : Nat × Nat) : Gh := { G with own := fun g => if m.ownBlock = some g then some p else G.own g }
theorem OwnR.home {p p' : Nat × Nat} {e : TypeId} {sz : Nat} {xs : List VV} {m : Value} (h : OwnR G w p e sz xs m) : OwnR (rehome G m p') w p' e sz xs m := by
  obtain ⟨ms, ho, hr, hz, h1, hl, hg⟩ := h
  exact ⟨ms, ho, hr, hz, h1, hl, fun g hgb => ⟨if_pos hgb, (hg g hgb).2⟩⟩
theorem OwnR.other {p p' q : Nat × Nat} {e e' : TypeId} {sz sz' : Nat} {xs ys : List VV} {m u : Value} (h : OwnR G w p e sz xs m) (k : OwnR G w q e' sz' ys u) (hq : q ≠ p) : OwnR (rehome G m p') w q e' sz' ys u := by
  obtain ⟨ms, ho, hr, hz, h1, hl, hg⟩ := k
  refine ⟨ms, ho, hr, hz, h1, hl, fun g hgb => ⟨?_, (hg g hgb).2⟩⟩
  by_cases hm : m.ownBlock = some g
  · obtain ⟨_, _, _, _, _, _, hg'⟩ := h
    exact absurd ((hg g hgb).1.symm.trans (hg' g hm).1) (fun e => hq (Option.some.inj e))
  · simp only [rehome, if_neg hm]; exact (hg g hgb).1
theorem OwnR.evo {p p' : Nat × Nat} {e : TypeId} {sz : Nat} {xs : List VV} {m : Value} (h : OwnR G w p e sz xs m) : Evo G w (rehome G m p') w (fun t => t = p.1) (fun _ => False) := by
  refine ⟨fun _ _ _ a b => ⟨a, b⟩, fun _ _ _ a b => ⟨a, b⟩, ?_, fun _ _ => rfl, rfl⟩
  intro g t j o h1 h2 h3
  refine ⟨h2, ?_, fun _ => Iff.rfl⟩
  by_cases hm : m.ownBlock = some g
  · obtain ⟨_, _, _, _, _, _, hg'⟩ := h
    have := h1.symm.trans (hg' g hm).1
    exact absurd (congrArg Prod.fst (Option.some.inj this)) h3
  · simp only [rehome, if_neg hm]; exact h1
theorem OwnR.owns {p p' : Nat × Nat} {e : TypeId} {sz : Nat} {xs : List VV} {m : Value} (h : OwnR G w p e sz xs m) (hs : Sim NG GW io w0 pd0 G env a w) : ∀ g q, (rehome G m p').own g = some q → g < w.heap.size ∧ (w0.heap.size ≤ g ∨ g ∈ io) := by
  intro g q hq
  by_cases hm : m.ownBlock = some g
  · obtain ⟨_, _, _, _, _, _, hg'⟩ := h
    exact hs.own g p (hg' g hm).1
  · simp only [rehome, if_neg hm] at hq; exact hs.own g q hq
theorem OwnR.ownsp {p p' : Nat × Nat} {e : TypeId} {sz : Nat} {xs : List VV} {m : Value} (h : OwnR G w p e sz xs m) (hs : Sim NG GW io w0 pd0 G env a w) : ∀ g k, (rehome G m p').own g ≠ none → (rehome G m p').pv g k → (rehome G m p').pd g k := by
  intro g k hq hk
  by_cases hm : m.ownBlock = some g
  · obtain ⟨_, _, _, _, _, _, hg'⟩ := h
    exact hs.ownp g k (by rw [(hg' g hm).1]; simp) hk
  · simp only [rehome, if_neg hm] at hq; exact hs.ownp g k hq hk
theorem Sim.give (hs : Sim NG GW io w0 pd0 G env a w) {t d : Nat} {e : TypeId} {sz : Nat} {xs : List VV} (ht : get env t = .ow e sz xs) :
    ∃ G', Sim NG GW io w0 pd0 G' (VI.put (some d) (.ow e sz xs) (env.set t (.sl xs))) (a.put (some d) (a.eval (.tmp t))) w := by
  have h : OwnR G w (t, 0) e sz xs (a.eval (.tmp t)) := by have := get_slot hs t; rw [ht] at this; exact this
  refine ⟨rehome G (a.eval (.tmp t)) (d, 0), ?_⟩
  refine Sim.put (hs.evo h.evo (by simp) ?_ hs.fr hs.gw (h.owns hs) (h.ownsp hs) hs.dv hs.old) (some d) (fun d' hd => by cases hd; exact h.home)
  intro u v m hv hm
  by_cases hu : t = u
  · subst hu
    rw [List.getElem?_set, if_pos rfl] at hv
    split at hv
    · cases hv
      have hq : a.eval (.tmp t) = m := by
        obtain ⟨hlt, rfl⟩ := Array.getElem?_eq_some_iff.1 hm
        simp [Act.eval, hlt]
      rw [← hq]
      exact .inr (VR.slot (VR.of_dr (OwnR.dr h.home)) _)
    · cases hv
  · rw [List.getElem?_set, if_neg hu] at hv
    exact .inl ⟨v, hv, rfl, fun e => hu e.symm, id, fun _ h => h.elim⟩
section
variable {R : Type} {K : Env → Option R} {r : R} {next : Act → World → Prop} {Q : Exit → Act → World → Prop} {o : Oper} {C : Cx} {ops : List Oper} {dr : Option (List Nat)}
theorem wp_value {m : Value} (hrun : (execOp a.eval o).run P w = .ok (.value m) w') (h : next (a.put o.dst m) w') : o.wp P a w next Q := by
  unfold Oper.wp; rw [hrun]; exact h
theorem wp_skip' (hrun : (execOp a.eval o).run P w = .ok .skip w') (h : next (a.put o.dst undef) w') : o.wp P a w next Q := by
  unfold Oper.wp; rw [hrun]; exact h
abbrev Nx (NG : Nat) (GW : World → Prop) (io : List Nat) (w0 : World) (pd0 : Nat → Nat → Prop) (K : Env → Option R) (r : R) (next : Act → World → Prop) : Prop := ∀ G' env' a' w', Sim NG GW io w0 pd0 G' env' a' w' → K env' = some r → next a' w'
theorem val_sound {v : VV} {m : Value} (hs : Sim NG GW io w0 pd0 G env a w) (hn : Nx NG GW io w0 pd0 K r next) (hrun : (execOp a.eval o).run P w = .ok (.value m) w) (hv : VR G w v m) (h : vput dr o.dst v env K = some r) : o.wp P a w next Q :=
  wp_value hrun (hn _ _ _ _ (hs.put o.dst fun d _ => hv.slot d) (vput_some h))
theorem move_sound {own : Bool} {x : Operand} (hs : Sim NG GW io w0 pd0 G env a w) (hn : Nx NG GW io w0 pd0 K r next) (hrun : (execOp a.eval o).run P w = .ok (.value (a.eval x)) w) (h : vmove dr own o.dst x env K = some r) : o.wp P a w next Q := by
  unfold vmove at h
  split at h
  · rename_i t
    split at h
    · rename_i e sz xs ht
      split at h
      · rw [vset_eq] at h
        have h2 := vput_some h
        cases hd : o.dst with
        | none =>
          refine wp_value hrun (hn G _ _ _ ?_ h2)
          rw [hd]
          have h' : OwnR G w (t, 0) e sz xs (a.eval (.tmp t)) := by have := get_slot hs t; rw [ht] at this; exact this
          have hp := hs.put (some t) (v := .sl xs) (m := a.eval (.tmp t)) (fun d hd => by cases hd; exact VR.slot (VR.of_dr h'.dr) _)
          have ha : a.put (some t) (a.eval (.tmp t)) = a := by
            simp only [Act.put, Act.eval]
            congr 1
            by_cases hlt : t < a.tmps.size
            · refine Array.ext (by simp) fun i h1 h2 => ?_
              rw [Array.getElem_setIfInBounds (by simpa using h1)]
              split
              · rename_i e; subst e; simp [hlt]
              · rfl
            · simp [Array.setIfInBounds, hlt]
          rw [ha] at hp
          exact hp
        | some d =>
          obtain ⟨G', hg⟩ := hs.give (d := d) ht
          refine wp_value hrun (hn G' _ _ _ ?_ h2)
          rw [hd]; exact hg
      · have h' : OwnR G w (t, 0) e sz xs (a.eval (.tmp t)) := by have := get_slot hs t; rw [ht] at this; exact this
        exact val_sound hs hn hrun (VR.of_dr h'.dr) h
    · rename_i ht
      have h' : a.eval (.tmp t) = .slice none 0 0 := by have := get_slot hs t; rw [ht] at this; exact this
      split at h
      · exact wp_value hrun (hn _ _ _ _ (hs.put o.dst fun d _ => (show SlotR G w d .nl _ from h')) (vput_some h))
      · rw [h'] at hrun; exact val_sound hs hn hrun (VR.of_dr (.sl0 _ _)) h
    · exact val_sound hs hn hrun (rdv_rel hs _) h
  · split at h
    · exact wp_value hrun (hn _ _ _ _ (hs.put o.dst fun d _ => (show SlotR G w d .nl _ from rfl)) (vput_some h))
    · exact val_sound hs hn hrun (VR.of_dr (.sl0 _ _)) h
  · exact val_sound hs hn hrun (rdv_rel hs _) h
theorem bite_some {α : Type} {b : Bool} {x y : Option α} {r : α} (h : bite b x y = some r) : (b = true ∧ x = some r) ∨ (b = false ∧ y = some r) := by
  cases b
  · exact .inr ⟨rfl, h⟩
  · exact .inl ⟨rfl, h⟩
theorem must_some {α : Type} {b : Bool} {x : Option α} {r : α} (h : must b x = some r) : b = true ∧ x = some r := by
  cases b
  · cases h
  · exact ⟨rfl, h⟩
theorem VR.sv {v m : Value} (h : VR G w (.s v) m) : m = v := by cases h; rfl
theorem wr_eq (k : IntKind) (n : Int) : wr k n = k.wrap n := by
  cases k <;> simp only [wr]
  · simp [IntKind.wrap, IntKind.signed, IntKind.bits, wrap64]; omega
  · simp [IntKind.wrap, IntKind.signed, IntKind.bits]
theorem vint_run {op : BinOp} {k : IntKind} {x y : Int} {b : Bool} {v : Value} (h : vint op k x y = some (b, v)) (hb : b = true) (t : TypeId) (yk : IntKind) (hk : (op = .shr) ∨ k = yk) : (binOp op t (.int k x) (.int yk y)).run P w = .ok v w := by
  subst hb
  cases op <;> simp only [vint, Option.some.injEq, Prod.mk.injEq, reduceCtorEq] at h <;> first
    | (obtain ⟨h1, rfl⟩ := h
       have hk' : k = yk := by simpa using hk
       subst hk'
       simp [binOp, Op.intArith, Op.intDiv, Op.intBits, Op.intCmp, wr_eq] at h1 ⊢ <;> simp_all)
    | (obtain ⟨h1, rfl⟩ := h
       have h2 : ¬ y < 0 := by simp at h1; omega
       simp [binOp, Op.shift, h2])
theorem vstr_run {op : BinOp} {x y : ByteArray} {b : Bool} {v : Value} (h : vstr op x y = some (b, v)) (hb : b = true) (t : TypeId) : (binOp op t (.string x) (.string y)).run P w = .ok v w := by
  subst hb
  cases op <;> simp only [vstr, Option.some.injEq, Prod.mk.injEq, reduceCtorEq] at h <;> first
    | (obtain ⟨h1, rfl⟩ := h
       first
         | (rw [Go.Proofs.YtoidompkofomjaaGreatDoor.G.str_gtr]; rfl)
         | (rw [Go.Proofs.YtoidompkofomjaaGreatDoor.G.str_leq]; rfl)
         | (rw [Go.Proofs.YtoidompkofomjaaGreatDoor.G.str_geq]; rfl)
         | (simp [binOp, Op.stringOp]; done)
         | (have h2 : ¬ ((x.size + y.size : Nat) : Int) > IntKind.i64.max := by
              have : x.size + y.size ≤ 9223372036854775807 := by simpa using h1
              simp [IntKind.max, IntKind.signed, IntKind.bits]; omega
            simp [binOp, Op.stringOp] at h2 ⊢; omega))
end
end
section
variable {α : Type}
theorem setCells_len : ∀ (vs : List α) (cs : List α) (off : Nat), (setCells cs off vs).length = cs.length
  | [], _, _ => rfl
  | v :: r, cs, off => by rw [setCells, setCells_len r]; simp
theorem setCells_eq : ∀ (vs : List α) (cs : List α) (off : Nat), off + vs.length ≤ cs.length → setCells cs off vs = cs.take off ++ vs ++ cs.drop (off + vs.length)
  | [], cs, off, _ => by simp [setCells]
  | v :: r, cs, off, h => by
    have hl : off < cs.length := by simp at h; omega
    rw [setCells, setCells_eq r (cs.set off v) (off + 1) (by simp at h ⊢; omega)]
    have h1 : (cs.set off v).take (off + 1) = cs.take off ++ [v] := by
      rw [List.take_add_one, List.take_set_of_le (Nat.le_refl _)]
      simp [hl]
    have h2 : (cs.set off v).drop (off + 1 + r.length) = cs.drop (off + (v :: r).length) := by
      rw [List.drop_set_of_lt (by omega)]
      simp; congr 1; omega
    rw [h1, h2]; simp
theorem fold_setCells : ∀ (vs : List α) (cs : Array α) (off i : Nat), ((vs.zipIdx i).foldl (fun cs (x : α × Nat) => cs.setIfInBounds (off + x.2) x.1) cs).toList = setCells cs.toList (off + i) vs
  | [], _, _, _ => rfl
  | v :: r, cs, off, i => by
    rw [List.zipIdx_cons, List.foldl_cons, fold_setCells r, setCells]
    simp [Nat.add_assoc]
end
section
variable {pd : Nat → Nat → Prop} {w : World}
theorem DRs.setCells : ∀ {us : List VV} {ns : List Value} {vs : List VV} {ms : List Value} (off : Nat), DRs pd w us ns → DRs pd w vs ms → DRs pd w (VI.setCells vs off us) (VI.setCells ms off ns)
  | _, _, _, _, _, .nil, h => h
  | _, _, _, _, off, .cons _ _ _ _ h hs, h' => DRs.setCells (off + 1) hs (h'.set off h)
theorem setCells_all {α : Type} {p : α → Prop} : ∀ (us : List α) (ms : List α) (off : Nat), (∀ u ∈ us, p u) → (∀ u ∈ ms, p u) → ∀ u ∈ setCells ms off us, p u
  | [], _, _, _, h => h
  | v :: r, ms, off, hu, hm => setCells_all r (ms.set off v) (off + 1) (fun u h => hu u (by simp [h])) (fun u h => by
    rcases List.mem_or_eq_of_mem_set h with h | h
    · exact hm u h
    · exact h ▸ hu v (by simp))
end
section
variable {z : Nat} {xs : List VV}
theorem flat_len : ∀ {xs : List VV}, (∀ x ∈ xs, x.cells.length = z) → (xs.flatMap VV.cells).length = xs.length * z
  | [], _ => by simp
  | x :: r, h => by
    rw [List.flatMap_cons, List.length_append, h x (by simp), flat_len fun y hy => h y (by simp [hy]), List.length_cons, Nat.succ_mul, Nat.add_comm]
theorem flat_take : ∀ {xs : List VV} (n : Nat), (∀ x ∈ xs, x.cells.length = z) → (xs.flatMap VV.cells).take (n * z) = (xs.take n).flatMap VV.cells
  | [], n, _ => by simp
  | x :: r, 0, _ => by simp
  | x :: r, n + 1, h => by
    have hx := h x (by simp)
    rw [List.flatMap_cons, List.take_succ_cons, List.flatMap_cons, ← flat_take n fun y hy => h y (by simp [hy]), Nat.succ_mul, List.take_append, hx]
    rw [List.take_of_length_le (by omega)]
    congr 2; omega
theorem flat_drop : ∀ {xs : List VV} (n : Nat), (∀ x ∈ xs, x.cells.length = z) → (xs.flatMap VV.cells).drop (n * z) = (xs.drop n).flatMap VV.cells
  | [], n, _ => by simp
  | x :: r, 0, _ => by simp
  | x :: r, n + 1, h => by
    have hx := h x (by simp)
    rw [List.flatMap_cons, List.drop_succ_cons, ← flat_drop n fun y hy => h y (by simp [hy]), Nat.succ_mul, List.drop_append, hx]
    rw [List.drop_of_length_le (by omega), List.nil_append]
    congr 1; omega
theorem flat_elem {i : Nat} {x : VV} (h : ∀ x ∈ xs, x.cells.length = z) (hx : xs[i]? = some x) : ((xs.flatMap VV.cells).drop (i * z)).take z = x.cells := by
  obtain ⟨hi, rfl⟩ := List.getElem?_eq_some_iff.1 hx
  rw [flat_drop i h, List.drop_eq_getElem_cons hi, List.flatMap_cons, List.take_append, h _ (List.getElem_mem hi)]
  simp [List.take_of_length_le (Nat.le_of_eq (h _ (List.getElem_mem hi)))]
theorem flat_set {i : Nat} {v : VV} (h : ∀ x ∈ xs, x.cells.length = z) (hi : i < xs.length) (hv : v.cells.length = z) : (xs.set i v).flatMap VV.cells = setCells (xs.flatMap VV.cells) (i * z) v.cells := by
  rw [setCells_eq _ _ _ (by rw [flat_len h, hv]; calc i * z + z = (i + 1) * z := (Nat.succ_mul _ _).symm
                                _ ≤ xs.length * z := Nat.mul_le_mul_right _ hi)]
  rw [flat_take i h, hv, show i * z + z = (i + 1) * z from (Nat.succ_mul _ _).symm, flat_drop (i + 1) h, List.set_eq_take_append_cons_drop, if_pos hi]
  simp
theorem widths_set {i : Nat} {v : VV} (h : ∀ x ∈ xs, x.cells.length = z) (hv : v.cells.length = z) : ∀ x ∈ xs.set i v, x.cells.length = z := by
  intro x hx
  rcases List.mem_or_eq_of_mem_set hx with hx | hx
  · exact h x hx
  · exact hx ▸ hv
theorem repl_get {α : Type} (l : List α) (hl : 0 < l.length) : ∀ (n k : Nat), (List.replicate n l).flatten[k]? = if k < n * l.length then l[k % l.length]? else none
  | 0, k => by simp
  | n + 1, k => by
    rw [List.replicate_succ, List.flatten_cons]
    by_cases hk : k < l.length
    · rw [List.getElem?_append_left hk, if_pos (by rw [Nat.succ_mul]; omega), Nat.mod_eq_of_lt hk]
    · rw [List.getElem?_append_right (by omega), repl_get l hl n (k - l.length)]
      rw [Nat.mod_eq_sub_mod (a := k) (by omega), Nat.succ_mul]
      by_cases h : k - l.length < n * l.length
      · rw [if_pos h, if_pos (by omega)]
      · rw [if_neg h, if_neg (by omega)]
theorem made_list (z : Array Value) (hz : 0 < z.size) (n : Nat) : ((Array.range (n * z.size)).map (z[· % z.size]!)).toList = (List.replicate n z.toList).flatten := by
  refine List.ext_getElem? fun k => ?_
  rw [repl_get _ (by simpa using hz)]
  simp only [Array.length_toList, Array.toList_map, Array.toList_range, List.getElem?_map]
  by_cases hk : k < n * z.size
  · rw [if_pos hk, List.getElem?_range hk]
    have := Nat.mod_lt k hz
    simp [this]
  · rw [if_neg hk]
    simp; omega
end
section
variable {P : Program} {ti : TypeId → Option TI} {G : Gh} {w : World}
theorem zeroV_cells {i : TI} (hti : TIok P ti) {t : TypeId} (hi : ti t = some i) : (zeroV i).cells = i.zero.map liftc := by
  obtain ⟨inf, z, h1, h2, h3, h4, h5, h6, h7, h8⟩ := hti.info t i hi
  unfold zeroV
  cases hk : i.k <;> simp only [hk] at h8 ⊢ <;> first
    | rfl
    | (have hl : i.zero.length = 1 := h6.trans h8
       match hz : i.zero, hl with
       | [a], _ => simp only [List.map_cons, List.map_nil, List.headD_cons]; unfold liftc; split <;> rfl)
theorem repl_flat {v : VV} : ∀ n, (List.replicate n v).flatMap VV.cells = (List.replicate n v.cells).flatten
  | 0 => rfl
  | n + 1 => by rw [List.replicate_succ, List.flatMap_cons, repl_flat n, List.replicate_succ, List.flatten_cons]
theorem DRs.repl {pd : Nat → Nat → Prop} {cs : List VV} {ms : List Value} (h : DRs pd w cs ms) : ∀ n, DRs pd w (List.replicate n cs).flatten (List.replicate n ms).flatten
  | 0 => .nil
  | n + 1 => by rw [List.replicate_succ, List.replicate_succ, List.flatten_cons, List.flatten_cons]; exact h.app (DRs.repl h n)
end
end Go.Proofs.YtoidompkofomjaaGreatDoor.VI

end
section
namespace Go.Proofs.YtoidompkofomjaaGreatDoor.VI
open Go Go.RowKit
set_option linter.unusedVariables false
set_option linter.unusedSimpArgs false
section
variable {P : Program} {NG : Nat} {GW : World → Prop} {io : List Nat} {w0 : World} {pd0 : Nat → Nat → Prop} {G G' : Gh} {env : Env} {a : Act} {w w' : World} {ti : TypeId → Option TI}
variable {R : Type} {K : Env → Option R} {r : R} {next : Act → World → Prop} {Q : Exit → Act → World → Prop} {o : Oper} {C : Cx} {ops : List Oper} {dr : Option (List Nat)}
def isAgg' (i : TI) : Bool := match i.k with
  | .agg _ => true
  | _ => false
theorem run_isAgg' (hti : TIok P ti) {t : TypeId} {i : TI} (hi : ti t = some i) : (isAgg t).run P w = .ok (isAgg' i) w := by
  have hk := hti.kind t i hi
  unfold isAgg isAgg'
  cases h : i.k <;> simp only [h] at hk
  all_goals first
    | (obtain ⟨fs, hu, _⟩ := hk; simp [run_underlying hu]; done)
    | (obtain ⟨e, hu⟩ := hk; simp [run_underlying hu]; done)
    | (simp [run_underlying hk]; done)
theorem run_sizeOf' (hti : TIok P ti) {t : TypeId} {i : TI} (hi : ti t = some i) : (sizeOf t).run P w = .ok i.sz w := by
  obtain ⟨inf, z, h1, h2, h3, h4, h5, h6, h7, h8⟩ := hti.info t i hi
  simp [sizeOf, typeInfo, h1, h4]
def ldv (i : TI) (ms : List Value) : Value := if isAgg' i then .agg ms.toArray else ms.headD undef
theorem run_load' (hti : TIok P ti) {t : TypeId} {i : TI} (hi : ti t = some i) {g off : Nat} {ms : List Value} (hl : ms.length = i.sz) (hc : ∀ (k : Nat) u, ms[k]? = some u → w.cell? ⟨g, off + k, none⟩ = some u) :
    (Instr.loadAt t (.pointer (some ⟨g, off, none⟩))).run P w = .ok (ldv i ms) w := by
  have hc' : ∀ j v, ms[j]? = some v → w.cell? ((⟨g, off, none⟩ : Addr).add j) = some v := fun j v h => by rw [Addr.add_lit]; exact hc j v h
  have hr := run_loadCells_list (P := P) (w := w) ⟨g, off, none⟩ ms hc'
  unfold Instr.loadAt Instr.sureAddr loadVar ldv
  cases hagg : isAgg' i
  · obtain ⟨inf, z, h1, h2, h3, h4, h5, h6, h7, h8⟩ := hti.info t i hi
    have h1' : i.sz = 1 := by
      unfold isAgg' at hagg
      cases h : i.k <;> simp [h] at hagg h8 <;> exact h8
    match ms, hl with
    | [m], _ =>
      have := hc 0 m rfl
      simp [run_isAgg' hti hi, hagg] at this ⊢
      rw [this]
    | [], hl => simp at hl; omega
    | _ :: _ :: _, hl => simp at hl; omega
  · simp [run_isAgg' hti hi, hagg, run_sizeOf' hti hi]
    rw [← hl, hr]; rfl
theorem mkv_rel {pd : Nat → Nat → Prop} (hti : TIok P ti) {t : TypeId} {i : TI} (hi : ti t = some i) {c : List VV} {ms : List Value} (hr : DRs pd w (c.map VV.dv) ms) (hl : c.length = i.sz) (h1 : ∀ u ∈ ms, u.oneCell' = true) : DR pd w (mkv i c) (ldv i ms) := by
  obtain ⟨inf, z, _, h2, h3, h4, h5, h6, h7, h8⟩ := hti.info t i hi
  unfold mkv ldv isAgg'
  cases hk : i.k <;> simp only [hk] at h8 ⊢ <;> first
    | exact .ag _ _ hr h1
    | (match c, ms, hr, hl with
       | [v], [m], .cons _ _ _ _ h _, _ => exact h
       | [], _, _, hl => simp at hl; omega
       | _ :: _ :: _, _, _, hl => simp at hl; omega)
theorem cellsAt_some {cs c : List VV} {off n : Nat} (h : cellsAt cs off n = some c) : c = (cs.drop off).take n ∧ c.length = n := by
  unfold cellsAt at h
  split at h
  · cases h; exact ⟨rfl, by assumption⟩
  · cases h
theorem CellR.data {p : Nat × Nat} {v : VV} {m : Value} (h : CellR G w p v m) : DR G.pd w v.dv m := by
  cases v <;> first
    | (have h' : DR G.pd w _ m := h; rw [← h'.dv] at h'; exact h')
    | exact OwnR.dr h
    | (cases h; exact .sl0 _ _)
theorem drop_take_get {α : Type} {l : List α} {off n k : Nat} {v : α} (h : ((l.drop off).take n)[k]? = some v) : l[off + k]? = some v := by
  rw [List.getElem?_take] at h
  split at h
  · rwa [List.getElem?_drop] at h
  · cases h
theorem vload_view (hti : TIok P ti) {t : TypeId} {i : TI} (hi : ti t = some i) {cs : List VV} {off : Nat} {v : VV} {m : Value} (hv : vload i cs off = some v) (h : ViewR G w cs m) : ∃ g o, m = .pointer (some ⟨g, o, none⟩) ∧ ∃ u, (Instr.loadAt t (.pointer (some ⟨g, o + off, none⟩))).run P w = .ok u w ∧ DR G.pd w v u := by
  obtain ⟨g, o, ms, rfl, hr, h1, hc⟩ := h
  unfold vload at hv
  split at hv
  · rename_i c hcc
    cases hv
    obtain ⟨rfl, hl⟩ := cellsAt_some hcc
    have hd := (hr.drop off).take i.sz
    refine ⟨g, o, rfl, ldv i ((ms.drop off).take i.sz), run_load' hti hi (by rw [← hd.length]; exact hl) (fun k u hu => ?_), mkv_rel hti hi (by rw [hd.dv]; exact hd) hl fun u hu => h1 u (List.mem_of_mem_drop (List.mem_of_mem_take hu))⟩
    have := hc (off + k) u (drop_take_get hu)
    rw [Nat.add_assoc]; exact this.1
  · cases hv
theorem box_cell {g : Nat} {ms : List Value} {ty : TypeId} {fr : Nat × Nat} (hh : w.heap[g]? = some (.cells ms.toArray ty fr)) (k : Nat) : w.cell? ⟨g, k, none⟩ = ms[k]? := by
  simp [World.cell?, hh]
theorem vload_box (hti : TIok P ti) {t : TypeId} {i : TI} (hi : ti t = some i) {u : Nat} {cs : List VV} {off : Nat} {v : VV} {m : Value} (hv : vload i cs off = some v) (h : BoxR G w u cs m) : ∃ n, (Instr.loadAt t (.pointer (some ⟨G.bl u, off, none⟩))).run P w = .ok n w ∧ DR G.pd w v n := by
  obtain ⟨ms, ty, rfl, hh, ho, hn, hl, hc, h1⟩ := h
  unfold vload at hv
  split at hv
  · rename_i c hcc
    cases hv
    obtain ⟨rfl, hlc⟩ := cellsAt_some hcc
    have hlen : ((cs.drop off).take i.sz).length = ((ms.drop off).take i.sz).length := by simp [hl]
    refine ⟨ldv i ((ms.drop off).take i.sz), run_load' hti hi (by rw [← hlen]; exact hlc) (fun k u hu => ?_), mkv_rel hti hi (.of (by simp [hl]) fun k a b ha hb => ?_) hlc fun u hu => h1 u (List.mem_of_mem_drop (List.mem_of_mem_take hu))⟩
    · rw [box_cell hh]; exact drop_take_get hu
    · rw [List.getElem?_map] at ha
      obtain ⟨x, hx, rfl⟩ := Option.map_eq_some_iff.1 ha
      exact (hc (off + k) x b (drop_take_get hx) (drop_take_get hb)).data
  · cases hv
theorem Sim.away (hs : Sim NG GW io w0 pd0 G env a w) {t : Nat} {e : TypeId} {sz : Nat} {xs : List VV} (ht : get env t = .ow e sz xs) (p : Nat × Nat) :
    Sim NG GW io w0 pd0 (rehome G (a.eval (.tmp t)) p) (env.set t (.sl xs)) a w ∧ OwnR (rehome G (a.eval (.tmp t)) p) w p e sz xs (a.eval (.tmp t)) := by
  have h : OwnR G w (t, 0) e sz xs (a.eval (.tmp t)) := by have := get_slot hs t; rw [ht] at this; exact this
  refine ⟨hs.evo h.evo (by simp) ?_ hs.fr hs.gw (h.owns hs) (h.ownsp hs) hs.dv hs.old, h.home⟩
  intro u v m hv hm
  by_cases hu : t = u
  · subst hu
    rw [List.getElem?_set, if_pos rfl] at hv
    split at hv
    · cases hv
      have hq : a.eval (.tmp t) = m := by
        obtain ⟨hlt, rfl⟩ := Array.getElem?_eq_some_iff.1 hm
        simp [Act.eval, hlt]
      rw [← hq]
      exact .inr (VR.slot (VR.of_dr (OwnR.dr (h.home (p' := p)))) _)
    · cases hv
  · rw [List.getElem?_set, if_neg hu] at hv
    exact .inl ⟨v, hv, rfl, fun e => hu e.symm, id, fun _ h => h.elim⟩
theorem Sim.write (hs : Sim NG GW io w0 pd0 G env a w) (gws : ∀ w w', GW w → Below NG w w' → GW w') {t : Nat} {ms ms' : List Value} {ty : TypeId} (hh : w.heap[G.bl t]? = some (.cells ms.toArray ty (0, 0))) (ho : G.own (G.bl t) = some (t, 0)) (hn : ∀ k, ¬ G.pd (G.bl t) k) (b : VV)
    (hb : ∀ w' : World, w'.heap[G.bl t]? = some (.cells ms'.toArray ty (0, 0)) → (∀ v m, DR G.pd w v m → DR G.pd w' v m) → (∀ p v m, p ≠ (t, 0) → CellR G w p v m → CellR G w' p v m) → SlotR G w' t b (a.eval (.tmp t))) :
    Sim NG GW io w0 pd0 G (env.set t b) a (w.setRow (G.bl t) ms'.toArray) := by
  have hnv : ∀ k, ¬ G.pv (G.bl t) k := fun k hk => hn k (hs.ownp _ k (by rw [ho]; simp) hk)
  have hcell : ∀ x k, x ≠ G.bl t → (w.setRow (G.bl t) ms'.toArray).cell? ⟨x, k, none⟩ = w.cell? ⟨x, k, none⟩ := fun x k hx => World.cell?_of_block (setRow_other w _ x _ hx)
  have hd : ∀ g k m, G.pd g k → w.cell? ⟨g, k, none⟩ = some m → G.pd g k ∧ (w.setRow (G.bl t) ms'.toArray).cell? ⟨g, k, none⟩ = some m := fun g k m h1 h2 => ⟨h1, by rw [hcell g k (fun e => hn k (e ▸ h1))]; exact h2⟩
  have E : Evo G w G (w.setRow (G.bl t) ms'.toArray) (fun u => u = t) (fun _ => False) := by
    refine ⟨hd, fun g k m h1 h2 => ⟨h1, by rw [hcell g k (fun e => hnv k (e ▸ h1))]; exact h2⟩, ?_, fun _ _ => rfl, rfl⟩
    intro g u j o h1 h2 h3
    have hne : g ≠ G.bl t := fun e => h3 (by rw [e, ho] at h1; exact (congrArg Prod.fst (Option.some.inj h1)).symm)
    exact ⟨(setRow_other w _ g _ hne).trans h2, h1, fun _ => Iff.rfl⟩
  obtain ⟨hlt, hge⟩ := hs.own _ _ ho
  refine hs.evo E (by simp) ?_ ?_ ?_ ?_ hs.ownp hs.dv hs.old
  · intro u v m hv hm
    by_cases hu : t = u
    · subst hu
      rw [List.getElem?_set, if_pos rfl] at hv
      split at hv
      · cases hv
        have hq : a.eval (.tmp t) = m := by
          obtain ⟨hlt, rfl⟩ := Array.getElem?_eq_some_iff.1 hm
          simp [Act.eval, hlt]
        rw [← hq]
        refine .inr (hb _ (setRow_heap w _ _ _ _ _ hh) (fun v m h => h.keep hd) fun p v m hp h => ?_)
        cases v <;> first
          | exact DR.keep hd h
          | exact h
          | (obtain ⟨ms, h2, hr, hz, h1, hl, hg⟩ := h
             refine ⟨ms, own_moves h2 (fun g o hgb hh => ?_), hr.keep hd, hz, h1, hl, hg⟩
             have hne : g ≠ G.bl t := fun e => hp (by have := (hg g hgb).1; rw [e, ho] at this; exact (Option.some.inj this).symm)
             exact (setRow_other w _ g _ hne).trans hh)
      · cases hv
    · rw [List.getElem?_set, if_neg hu] at hv
      exact .inl ⟨v, hv, rfl, fun e => hu e.symm, id, fun _ h => h.elim⟩
  · refine ⟨hs.fr.os, hs.fr.tape, hs.fr.output, by rw [setRow_size]; exact hs.fr.size, fun k h1 h2 => ?_⟩
    rw [setRow_other w _ k _ (fun e => by
      rw [← e] at hge
      rcases hge with h | h
      · omega
      · exact h2 h)]
    exact hs.fr.block k h1 h2
  · refine gws _ _ hs.gw ⟨rfl, rfl, rfl, by rw [setRow_size]; exact Nat.le_refl _, fun k hk => setRow_other w _ k _ (fun e => ?_)⟩
    rw [← e] at hge
    rcases hge with h | h
    · have := hs.ng; omega
    · have := hs.ngio _ h; omega
  · intro g p hp; rw [setRow_size]; exact hs.own g p hp
theorem run_store' (hti : TIok P ti) {t : TypeId} {i : TI} (hi : ti t = some i) {g off : Nat} {ms : List Value} {ty : TypeId} {v : Value} (hh : w.heap[g]? = some (.cells ms.toArray ty (0, 0))) (hl : v.cells.toList.length = i.sz) (hf : off + i.sz ≤ ms.length) (h1 : ∀ u ∈ v.cells.toList, u.oneCell' = true) :
    (Instr.storeAt t (.pointer (some ⟨g, off, none⟩)) v).run P w = .ok () (w.setRow g (setCells ms off v.cells.toList).toArray) := by
  have := run_storeCells_at (P := P) g off ty v.cells.toList 0 ms.toArray w hh (by simp at hl ⊢; omega) h1
  rw [setCells_eq _ _ _ (by omega)]
  unfold Instr.storeAt Instr.sureAddr storeVar
  have hl' : v.cells.size = i.sz := by simpa using hl
  simp only [Nat.add_zero] at this
  simp [run_sizeOf' hti hi, hl']
  simpa [hl'] using this
end
section
variable {P : Program} {NG : Nat} {GW : World → Prop} {io : List Nat} {w0 : World} {pd0 : Nat → Nat → Prop} {G G' : Gh} {env : Env} {a : Act} {w w' : World} {ti : TypeId → Option TI}
theorem DRs.drew {pd : Nat → Nat → Prop} {vs : List VV} {ms : List Value} (h : DRs pd w vs ms) : DRs pd w.drew vs ms := DRs.keep (w := w) (w' := w.drew) (pd' := pd) (fun _ _ _ h1 h2 => ⟨h1, h2⟩) h
theorem Sim.drew (hs : Sim NG GW io w0 pd0 G env a w) (gws : ∀ w w', GW w → Below NG w w' → GW w') : Sim NG GW io w0 pd0 G env a w.drew := by
  have E : Evo G w G w.drew (fun _ => False) (fun _ => False) := ⟨fun _ _ _ h1 h2 => ⟨h1, h2⟩, fun _ _ _ h1 h2 => ⟨h1, h2⟩, fun _ _ _ _ h1 h2 _ => ⟨h2, h1, fun _ => Iff.rfl⟩, fun _ _ => rfl, rfl⟩
  refine hs.evo E rfl (fun t v m hv hm => .inl ⟨v, hv, rfl, id, id, fun _ h => h.elim⟩) ⟨hs.fr.os, hs.fr.tape, hs.fr.output, hs.fr.size, hs.fr.block⟩ (gws _ _ hs.gw ((Below.refl NG w).drew)) hs.own hs.ownp hs.dv hs.old
theorem OwnR.nil {p : Nat × Nat} {e : TypeId} {sz : Nat} : OwnR G w p e sz [] (.slice none 0 0) :=
  ⟨[], World.ownsRow_nil w _ e sz, .nil, fun x h => (by cases h), fun u h => (by cases h), Nat.zero_le _, fun g h => (by simp [Value.ownBlock] at h)⟩
theorem Sim.row (hs : Sim NG GW io w0 pd0 G env a w) (gws : ∀ w w', GW w → Below NG w w' → GW w') (p : Nat × Nat) {e : TypeId} {sz cap : Nat} {xs : List VV} {ms : List Value} {cur : Array Value}
    (hcs : cur.size = cap * sz) (htk : cur.toList.take (xs.length * sz) = ms) (hl : ms.length = xs.length * sz) (hc : xs.length ≤ cap) (hm : cap ≤ maxLen) (hr : DRs G.pd w (xs.flatMap VV.cells) ms) (hz : ∀ x ∈ xs, x.cells.length = sz) (h1 : ∀ u ∈ ms, u.oneCell' = true) :
    ∃ G', Sim NG GW io w0 pd0 G' env a (w.alloc (.cells cur e)) ∧ OwnR G' (w.alloc (.cells cur e)) p e sz xs (.slice (some ⟨w.heap.size, 0, none⟩) xs.length cap) := by
  let g := w.heap.size
  let G' : Gh := ⟨fun x k => if x = g then k < xs.length * sz else G.pd x k, fun x k => if x = g then k < xs.length * sz else G.pv x k, G.bl, fun x => if x = g then some p else G.own x, G.B⟩
  have hlt : ∀ x k m, w.cell? ⟨x, k, none⟩ = some m → x ≠ g := fun x k m h e => by have := World.block_lt_of_cell? w _ h; simp only [g] at e; simp at this; omega
  have hkeep : ∀ x k m, w.cell? ⟨x, k, none⟩ = some m → (w.alloc (.cells cur e)).cell? ⟨x, k, none⟩ = some m := fun x k m h => by
    rw [World.cell?_of_block (hao_ w _ x (by have := World.block_lt_of_cell? w _ h; simpa using this))]; exact h
  have hd : ∀ x k m, G.pd x k → w.cell? ⟨x, k, none⟩ = some m → G'.pd x k ∧ (w.alloc (.cells cur e)).cell? ⟨x, k, none⟩ = some m := fun x k m h1 h2 => ⟨by simp only [G', if_neg (hlt x k m h2)]; exact h1, hkeep x k m h2⟩
  have E : Evo G w G' (w.alloc (.cells cur e)) (fun _ => False) (fun _ => False) := by
    refine ⟨hd, fun x k m h1 h2 => ⟨by simp only [G', if_neg (hlt x k m h2)]; exact h1, hkeep x k m h2⟩, ?_, fun t ht => rfl, rfl⟩
    intro x t j o h1 h2 _
    have hx : x < w.heap.size := (Array.getElem?_eq_some_iff.1 h2).1
    have hne : x ≠ g := by simp only [g]; omega
    exact ⟨(hao_ w _ x hx).trans h2, by simp only [G', if_neg hne]; exact h1, fun k => by simp only [G', if_neg hne]⟩
  refine ⟨G', hs.evo E rfl (fun t v m hv hm => .inl ⟨v, hv, rfl, id, id, fun _ h => h.elim⟩) (hs.fr.alloc (Nat.le_refl _) _) (gws _ _ hs.gw ((Below.refl _ w).alloc (by have := hs.ng; have := hs.fr.size; omega) _)) ?_ ?_ ?_ (fun x k h1 h2 => hs.old x k h1 (by
    simp only [G'] at h2
    rw [if_neg (by simp only [g]; have := hs.fr.size; omega)] at h2; exact h2)), ?_⟩
  · intro x q hx
    simp only [G'] at hx
    split at hx
    · rename_i e; subst e; exact ⟨by simp [g], .inl (by simp only [g]; exact hs.fr.size)⟩
    · have := hs.own x q hx; exact ⟨by simp; omega, this.2⟩
  · intro x k hx hk
    simp only [G'] at hx hk ⊢
    split
    · rename_i e; rw [if_pos e] at hk; exact hk
    · rename_i e; rw [if_neg e] at hk hx; exact hs.ownp x k hx hk
  · intro x k hk
    simp only [G'] at hk ⊢
    split
    · rename_i e; rw [if_pos e] at hk; exact hk
    · rename_i e; rw [if_neg e] at hk; exact hs.dv x k hk
  · refine ⟨ms, ⟨hl, .inr ⟨g, cap, cur, rfl, (by show G.B ≤ _; rw [hs.B]; exact hs.fr.size), heap_alloc_new w _, hc, hm, hcs, htk⟩⟩, hr.keep hd, hz, h1, Nat.le_trans hc hm, fun x hx => ?_⟩
    simp [Value.ownBlock] at hx
    subst hx
    exact ⟨if_pos rfl, fun k => by simp only [G', if_pos]; simp [g]⟩
theorem Sim.grow (hs : Sim NG GW io w0 pd0 G env a w) (gws : ∀ w w', GW w → Below NG w w' → GW w') {u : Nat} (p : Nat × Nat) {e : TypeId} {sz g cap : Nat} {xs ys : List VV} {ms ns : List Value} {cur : Array Value}
    (hu : ∃ ee zz, get env u = .ow ee zz xs ∨ (get env u = .nl ∧ xs = [])) (ha : OwnR G w (u, 0) e sz xs (.slice (some ⟨g, 0, none⟩) xs.length cap)) (hev : a.eval (.tmp u) = .slice (some ⟨g, 0, none⟩) xs.length cap)
    (hh : w.heap[g]? = some (.cells cur e (0, 0))) (hcs : cur.size = cap * sz) (htk : cur.toList.take (xs.length * sz) = ms) (hl : ms.length = xs.length * sz) (hln : ns.length = ys.length * sz)
    (hroom : xs.length + ys.length ≤ cap) (hm : cap ≤ maxLen) (hr : DRs G.pd w (ys.flatMap VV.cells) ns) (hz : ∀ x ∈ ys, x.cells.length = sz) (h1 : ∀ u ∈ ns, u.oneCell' = true) :
    ∃ G', Sim NG GW io w0 pd0 G' (env.set u (.sl xs)) a (w.setRow g (cur.toList.take (xs.length * sz) ++ ns ++ cur.toList.drop (xs.length * sz + ns.length)).toArray) ∧ OwnR G' (w.setRow g (cur.toList.take (xs.length * sz) ++ ns ++ cur.toList.drop (xs.length * sz + ns.length)).toArray) p e sz (xs ++ ys) (.slice (some ⟨g, 0, none⟩) (xs.length + ys.length) cap) := by
  obtain ⟨ms', ho, hr0, hz0, h10, hl0, hg0⟩ := ha
  have hog := hg0 g rfl
  have hms : ms' = ms := by
    rcases ho.2 with ⟨h, _⟩ | ⟨g', cap', cur', he, _, hh', _, _, _, ht'⟩
    · cases h
    · cases he
      rw [hh] at hh'
      cases hh'
      exact ht'.symm.trans htk
  subst hms
  let W := w.setRow g (cur.toList.take (xs.length * sz) ++ ns ++ cur.toList.drop (xs.length * sz + ns.length)).toArray
  let G' : Gh := ⟨fun x k => if x = g then k < (xs.length + ys.length) * sz else G.pd x k, fun x k => if x = g then k < (xs.length + ys.length) * sz else G.pv x k, G.bl, fun x => if x = g then some p else G.own x, G.B⟩
  have hmul : xs.length * sz ≤ (xs.length + ys.length) * sz := Nat.mul_le_mul_right _ (Nat.le_add_right _ _)
  have hW : W.heap[g]? = some (.cells (cur.toList.take (xs.length * sz) ++ ns ++ cur.toList.drop (xs.length * sz + ns.length)).toArray e (0, 0)) := setRow_heap w g _ _ _ _ hh
  have hfit : xs.length * sz + ns.length ≤ cur.toList.length := by
    rw [hln, ← Nat.add_mul]; simp only [Array.length_toList, hcs]; exact Nat.mul_le_mul_right _ hroom
  have hcell : ∀ x k m, (x = g → k < xs.length * sz) → w.cell? ⟨x, k, none⟩ = some m → W.cell? ⟨x, k, none⟩ = some m := by
    intro x k m hk hc
    by_cases hx : x = g
    · subst hx
      rw [box_cell hW]
      rw [cell_of_row w x k cur e (0, 0) hh] at hc
      have hk' := hk rfl
      rw [List.append_assoc, List.getElem?_append_left (by simp at hfit ⊢; omega), List.getElem?_take, if_pos hk']
      simpa using hc
    · rw [World.cell?_of_block (setRow_other w g x _ hx)]; exact hc
  have hd : ∀ x k m, G.pd x k → w.cell? ⟨x, k, none⟩ = some m → G'.pd x k ∧ W.cell? ⟨x, k, none⟩ = some m := by
    intro x k m h2 h3
    refine ⟨?_, hcell x k m (fun e => (hog.2 k).1 (e ▸ h2)) h3⟩
    simp only [G']
    split
    · rename_i e; have := (hog.2 k).1 (e ▸ h2); omega
    · exact h2
  have E : Evo G w G' W (fun t => t = u) (fun _ => False) := by
    refine ⟨hd, ?_, ?_, fun t ht => rfl, rfl⟩
    · intro x k m h2 h3
      have hp : x = g → k < xs.length * sz := fun e => (hog.2 k).1 (hs.ownp g k (by rw [hog.1]; simp) (e ▸ h2))
      refine ⟨?_, hcell x k m hp h3⟩
      simp only [G']
      split
      · rename_i e; have := hp e; omega
      · exact h2
    · intro x t j o h2 h3 h4
      have hne : x ≠ g := fun e => h4 (by rw [e, hog.1] at h2; exact (congrArg Prod.fst (Option.some.inj h2)).symm)
      exact ⟨(setRow_other w g x _ hne).trans h3, by simp only [G', if_neg hne]; exact h2, fun k => by simp only [G', if_neg hne]⟩
  obtain ⟨hgl, hge⟩ := hs.own g _ hog.1
  have hgB : G.B ≤ g := (ho.lt g rfl).1
  refine ⟨G', hs.evo E (by simp) ?_ ?_ ?_ ?_ ?_ ?_ (fun x k h1 h2 => hs.old x k h1 (by
    simp only [G'] at h2
    rw [if_neg (by rw [hs.B] at hgB; omega)] at h2; exact h2)), ?_⟩
  · intro t v m hv hm
    by_cases htu : u = t
    · subst htu
      rw [List.getElem?_set, if_pos rfl] at hv
      split at hv
      · cases hv
        have hq : a.eval (.tmp u) = m := by
          obtain ⟨hlt, rfl⟩ := Array.getElem?_eq_some_iff.1 hm
          simp [Act.eval, hlt]
        rw [← hq, hev]
        exact .inr (VR.slot (VR.of_dr ((OwnR.dr (p := (u, 0)) ⟨ms', ho, hr0, hz0, h10, hl0, hg0⟩).keep hd)) _)
      · cases hv
    · rw [List.getElem?_set, if_neg htu] at hv
      exact .inl ⟨v, hv, rfl, fun e => htu e.symm, id, fun _ h => h.elim⟩
  · refine ⟨hs.fr.os, hs.fr.tape, hs.fr.output, by rw [setRow_size]; exact hs.fr.size, fun k h1 h2 => ?_⟩
    rw [setRow_other w _ k _ (fun e => by
      rw [← e] at hge
      rcases hge with h | h
      · omega
      · exact h2 h)]
    exact hs.fr.block k h1 h2
  · refine gws _ _ hs.gw ⟨rfl, rfl, rfl, by rw [setRow_size]; exact Nat.le_refl _, fun k hk => setRow_other w _ k _ (fun e => ?_)⟩
    rw [← e] at hge
    rcases hge with h | h
    · have := hs.ng; omega
    · have := hs.ngio _ h; omega
  · intro x q hx
    simp only [G'] at hx
    rw [setRow_size]
    split at hx
    · rename_i e; subst e; exact ⟨hgl, hge⟩
    · exact hs.own x q hx
  · intro x k hx hk
    simp only [G'] at hx hk ⊢
    split
    · rename_i e; rw [if_pos e] at hk; exact hk
    · rename_i e; rw [if_neg e] at hk hx; exact hs.ownp x k hx hk
  · intro x k hk
    simp only [G'] at hk ⊢
    split
    · rename_i e; rw [if_pos e] at hk; exact hk
    · rename_i e; rw [if_neg e] at hk; exact hs.dv x k hk
  · refine ⟨ms' ++ ns, ⟨by rw [List.length_append, hl, hln, List.length_append, Nat.add_mul], .inr ⟨g, cap, _, by rw [List.length_append], hgB, hW, by rw [List.length_append]; exact hroom, hm, ?_, ?_⟩⟩, ?_, ?_, ?_, ?_, ?_⟩
    · simp only [List.size_toArray, List.length_append, List.length_take, List.length_drop, Array.length_toList] at hfit ⊢
      omega
    · rw [List.length_append, Nat.add_mul, ← hln]
      simp only
      rw [htk, ← hl, ← List.length_append]
      exact List.take_left
    · rw [List.flatMap_append]; exact (hr0.keep hd).app (hr.keep hd)
    · intro x hx
      rcases List.mem_append.1 hx with hx | hx
      · exact hz0 x hx
      · exact hz x hx
    · intro v hv
      rcases List.mem_append.1 hv with hv | hv
      · exact h10 v hv
      · exact h1 v hv
    · rw [List.length_append]; omega
    · intro x hx
      simp [Value.ownBlock] at hx
      subst hx
      exact ⟨if_pos rfl, fun k => by simp only [G', if_pos, List.length_append]⟩
theorem append_run (hti : TIok P ti) (hs : Sim NG GW io w0 pd0 G env a w) (gws : ∀ w w', GW w → Below NG w w' → GW w') {t ty e : TypeId} {i ie : TI} (hi : ti t = some i) (hk : i.k = .slice e) (hie : ti e = some ie) (h0 : 0 < ie.sz) (hb0 : 0 < ie.bytes)
    {u : Nat} (p : Nat × Nat) {xs ys : List VV} {my : Value} (hu : get env u = .ow e ie.sz xs ∨ (get env u = .nl ∧ xs = [])) (hy : DR G.pd w (.sl ys) my) (hz : ∀ x ∈ ys, x.cells.length = ie.sz) (hb : (xs.length + ys.length) * ie.bytes ≤ 140737488355328) :
    ∃ G' v' w', (Builtin.append_ #[t, t] ty #[a.eval (.tmp u), my]).run P w = .ok v' w' ∧ Sim NG GW io w0 pd0 G' (env.set u (.sl xs)) a w' ∧ OwnR G' w' p e ie.sz (xs ++ ys) v' := by
  have hut := hti.kind t i hi
  rw [hk] at hut
  simp only at hut
  obtain ⟨inf, z, hinf, hzz, hzc, hsz, hby, hzl, hz1, _⟩ := hti.info e ie hie
  have hcap : xs.length + ys.length ≤ 140737488355328 := Nat.le_trans (Nat.le_mul_of_pos_right _ hb0) hb
  have hO : OwnR G w (u, 0) e ie.sz xs (a.eval (.tmp u)) := by
    have := get_slot hs u
    rcases hu with hu | ⟨hu, rfl⟩
    · rw [hu] at this; exact this
    · rw [hu] at this
      have h : a.eval (.tmp u) = .slice none 0 0 := this
      rw [h]; exact OwnR.nil
  have hset : Sim NG GW io w0 pd0 G (env.set u (.sl xs)) a w := by
    have hp := hs.put (some u) (v := .sl xs) (m := a.eval (.tmp u)) (fun d hd => by cases hd; exact VR.slot (VR.of_dr hO.dr) _)
    have ha : a.put (some u) (a.eval (.tmp u)) = a := by
      simp only [Act.put, Act.eval]
      congr 1
      by_cases hlt : u < a.tmps.size
      · refine Array.ext (by simp) fun i h1 h2 => ?_
        rw [Array.getElem_setIfInBounds (by simpa using h1)]
        split
        · rename_i e; subst e; simp [hlt]
        · rfl
      · simp [Array.setIfInBounds, hlt]
    rw [ha] at hp
    exact hp
  have hsrc : (∃ A c, my = .slice A 0 c ∧ ys = []) ∨ ∃ g off c ns, my = .slice (some ⟨g, off, none⟩) ys.length c ∧ DRs G.pd w (ys.flatMap VV.cells) ns ∧ (∀ v ∈ ns, v.oneCell' = true) ∧ ∀ (k : Nat) m, ns[k]? = some m → w.cell? ⟨g, off + k, none⟩ = some m := by
    cases hy with
    | sl0 A c => exact .inl ⟨A, c, rfl, rfl⟩
    | sl _ g off c sz ns hc hm hz' hr h1 hw => exact .inr ⟨g, off, c, ns, rfl, hr, h1, fun k m h => (hw k m h).1⟩
  obtain ⟨ms, ho, hr, hzx, h1, hl, hg⟩ := hO
  rcases hsrc with ⟨A, c, rfl, rfl⟩ | ⟨g, off, c, ns, rfl, hrn, h1n, hcn⟩
  ·
    refine ⟨rehome G (a.eval (.tmp u)) p, a.eval (.tmp u), w, ?_, ?_, ?_⟩
    · have hfc : (Builtin.firstCells inf.size 0 (.slice A 0 c)).run P w = .ok #[] w := by
        cases A <;> simp [Builtin.firstCells, loadCells, loadCellsFrom]
      rcases ho.2 with ⟨hv, hn⟩ | ⟨g, cap, cur, hv, _, hh, hnc, _⟩
      · rw [hv]
        simp [Builtin.append_, run_underlying hut, sizeOf, typeInfo, hinf, Builtin.lenOf, hfc]
      · rw [hv]
        simp [Builtin.append_, run_underlying hut, sizeOf, typeInfo, hinf, Builtin.lenOf, hfc, hnc, storeCells]
    · have h : OwnR G w (u, 0) e ie.sz xs (a.eval (.tmp u)) := ⟨ms, ho, hr, hzx, h1, hl, hg⟩
      refine hs.evo h.evo (by simp) ?_ hs.fr hs.gw (h.owns hs) (h.ownsp hs) hs.dv hs.old
      intro t' v m hv hm
      by_cases hu' : u = t'
      · subst hu'
        rw [List.getElem?_set, if_pos rfl] at hv
        split at hv
        · cases hv
          have hq : a.eval (.tmp u) = m := by
            obtain ⟨hlt, rfl⟩ := Array.getElem?_eq_some_iff.1 hm
            simp [Act.eval, hlt]
          rw [← hq]
          exact .inr (VR.slot (VR.of_dr (OwnR.dr (h.home (p' := p)))) _)
        · cases hv
      · rw [List.getElem?_set, if_neg hu'] at hv
        exact .inl ⟨v, hv, rfl, fun e => hu' e.symm, id, fun _ h => h.elim⟩
    · rw [List.append_nil]; exact OwnR.home (p := (u, 0)) ⟨ms, ho, hr, hzx, h1, hl, hg⟩
  · have hln : ns.length = ys.length * ie.sz := by rw [← hrn.length, flat_len hz]
    have hcn' : ∀ j v, ns[j]? = some v → w.cell? ((⟨g, off, none⟩ : Addr).add j) = some v := fun j v h => by rw [Addr.add_lit]; exact hcn j v h
    have hzs : z.cells.size = ie.sz := by have : z.cells.toList.length = ie.zero.length := by rw [hzc]
                                          simp at this; omega
    rcases ho.2 with ⟨hv, hn⟩ | ⟨gx, cap, cur, hv, _, hh, hnc, hcm, hcs, htk⟩
    ·
      obtain rfl : xs = [] := List.eq_nil_of_length_eq_zero hn
      by_cases hys : ys.length = 0
      · obtain rfl : ys = [] := List.eq_nil_of_length_eq_zero hys
        refine ⟨G, .slice none 0 0, w, ?_, hset, OwnR.nil⟩
        rw [hv]
        have hfc : (Builtin.firstCells inf.size 0 (.slice (some ⟨g, off, none⟩) 0 c)).run P w = .ok #[] w := by
          simp [Builtin.firstCells, loadCells, loadCellsFrom]
        simp [Builtin.append_, run_underlying hut, sizeOf, typeInfo, hinf, Builtin.lenOf, hfc]
      · have hrun := run_append_nil (P := P) w t ty e inf z hut hinf hzz ⟨g, off, none⟩ ys.length c ns (by rw [hln, hsz]) hcn' (by omega) (by simp at hcap; omega) (by rw [hby]; simp at hb; omega)
        have hge := grownCap_ge w ys.length 0 e
        have hgm := grownCap_le_maxLen w ys.length 0 e (by simp at hcap; simp only [maxLen]; omega)
        obtain ⟨G', hs', hO'⟩ := (hset.drew gws).row gws p (e := e) (sz := ie.sz) (cap := grownCap w ys.length 0 e) (xs := ys) (ms := ns) (cur := ns.toArray ++ Builtin.zeroCells z.cells (grownCap w ys.length 0 e - ys.length))
          (by simp only [Array.size_append, List.size_toArray, size_zeroCells, hzs, hln, ← Nat.add_mul]; congr 1; omega) (by rw [← hln]; simp only [Array.toList_append]; exact List.take_left) hln hge hgm (DRs.drew hrn) hz h1n
        rw [hv]
        exact ⟨G', _, _, hrun, hs', hO'⟩
    · have hown : OwnR G w (u, 0) e ie.sz xs (a.eval (.tmp u)) := ⟨ms, ho, hr, hzx, h1, hl, hg⟩
      by_cases hroom : xs.length + ys.length ≤ cap
      · have hfit : xs.length * inf.size + ns.length ≤ cur.size := by rw [hsz, hln, hcs, ← Nat.add_mul]; exact Nat.mul_le_mul_right _ hroom
        have hrun := run_append_room (P := P) w t ty e inf hut hinf gx xs.length cap cur hh ⟨g, off, none⟩ ys.length c ns (by rw [hln, hsz]) hcn' h1n hroom hfit
        rw [hv] at hown
        obtain ⟨G', hs', hO'⟩ := hs.grow gws p (u := u) (ys := ys) (ns := ns) ⟨e, ie.sz, hu⟩ hown hv hh hcs htk ho.1 hln hroom hcm hrn hz h1n
        rw [hv]
        rw [hsz] at hrun
        exact ⟨G', _, _, hrun, hs', hO'⟩
      · have holds : ∀ j v, ms[j]? = some v → w.cell? ((⟨gx, 0, none⟩ : Addr).add j) = some v := ho.cells (g := gx) (by rw [hv]; rfl)
        have hrun := run_append_grow (P := P) w t ty e inf z hut hinf hzz ⟨gx, 0, none⟩ xs.length cap ms (by rw [ho.1, hsz]) holds ⟨g, off, none⟩ ys.length c ns (by rw [hln, hsz]) hcn' (by omega) (by omega) (growslice_fits (by omega) (by rw [hby]; exact hb))
        have hge := grownCap_ge w (xs.length + ys.length) cap e
        have hgm := grownCap_le_maxLen w (xs.length + ys.length) cap e (by simp only [maxLen]; omega)
        have hlen : (ms ++ ns).length = (xs.length + ys.length) * ie.sz := by rw [List.length_append, ho.1, hln, Nat.add_mul]
        obtain ⟨G', hs', hO'⟩ := (hset.drew gws).row gws p (e := e) (sz := ie.sz) (cap := grownCap w (xs.length + ys.length) cap e) (xs := xs ++ ys) (ms := ms ++ ns) (cur := ms.toArray ++ ns.toArray ++ Builtin.zeroCells z.cells (grownCap w (xs.length + ys.length) cap e - (xs.length + ys.length)))
          (by simp only [Array.size_append, List.size_toArray, size_zeroCells, hzs, ho.1, hln, ← Nat.add_mul]; congr 1; omega) (by rw [List.length_append, ← hlen]; simp only [Array.toList_append]; exact List.take_left) (by rw [hlen, List.length_append]) (by rw [List.length_append]; exact hge) hgm
          (by rw [List.flatMap_append]; exact DRs.drew (hr.app hrn))
          (fun x hx => by rcases List.mem_append.1 hx with hx | hx <;> first | exact hzx x hx | exact hz x hx)
          (fun v hv => by rcases List.mem_append.1 hv with hv | hv <;> first | exact h1 v hv | exact h1n v hv)
        rw [hv]
        rw [List.length_append] at hO'
        exact ⟨G', _, _, hrun, hs', hO'⟩
end
section
variable {P : Program} {NG : Nat} {GW : World → Prop} {io : List Nat} {w0 : World} {pd0 : Nat → Nat → Prop} {G G' : Gh} {env : Env} {a : Act} {w w' : World}
variable {R : Type} {K : Env → Option R} {r : R} {next : Act → World → Prop} {Q : Exit → Act → World → Prop} {o : Oper} {C : Cx} {ops : List Oper} {dr : Option (List Nat)}
theorem VR.sl_dr {xs : List VV} {m : Value} (h : VR G w (.sl xs) m) : DR G.pd w (.sl xs) m := h
theorem VR.tu_dr {xs : List VV} {m : Value} (h : VR G w (.tu xs) m) : DR G.pd w (.tu xs) m := h
theorem VR.pt_eq {t o : Nat} {m : Value} (h : VR G w (.pt t o) m) : m = .pointer (some ⟨G.bl t, o, none⟩) := h
theorem VR.vw_v {cs : List VV} {m : Value} (h : VR G w (.vw cs) m) : ViewR G w cs m := h
theorem VR.cells {v : VV} {m : Value} (h : VR G w v m) (hok : v.cells.all cellOk = true) : DRs G.pd w v.cells m.cells.toList ∧ ∀ u ∈ m.cells.toList, u.oneCell' = true := by
  cases v <;> first
    | exact DR.cells h hok
    | exact h.elim
    | (simp [VV.cells, cellOk] at hok; done)
theorem binop_sound {op : BinOp} {xt yt : TypeId} {x y : Operand} {b tb : Bool} {v : Value} (hb : b = true) (hop : o.op = .binOp op xt x y yt) (hs : Sim NG GW io w0 pd0 G env a w) (hv : vbin tb op (rdv env x) (rdv env y) = some (b, v)) (hbool : tb = true → P.underlying xt = some .bool) :
    (execOp a.eval o).run P w = .ok (.value v) w := by
  have hx := rdv_rel hs x
  have hy := rdv_rel hs y
  generalize rdv env x = vx at *
  generalize rdv env y = vy at *
  unfold vbin at hv
  split at hv
  · rename_i k n k' n'
    have ex := hx.sv
    have ey := hy.sv
    have hk : op = .shr ∨ k = k' := by
      split at hv
      · right; assumption
      · split at hv
        · left; rfl
        · cases hv
    have hv' : vint op k n n' = some (b, v) := by
      split at hv
      · exact hv
      · split at hv
        · exact hv
        · cases hv
    have := vint_run (P := P) (w := w) hv' hb xt k' hk
    unfold execOp
    rw [hop]
    simp only [ex, ey]
    have hg : (eqGuard op xt x y (.int k n) (.int k' n')).run P w = .ok () w := by
      unfold eqGuard
      cases op <;> simp
    simp [hg, this]
  · rename_i s s'
    have ex := hx.sv
    have ey := hy.sv
    have := vstr_run (P := P) (w := w) hv hb xt
    unfold execOp
    rw [hop]
    simp only [ex, ey]
    have hg : (eqGuard op xt x y (.string s) (.string s')).run P w = .ok () w := by
      unfold eqGuard
      cases op <;> simp
    simp [hg, this]
  · rename_i p q
    have ex := hx.sv
    have ey := hy.sv
    unfold execOp
    rw [hop]
    simp only [ex, ey]
    split at hv
    · cases hv
      have hu := hbool rfl
      simp [eqGuard, run_eql_bool w xt p q hu]
    · cases hv
      have hu := hbool rfl
      simp [eqGuard, run_neq_bool w xt p q hu]
    · cases hv
  · cases hv
end
section
variable {P : Program} {NG : Nat} {GW : World → Prop} {io : List Nat} {w0 : World} {pd0 : Nat → Nat → Prop} {G G' : Gh} {env : Env} {a : Act} {w w' : World}
variable {R : Type} {K : Env → Option R} {r : R} {next : Act → World → Prop} {Q : Exit → Act → World → Prop} {o : Oper} {C : Cx} {ops : List Oper} {dr : Option (List Nat)}
theorem bite_none {α : Type} {b : Bool} {x : Option α} {r : α} (h : bite b x none = some r) : b = true ∧ x = some r := by
  cases b
  · cases h
  · exact ⟨rfl, h⟩
theorem isBool_ok (hti : TIok P C.ti) {t : TypeId} (h : isBool C t = true) : P.underlying t = some .bool := by
  unfold isBool at h
  split at h
  · rename_i i hi
    have := hti.kind t i hi
    split at h
    · rename_i hk; rw [hk] at this; exact this
    · cases h
  · cases h
theorem vnew_some {d : Nat} {b : VV} (h : vnew dr d b env K = some r) : K ((env.map (kill d)).set d b) = some r := by
  unfold vnew at h
  cases dr with
  | none => simpa [frcL_eq, vset_eq] using h
  | some l =>
    simp only at h
    split at h
    · rename_i hany
      rw [vset_eq] at h
      have hany := (Bool.or_eq_false_iff.1 hany).1
      have : env.map (kill d) = env := by
        rw [List.any_eq_false] at hany
        conv => rhs; rw [← List.map_id env]
        exact List.map_congr_left fun v hv => kill_none (by simpa using hany v hv)
      rw [this]; exact h
    · cases h
theorem box_sound (hs : Sim NG GW io w0 pd0 G env a w) (gws : ∀ w w', GW w → Below NG w w' → GW w') (hn : Nx NG GW io w0 pd0 K r next) {d : Nat} (hd : o.dst = some d) {cs : List VV} {ms : List Value} {ty : TypeId} (hl : cs.length = ms.length) (hc : ∀ (i : Nat) v u, cs[i]? = some v → ms[i]? = some u → ∀ (G : Gh) (w' : World) (p : Nat × Nat), (∀ v m, DR (G.pd) w v m → DR G.pd w' v m) → True) (hc' : ∀ (i : Nat) v u, cs[i]? = some v → ms[i]? = some u → (v = .nl ∧ u = .slice none 0 0) ∨ DR G.pd w v u) (h1 : ∀ u ∈ ms, u.oneCell' = true)
    (hrun : (execOp a.eval o).run P w = .ok (.value (.pointer (some ⟨w.heap.size, 0, none⟩))) (w.alloc (.cells ms.toArray ty))) (h : vnew dr d (.bx cs) env K = some r) : o.wp P a w next Q := by
  obtain ⟨G', hs'⟩ := hs.fresh gws d (.bx cs) ms ty (.pointer (some ⟨w.heap.size, 0, none⟩)) (fun G' _ hb ho hp hd => by
    refine ⟨ms, ty, by rw [hb], by rw [hb]; exact heap_alloc_new w _, by rw [hb]; exact ho, fun k hk => hp k (by rw [hb] at hk; exact hk), hl, fun i v u hv hu => ?_, h1⟩
    rcases hc' i v u hv hu with ⟨rfl, rfl⟩ | h
    · rfl
    · have h' := hd v u h
      cases v <;> first
        | exact h'
        | (cases h'))
  refine wp_value hrun (hn G' _ _ _ ?_ (vnew_some h))
  rw [hd]; exact hs'
theorem alloc_sound (hti : TIok P C.ti) (hs : Sim NG GW io w0 pd0 G env a w) (gws : ∀ w w', GW w → Below NG w w' → GW w') (hn : Nx NG GW io w0 pd0 K r next) {ty : TypeId} (hop : o.op = .alloc ty) {i : TI} {d : Nat} (hi : C.ti ty = some i) (hd : o.dst = some d) (h : vnew dr d (.bx (i.zero.map zcell)) env K = some r) : o.wp P a w next Q := by
  obtain ⟨inf, z, hinf, hzz, hzc, hsz, hby, hzl, hz1, _⟩ := hti.info ty i hi
  refine box_sound (ms := i.zero) (ty := ty) hs gws hn hd (by simp) (fun _ _ _ _ _ _ _ _ _ => trivial) ?_ hz1 ?_ h
  · intro k v u hv hu
    rw [List.getElem?_map, hu] at hv
    cases hv
    unfold zcell
    split
    · exact .inl ⟨rfl, rfl⟩
    · exact .inr (.s _)
  · have : i.zero.toArray = z.cells := by rw [← hzc]
    unfold execOp
    rw [hop]
    simp only [Instr.alloc, Sem.run_bind, zeroValue, typeInfo, run_program, Result.andThen_ok, hinf, Sem.run_pure, hzz, newVar, newRow, run_newObj]
    rw [this]
    rfl
theorem boxop_sound (hti : TIok P C.ti) (hs : Sim NG GW io w0 pd0 G env a w) (gws : ∀ w w', GW w → Below NG w w' → GW w') (hn : Nx NG GW io w0 pd0 K r next) {ty : TypeId} {x : Operand} (hop : o.op = .box ty x) {i : TI} {d : Nat} (hi : C.ti ty = some i) (hd : o.dst = some d) (hl : (rdv env x).cells.length = i.sz) (hok : (rdv env x).cells.all cellOk = true) (h : vnew dr d (.bx (rdv env x).cells) env K = some r) : o.wp P a w next Q := by
  obtain ⟨hr, h1⟩ := (rdv_rel hs x).cells hok
  refine box_sound (ms := (a.eval x).cells.toList) (ty := ty) hs gws hn hd hr.length (fun _ _ _ _ _ _ _ _ _ => trivial) (fun k v u hv hu => .inr (hr.at hv hu)) h1 ?_ h
  unfold execOp
  rw [hop]
  simp only [Instr.box, newVar, newRow, Sem.run_bind, run_newObj, Result.andThen_ok, Sem.run_pure]
  rfl
theorem getB_bx {t : Nat} {cs : List VV} (h : getB dr env t = .bx cs) : get env t = .bx cs := by
  unfold getB at h
  split at h
  · split at h
    · cases h
    · exact h
  · exact h
theorem load_sound (hti : TIok P C.ti) (hs : Sim NG GW io w0 pd0 G env a w) (hn : Nx NG GW io w0 pd0 K r next) {ty : TypeId} {x : Operand} (hop : o.op = .load ty x) (h : vop C ops dr o env K = some r) : o.wp P a w next Q := by
  have hx := rdv_rel hs x
  have hex : ∀ m, (Instr.loadAt ty (a.eval x)).run P w = .ok m w → (execOp a.eval o).run P w = .ok (.value m) w := by
    intro m hm
    unfold execOp
    rw [hop]
    simp [hm]
  simp only [vop, hop] at h
  split at h
  · cases h
  rename_i i hi
  split at h
  · rename_i cs hv
    rw [hv] at hx
    split at h
    · rename_i v hvl
      obtain ⟨g, off, hm, u, hrun, hu⟩ := vload_view hti hi hvl hx.vw_v
      rw [hm, ← Nat.add_zero off] at hex
      exact val_sound hs hn (hex _ hrun) (VR.of_dr hu) h
    · cases h
  · rename_i t off hv
    rw [hv] at hx
    have hpt := hx.pt_eq
    have hslot := get_slot hs t
    split at h
    · rename_i cs hcs
      have hcs := getB_bx hcs
      rw [hcs] at hslot
      have hbox : BoxR G w t cs (a.eval (.tmp t)) := hslot
      split at h
      ·
        split at h
        · rename_i e' e z xs hk hc
          rw [vset_eq] at h
          obtain ⟨ms, bty, hpm, hh, ho, hnp, hl, hcr, h1⟩ := hbox
          have hoff : off < ms.length := by rw [← hl]; exact (List.getElem?_eq_some_iff.1 hc).1
          have hm := List.getElem?_eq_getElem hoff
          have hO : OwnR G w (t, off + 1) e z xs ms[off] := hcr off _ _ hc hm
          have hsz : i.sz = 1 := by
            obtain ⟨_, _, _, _, _, _, _, _, _, h8⟩ := hti.info ty i hi
            rw [hk] at h8; exact h8
          have hrun := run_load' (P := P) (w := w) hti hi (g := G.bl t) (off := off) (ms := [ms[off]]) (by simp [hsz]) (fun k u hu => by
            cases k with
            | zero => cases hu; rw [box_cell hh]; exact hm
            | succ k => simp at hu)
          have hld : ldv i [ms[off]] = ms[off] := by simp [ldv, isAgg', hk]
          rw [hld, ← hpt] at hrun
          let d := o.dst.getD 0
          have hsim : Sim NG GW io w0 pd0 (rehome G ms[off] (d, 0)) (env.set t (.bx (cs.set off (.sl xs)))) a w := by
            refine hs.evo (hO.evo (p' := (d, 0))) (by simp) ?_ hs.fr hs.gw (hO.owns hs) (hO.ownsp hs) hs.dv hs.old
            intro u v m hv hm'
            by_cases hu : t = u
            · subst hu
              rw [List.getElem?_set, if_pos rfl] at hv
              split at hv
              · cases hv
                have hq : a.eval (.tmp t) = m := by
                  obtain ⟨hlt, rfl⟩ := Array.getElem?_eq_some_iff.1 hm'
                  simp [Act.eval, hlt]
                rw [← hq]
                refine .inr ⟨ms, bty, hpm, hh, ?_, hnp, by simp [hl], ?_, h1⟩
                · simp only [rehome]
                  by_cases hb : ms[off].ownBlock = some (G.bl t)
                  · obtain ⟨_, _, _, _, _, _, hg⟩ := hO
                    have := ho.symm.trans (hg _ hb).1
                    simp at this
                  · rw [if_neg hb]; exact ho
                · intro j v u' hj hj'
                  rw [List.getElem?_set] at hj
                  by_cases hjo : off = j
                  · subst hjo
                    rw [if_pos rfl] at hj
                    split at hj
                    · cases hj
                      rw [hm] at hj'
                      cases hj'
                      exact OwnR.dr (hO.home (p' := (d, 0)))
                    · cases hj
                  · rw [if_neg hjo] at hj
                    have h2 := hcr j v u' hj hj'
                    cases v <;> first
                      | exact OwnR.other hO h2 (by simp; omega)
                      | exact h2
              · cases hv
            · rw [List.getElem?_set, if_neg hu] at hv
              exact .inl ⟨v, hv, rfl, fun e => hu e.symm, id, fun _ h => h.elim⟩
          refine wp_value (hex _ hrun) (hn _ _ _ _ (hsim.put o.dst fun d' hd' => ?_) (vput_some h))
          have : d = d' := by simp [d, hd']
          subst this
          exact hO.home
        · rename_i e' hk hc
          obtain ⟨ms, bty, hpm, hh, ho, hnp, hl, hcr, h1⟩ := hbox
          have hoff : off < ms.length := by rw [← hl]; exact (List.getElem?_eq_some_iff.1 hc).1
          have hm := List.getElem?_eq_getElem hoff
          have hO : ms[off] = .slice none 0 0 := hcr off _ _ hc hm
          have hsz : i.sz = 1 := by
            obtain ⟨_, _, _, _, _, _, _, _, _, h8⟩ := hti.info ty i hi
            rw [hk] at h8; exact h8
          have hrun := run_load' (P := P) (w := w) hti hi (g := G.bl t) (off := off) (ms := [ms[off]]) (by simp [hsz]) (fun k u hu => by
            cases k with
            | zero => cases hu; rw [box_cell hh]; exact hm
            | succ k => simp at hu)
          have hld : ldv i [ms[off]] = ms[off] := by simp [ldv, isAgg', hk]
          rw [hld, ← hpt] at hrun
          exact wp_value (hex _ hrun) (hn _ _ _ _ (hs.put o.dst fun d _ => (show SlotR G w d .nl _ from hO)) (vput_some h))
        · cases h
      · split at h
        · rename_i v hvl
          obtain ⟨u, hrun, hu⟩ := vload_box hti hi hvl hbox
          rw [← hpt] at hrun
          exact val_sound hs hn (hex _ hrun) (VR.of_dr hu) h
        · cases h
    · cases h
  · cases h
theorem store_sound (hti : TIok P C.ti) (gws : ∀ w w', GW w → Below NG w w' → GW w') (hs : Sim NG GW io w0 pd0 G env a w) (hn : Nx NG GW io w0 pd0 K r next) {ty : TypeId} {x y : Operand} (hop : o.op = .store ty x y) (h : vop C ops dr o env K = some r) : o.wp P a w next Q := by
  have hx := rdv_rel hs x
  have hy := rdv_rel hs y
  have hex : ∀ w', (Instr.storeAt ty (a.eval x) (a.eval y)).run P w = .ok () w' → (execOp a.eval o).run P w = .ok .skip w' := by
    intro w' hm
    unfold execOp
    rw [hop]
    simp [hm]
  simp only [vop, hop] at h
  split at h
  case h_2 => cases h
  rename_i i hdst hi
  have hput : ∀ a : Act, a.put o.dst undef = a := fun a => by rw [hdst]; rfl
  split at h
  · rename_i t off hv
    rw [hv] at hx
    have hpt := hx.pt_eq
    have hslot := get_slot hs t
    split at h
    case h_2 => cases h
    rename_i cs hcs
    rw [hcs] at hslot
    obtain ⟨ms, bty, hpm, hh, ho, hnp, hl, hcr, h1⟩ := (hslot : BoxR G w t cs (a.eval (.tmp t)))
    split at h
    case isFalse => cases h
    rename_i hcond
    obtain ⟨hlen, hfit, hok⟩ := hcond
    obtain ⟨hr, hr1⟩ := hy.cells hok
    have hrl := hr.length
    have hrun := run_store' (P := P) (w := w) hti hi (g := G.bl t) (off := off) (ms := ms) (ty := bty) (v := a.eval y) hh (by rw [← hrl]; exact hlen) (by rw [← hl]; exact hfit) hr1
    rw [← hpt] at hrun
    have hms' : ∀ u ∈ setCells ms off (a.eval y).cells.toList, u.oneCell' = true := setCells_all (p := fun u : Value => u.oneCell' = true) _ _ _ hr1 h1
    have plain_store : ∀ (env' : Env) (G' : Gh) (hs' : Sim NG GW io w0 pd0 G' env' a w) (hbl : G'.bl = G.bl) (hcr' : ∀ (i : Nat) v u, cs[i]? = some v → ms[i]? = some u → CellR G' w (t, i + 1) v u) (ho' : G'.own (G.bl t) = some (t, 0)) (hnp' : ∀ k, ¬ G'.pd (G.bl t) k) (cs' : List VV) (hl' : cs'.length = cs.length)
        (hc' : ∀ (j : Nat) v u, cs'[j]? = some v → (setCells ms off (a.eval y).cells.toList)[j]? = some u → ∀ w' : World, (∀ v m, DR G'.pd w v m → DR G'.pd w' v m) → (∀ p v m, p ≠ (t, 0) → CellR G' w p v m → CellR G' w' p v m) → CellR G' w' (t, j + 1) v u) (hK : K (env'.set t (.bx cs')) = some r), o.wp P a w next Q := by
      intro env' G' hs' hbl hcr' ho' hnp' cs' hl' hc' hK
      have hw := hs'.write gws (t := t) (ms := ms) (ms' := setCells ms off (a.eval y).cells.toList) (ty := bty) (by rw [hbl]; exact hh) (by rw [hbl]; exact ho') (by rw [hbl]; exact hnp') (.bx cs') (fun w' hh' hd hcell => by
        refine ⟨setCells ms off (a.eval y).cells.toList, bty, by rw [hbl]; exact hpm, hh', by rw [hbl]; exact ho', by rw [hbl]; exact hnp', by rw [hl', setCells_len]; exact hl, fun j v u hv hu => hc' j v u hv hu w' hd hcell, hms'⟩)
      refine wp_skip' (hex _ hrun) (hn G' _ _ _ ?_ hK)
      rw [hput, ← hbl]; exact hw
    have hdata : K (env.set t (.bx (setCells cs off (rdv env y).cells))) = some r → o.wp P a w next Q := by
      intro hK
      refine plain_store env G hs rfl hcr ho hnp _ (setCells_len _ _ _) (fun j v u hv hu w' hd hcell => ?_) hK
      rw [setCells_eq _ _ _ (by omega)] at hv
      rw [setCells_eq _ _ _ (by omega)] at hu
      have hto : (cs.take off).length = off := by simp; omega
      have hto' : (ms.take off).length = off := by simp; omega
      by_cases hj : j < off
      · rw [List.append_assoc, List.getElem?_append_left (by omega), List.getElem?_take, if_pos hj] at hv
        rw [List.append_assoc, List.getElem?_append_left (by omega), List.getElem?_take, if_pos hj] at hu
        exact hcell _ _ _ (by simp) (hcr j v u hv hu)
      · by_cases hj2 : j < off + (rdv env y).cells.length
        · rw [List.append_assoc, List.getElem?_append_right (by omega), List.getElem?_append_left (by omega), hto] at hv
          rw [List.append_assoc, List.getElem?_append_right (by omega), List.getElem?_append_left (by omega), hto'] at hu
          have hdr := hr.at hv hu
          have h3 := hd _ _ hdr
          cases v <;> first
            | exact h3
            | (cases h3)
        · rw [List.getElem?_append_right (by simp; omega), List.getElem?_drop] at hv
          rw [List.getElem?_append_right (by simp at *; omega), List.getElem?_drop] at hu
          simp only [List.length_append, hto, hto'] at hv hu
          rw [show off + (rdv env y).cells.length + (j - (off + (rdv env y).cells.length)) = j by omega] at hv
          rw [show off + (a.eval y).cells.toList.length + (j - (off + (a.eval y).cells.toList.length)) = j by omega] at hu
          exact hcell _ _ _ (by simp) (hcr j v u hv hu)
    split at h
    · rename_i u
      split at h
      · rename_i e z xs hgu
        rw [vset_eq, vset_eq] at h
        have hut : u ≠ t := fun e => by rw [e, hcs] at hgu; cases hgu
        obtain ⟨hs', hO⟩ := hs.away hgu (t, off + 1)
        have hO0 : OwnR G w (u, 0) e z xs (a.eval (.tmp u)) := by have := get_slot hs u; rw [hgu] at this; exact this
        have hcells : (rdv env (.tmp u)).cells = [.sl xs] := by simp [rdv, hgu, view, VV.cells]
        rw [hcells] at hrl hlen
        simp at hlen
        have hmc : (a.eval (.tmp u)).cells.toList = [a.eval (.tmp u)] := by
          obtain ⟨_, ho2, _⟩ := hO0
          rcases ho2.2 with ⟨hv, _⟩ | ⟨g, cap, cur, hv, _⟩ <;> rw [hv] <;> rfl
        refine plain_store _ _ hs' rfl ?_ ?_ hnp (cs.set off (.ow e z xs)) (by simp) ?_ h
        · intro j v m hv hm
          have h2 := hcr j v m hv hm
          cases v <;> first
            | exact OwnR.other hO0 h2 (fun e => by simp at e)
            | exact h2
        · simp only [rehome]
          by_cases hb : (a.eval (.tmp u)).ownBlock = some (G.bl t)
          · obtain ⟨_, _, _, _, _, _, hg⟩ := hO0
            have := ho.symm.trans (hg _ hb).1
            simp at this; exact absurd this.symm hut
          · rw [if_neg hb]; exact ho
        · intro j v m hv hm w' hd hcell
          rw [hmc] at hm
          simp only [setCells] at hm
          rw [List.getElem?_set] at hv hm
          by_cases hj : off = j
          · subst hj
            rw [if_pos rfl] at hv hm
            split at hv
            case isFalse => cases hv
            split at hm
            case isFalse => cases hm
            cases hv; cases hm
            exact hcell (t, off + 1) (.ow e z xs) _ (by simp) hO
          · rw [if_neg hj] at hv hm
            have h2 := hcr j v m hv hm
            refine hcell _ _ _ (by simp) ?_
            cases v <;> first
              | exact OwnR.other hO0 h2 (fun e => by simp at e)
              | exact h2
      · rename_i hgu
        rw [vset_eq] at h
        have hnil : a.eval (.tmp u) = .slice none 0 0 := by have := get_slot hs u; rw [hgu] at this; exact this
        refine plain_store env G hs rfl hcr ho hnp (cs.set off .nl) (by simp) ?_ h
        intro j v m hv hm w' hd hcell
        rw [hnil] at hm
        simp only [Value.cells, setCells] at hm
        rw [List.getElem?_set] at hv hm
        by_cases hj : off = j
        · subst hj
          rw [if_pos rfl] at hv hm
          split at hv
          case isFalse => cases hv
          split at hm
          case isFalse => cases hm
          cases hv; cases hm
          rfl
        · rw [if_neg hj] at hv hm
          exact hcell _ _ _ (by simp) (hcr j v m hv hm)
      · rw [vset_eq] at h; exact hdata h
    · rw [vset_eq] at h; exact hdata h
  · rename_i t j sz hv
    rw [hv] at hx
    have hpt : a.eval x = .pointer (some ⟨G.bl t, j.toNat * sz, none⟩) := hx
    have hslot := get_slot hs t
    split at h
    case h_2 => cases h
    rename_i e sz' xs hcs
    rw [hcs] at hslot
    obtain ⟨ms, hpm, hh, ho, hnp, hr0, hz, h1, hlx, h0, hB⟩ := (hslot : MadeR G w t e sz' xs (a.eval (.tmp t)))
    split at h
    case isFalse => cases h
    rename_i hcond
    obtain ⟨hlen, hsz, hsz', hok⟩ := hcond
    obtain ⟨hjb, h⟩ := bite_none h
    rw [frc_eq, vset_eq] at h
    obtain ⟨hr, hr1⟩ := hy.cells hok
    have hrl := hr.length
    subst hsz'
    have hj : j.toNat < xs.length := by
      simp at hjb; omega
    · have hms : ms.length = xs.length * sz := by rw [← hr0.length, flat_len hz]
      have hfit : j.toNat * sz + sz ≤ ms.length := by
        rw [hms, ← Nat.succ_mul]; exact Nat.mul_le_mul_right _ hj
      have hrun := run_store' (P := P) (w := w) hti hi (g := G.bl t) (off := j.toNat * sz) (ms := ms) (ty := e) (v := a.eval y) hh (by rw [← hrl]; exact hlen) (by rw [hsz]; exact hfit) hr1
      rw [← hpt] at hrun
      have hw := hs.write gws (t := t) (ms := ms) (ms' := setCells ms (j.toNat * sz) (a.eval y).cells.toList) (ty := e) hh ho hnp (.mr e sz (xs.set j.toNat (rdv env y))) (fun w' hh' hd hcell => by
        refine ⟨setCells ms (j.toNat * sz) (a.eval y).cells.toList, by rw [List.length_set]; exact hpm, hh', ho, hnp, ?_, widths_set hz (hlen.trans hsz), setCells_all (p := fun u : Value => u.oneCell' = true) _ _ _ hr1 h1, by rw [List.length_set]; exact hlx, h0, hB⟩
        rw [flat_set hz hj (hlen.trans hsz)]
        have hk : ∀ {vs : List VV} {us : List Value}, DRs G.pd w vs us → DRs G.pd w' vs us := fun {vs us} h => .of h.length fun i v m hv hm => hd _ _ (h.at hv hm)
        exact (hk hr).setCells _ (hk hr0))
      refine wp_skip' (hex _ hrun) (hn G _ _ _ ?_ h)
      rw [hput]; exact hw
  · cases h
end
section
variable {P : Program} {NG : Nat} {GW : World → Prop} {io : List Nat} {w0 : World} {pd0 : Nat → Nat → Prop} {G G' : Gh} {env : Env} {a : Act} {w w' : World}
variable {R : Type} {K : Env → Option R} {r : R} {next : Act → World → Prop} {Q : Exit → Act → World → Prop} {o : Oper} {C : Cx} {ops : List Oper} {dr : Option (List Nat)}
theorem vget_some {β : Type} {xs : List VV} {i : Int} {f : VV → Option β} {r : β} (h : vget xs i f = some r) : ∃ v, xs[i.toNat]? = some v ∧ f v = some r := by
  unfold vget at h
  split at h
  · exact ⟨_, by assumption, h⟩
  · cases h
theorem DR.sl_inv {pd : Nat → Nat → Prop} {xs : List VV} {m : Value} (h : DR pd w (.sl xs) m) : (xs = [] ∧ ∃ A c, m = .slice A 0 c) ∨ ∃ (g off c sz : Nat) (ms : List Value), m = .slice (some ⟨g, off, none⟩) xs.length c ∧ xs.length ≤ c ∧ xs.length ≤ maxLen ∧ (∀ x ∈ xs, x.cells.length = sz) ∧ DRs pd w (xs.flatMap VV.cells) ms ∧ (∀ m ∈ ms, m.oneCell' = true) ∧ ∀ (k : Nat) m, ms[k]? = some m → w.cell? ⟨g, off + k, none⟩ = some m ∧ pd g (off + k) := by
  cases h with
  | sl0 A c => exact .inl ⟨rfl, A, c, rfl⟩
  | sl _ g off c sz ms hc hm hz hr h1 hw => exact .inr ⟨g, off, c, sz, ms, rfl, hc, hm, hz, hr, h1, hw⟩
theorem fieldAddr_sound (hti : TIok P C.ti) (hs : Sim NG GW io w0 pd0 G env a w) (hn : Nx NG GW io w0 pd0 K r next) {st : TypeId} {x : Operand} {f : Nat} (hop : o.op = .fieldAddr st x f) (h : vop C ops dr o env K = some r) : o.wp P a w next Q := by
  have hx := rdv_rel hs x
  simp only [vop, hop] at h
  split at h
  case h_2 => cases h
  rename_i i hi
  split at h
  case h_2 => cases h
  rename_i fs hk
  split at h
  case h_2 => cases h
  rename_i off sz hf
  split at h
  case isTrue => cases h
  rename_i hz
  have hkd := hti.kind st i hi
  rw [hk] at hkd
  obtain ⟨fields, hu, _, hfs⟩ := hkd
  obtain ⟨fd, inf, hfd, hoff, hinf, hsz⟩ := hfs f off sz hf
  have hrun : ∀ g o', a.eval x = .pointer (some ⟨g, o', none⟩) → (execOp a.eval o).run P w = .ok (.value (.pointer (some ⟨g, o' + off, none⟩))) w := by
    intro g o' he
    unfold execOp
    rw [hop]
    simp only [he]
    simp [Instr.fieldAt, run_underlying hu, hfd, Instr.sureAddr, fieldPlace, sizeOf, typeInfo, hinf, hsz, hz, Addr.add_lit, hoff]
  split at h
  · rename_i t o' hv
    rw [hv] at hx
    exact val_sound (v := .pt t (o' + off)) hs hn (hrun _ _ hx.pt_eq) (show _ = _ from rfl) h
  · rename_i cs hv
    rw [hv] at hx
    obtain ⟨g, o', ms, hm, hr, h1, hc⟩ := hx.vw_v
    have hV : ViewR G w (cs.drop off) (.pointer (some ⟨g, o' + off, none⟩)) := ⟨g, o' + off, ms.drop off, rfl, hr.drop off, fun u hu => h1 u (List.mem_of_mem_drop hu), fun k u hu => by
      rw [List.getElem?_drop] at hu
      rw [Nat.add_assoc]; exact hc _ u hu⟩
    exact val_sound (v := .vw (cs.drop off)) hs hn (hrun _ _ hm) hV h
  · cases h
theorem indexAddr_sound (hti : TIok P C.ti) (hs : Sim NG GW io w0 pd0 G env a w) (hn : Nx NG GW io w0 pd0 K r next) {t : TypeId} {x ix : Operand} (hop : o.op = .indexAddr t x ix) (h : vop C ops dr o env K = some r) : o.wp P a w next Q := by
  have hx := rdv_rel hs x
  have hix := rdv_rel hs ix
  simp only [vop, hop] at h
  split at h
  case h_2 => cases h
  rename_i i hi
  split at h
  case h_2 => cases h
  rename_i e hk
  split at h
  case h_2 => cases h
  rename_i ie hie
  have hu := hti.kind t i hi
  rw [hk] at hu
  simp only at hu
  obtain ⟨inf, z, hinf, hzz, hzc, hsz, hby, hzl, hz1, _⟩ := hti.info e ie hie
  have hrun : ∀ g off len cap k (j : Int), a.eval x = .slice (some ⟨g, off, none⟩) len cap → a.eval ix = .int k j → 0 ≤ j → j < (len : Int) → (execOp a.eval o).run P w = .ok (.value (.pointer (some ⟨g, off + j.toNat * ie.sz, none⟩))) w := by
    intro g off len cap k j he1 he2 h0 h1
    unfold execOp
    rw [hop]
    simp only [he1, he2]
    simp [Instr.indexAt, run_underlying hu, asIntOf, h0, h1, sizeOf, typeInfo, hinf, hsz, Addr.add_lit]
  split at h
  · rename_i xs k j hvx hvi
    rw [hvx] at hx
    rw [hvi] at hix
    have hj := hix.sv
    obtain ⟨hb, h⟩ := bite_none h
    simp at hb
    obtain ⟨v, hv, h⟩ := vget_some h
    split at h
    case isFalse => cases h
    rename_i hvl
    rcases hx.sl_dr.sl_inv with ⟨rfl, _⟩ | ⟨g, off, c, sz, ms, hm, hc, hml, hz, hr, h1, hw⟩
    · simp at hv
    · have hsz' : sz = ie.sz := by rw [← hz v (List.mem_of_getElem? hv)]; exact hvl
      subst hsz'
      have hel := flat_elem hz hv
      have hV : ViewR G w v.cells (.pointer (some ⟨g, off + j.toNat * ie.sz, none⟩)) := by
        refine ⟨g, _, (ms.drop (j.toNat * ie.sz)).take ie.sz, rfl, hel ▸ (hr.drop _).take _, fun u hu => h1 u (List.mem_of_mem_drop (List.mem_of_mem_take hu)), fun q u hu => ?_⟩
        have h2 := hw _ _ (drop_take_get hu)
        rw [Nat.add_assoc]
        exact ⟨h2.1, hs.dv _ _ h2.2⟩
      exact val_sound (v := .vw v.cells) hs hn (hrun _ _ _ _ _ _ hm hj hb.1 hb.2) hV h
  · rename_i u n k j hvx hvi
    rw [hvx] at hx
    rw [hvi] at hix
    obtain ⟨hb, h⟩ := bite_none h
    simp at hb
    have hm : a.eval x = .slice (some ⟨G.bl u, 0, none⟩) n n := hx
    refine val_sound (v := .pe u j ie.sz) hs hn (hrun _ _ _ _ _ _ hm hix.sv hb.1 hb.2) ?_ h
    show _ = _
    rw [Nat.zero_add]
  · cases h
theorem append_sound (hti : TIok P C.ti) (gws : ∀ w w', GW w → Below NG w w' → GW w') (hs : Sim NG GW io w0 pd0 G env a w) (hn : Nx NG GW io w0 pd0 K r next) {c : Call} (hop : o.op = .call c) (hc : c.callee = .builtin .append) (h : vop C ops dr o env K = some r) : o.wp P a w next Q := by
  simp only [vop, hop, hc] at h
  split at h
  case h_2 => cases h
  rename_i u y t t' hargs hts
  split at h
  case isFalse => cases h
  rename_i htt
  have htt := Nat.eq_of_beq_eq_true htt
  subst htt
  split at h
  case h_2 => cases h
  rename_i i hi
  split at h
  case h_2 => cases h
  rename_i e hk
  split at h
  case h_2 => cases h
  rename_i ie hie
  split at h
  case isFalse => cases h
  rename_i hpos
  have hy := rdv_rel hs y
  have hca : c.args = #[.tmp u, y] := by rw [← Array.toArray_toList (xs := c.args), hargs]
  have hct : c.argTypes = #[t, t] := by rw [← Array.toArray_toList (xs := c.argTypes), hts]
  have key : ∀ xs ys, (get env u = .ow e ie.sz xs ∨ (get env u = .nl ∧ xs = [])) → rdv env y = .sl ys → (∀ x ∈ ys, x.cells.length = ie.sz) → (xs.length + ys.length) * ie.bytes ≤ 140737488355328 → vset u (.sl xs) env (fun env' => vput dr o.dst (.ow e ie.sz (xs ++ ys)) env' K) = some r → o.wp P a w next Q := by
    intro xs ys hu hvy hz hb hK
    rw [hvy] at hy
    rw [vset_eq] at hK
    obtain ⟨G', v', w', hrun, hs', hO⟩ := append_run (ty := o.type) hti hs gws hi hk hie hpos.1 hpos.2 (o.dst.getD 0, 0) hu hy.sl_dr hz hb
    have hex : (execOp a.eval o).run P w = .ok (.value v') w' := by
      unfold execOp
      rw [hop]
      simp only [resolve, hc, hca, hct, List.map_toArray, List.map_cons, List.map_nil]
      simp [invoke, builtin, hrun]
    refine wp_value hex (hn G' _ _ _ (hs'.put o.dst fun d hd => ?_) (vput_some hK))
    rw [hd] at hO
    exact hO
  split at h
  · rename_i e' z xs ys hgu hvy
    split at h
    case isFalse => cases h
    rename_i hez
    simp at hez
    obtain ⟨rfl, rfl⟩ := hez
    obtain ⟨hb, h⟩ := bite_none h
    simp at hb
    exact key xs ys (.inl hgu) hvy (fun x hx => by have := hb.2 x hx; simpa using this) hb.1 h
  · rename_i ys hgu hvy
    obtain ⟨hb, h⟩ := bite_none h
    simp at hb
    exact key [] ys (.inr ⟨hgu, rfl⟩) hvy (fun x hx => by have := hb.2 x hx; simpa using this) (by simpa using hb.1) (by simpa using h)
  · cases h
end
section
variable {P : Program} {NG : Nat} {GW : World → Prop} {io : List Nat} {w0 : World} {pd0 : Nat → Nat → Prop} {G G' : Gh} {env : Env} {a : Act} {w w' : World}
variable {R : Type} {K : Env → Option R} {r : R} {next : Act → World → Prop} {Q : Exit → Act → World → Prop} {o : Oper} {C : Cx} {ops : List Oper} {dr : Option (List Nat)}
theorem fill_cons (place : Nat → Option (Nat × Nat)) (cells : Array Value) (i off sz : Nat) (v : Value) (rest : List (Nat × Value)) (hp : place i = some (off, sz)) (hv : v.cells.size = sz) (hf : off + sz ≤ cells.size) :
    Instr.fill place cells ((i, v) :: rest) = Instr.fill place (setCells cells.toList off v.cells.toList).toArray rest := by
  rw [Instr.fill]
  simp only [hp]
  rw [if_neg (by simp; omega)]
  congr 1
  have := fold_setCells v.cells.toList cells off 0
  simp only [Nat.add_zero] at this
  rw [← this]
  simp only [Array.toArray_toList]
  rw [← Array.foldl_toList, Array.toList_zipIdx]
theorem fillv_sound (hs : Sim NG GW io w0 pd0 G env a w) {i : TI} {fs : List (Nat × Nat)} (hk : i.k = .agg fs) {place : Nat → Option (Nat × Nat)} (hp : ∀ j o z, fs[j]? = some (o, z) → place j = some (o, z)) : ∀ (parts : List (Nat × Operand)) (cs : List VV) (ms : List Value) (cs' : List VV), DRs G.pd w cs ms → (∀ u ∈ ms, u.oneCell' = true) → fillv i cs (parts.map fun p => (p.1, rdv env p.2)) = some cs' →
    ∃ ms', Instr.fill place ms.toArray (parts.map fun p => (p.1, a.eval p.2)) = some ms'.toArray ∧ DRs G.pd w cs' ms' ∧ ∀ u ∈ ms', u.oneCell' = true
  | [], cs, ms, cs', hr, h1, h => by
    cases h; exact ⟨ms, rfl, hr, h1⟩
  | (j, x) :: rest, cs, ms, cs', hr, h1, h => by
    simp only [List.map_cons, fillv, hk] at h
    split at h
    case h_2 => cases h
    rename_i off sz hf
    split at h
    case isFalse => cases h
    rename_i hc
    obtain ⟨hl, hfit, hok⟩ := hc
    obtain ⟨hr', h1'⟩ := (rdv_rel hs x).cells hok
    have hl' : (rdv env x).cells.length = (a.eval x).cells.toList.length := hr'.length
    have hlc := hr.length
    have hl : (rdv env x).cells.length = sz := hl
    have hes : (a.eval x).cells.size = sz := (Array.length_toList (xs := (a.eval x).cells)).symm.trans (hl'.symm.trans hl)
    obtain ⟨ms', hm', hr2, h2⟩ := fillv_sound hs hk hp rest _ _ cs' (hr'.setCells off hr) (setCells_all (p := fun u : Value => u.oneCell' = true) _ _ _ h1' h1) h
    refine ⟨ms', ?_, hr2, h2⟩
    rw [List.map_cons, fill_cons place _ j off sz _ _ (hp _ _ _ hf) hes (by rw [List.size_toArray]; omega)]
    exact hm'
theorem build_sound (hti : TIok P C.ti) (hs : Sim NG GW io w0 pd0 G env a w) (hn : Nx NG GW io w0 pd0 K r next) {t : TypeId} {parts : Array (Nat × Operand)} (hop : o.op = .build t parts) (h : vop C ops dr o env K = some r) : o.wp P a w next Q := by
  simp only [vop, hop] at h
  split at h
  case h_2 => cases h
  rename_i i hi
  split at h
  case h_2 => cases h
  rename_i fs hk
  split at h
  case h_2 => cases h
  rename_i cs hf
  obtain ⟨inf, z, hinf, hzz, hzc, hsz, hby, hzl, hz1, hagg⟩ := hti.info t i hi
  have hkd := hti.kind t i hi
  · rw [hk] at hkd hagg
    obtain ⟨fields, hu, hfl, hfs⟩ := hkd
    have hpl : fields.toList.mapM (fun f => (P.info? f.type).map fun i => (f.offset, i.size)) = some fs := by
      have : ∀ (l : List Field) (q : List (Nat × Nat)), l.length = q.length → (∀ (j : Nat) o z, q[j]? = some (o, z) → ∃ f inf, l[j]? = some f ∧ f.offset = o ∧ P.info? f.type = some inf ∧ inf.size = z) → l.mapM (fun f => (P.info? f.type).map fun i => (f.offset, i.size)) = some q := by
        intro l
        induction l with
        | nil => intro q hl _; cases q with
          | nil => rfl
          | cons _ _ => simp at hl
        | cons f l ih => intro q hl hq; cases q with
          | nil => simp at hl
          | cons p q =>
            obtain ⟨f', inf', e1, e2, e3, e4⟩ := hq 0 p.1 p.2 rfl
            cases e1
            have := ih q (by simpa using hl) fun j o z hj => hq (j + 1) o z (by simpa using hj)
            simp [List.mapM_cons, e3, this, e2, e4]
      refine this _ _ (by simpa using hfl) fun j o z hj => ?_
      obtain ⟨f, inf', e1, e2⟩ := hfs j o z hj
      exact ⟨f, inf', by simpa using e1, e2⟩
    obtain ⟨ms', hm', hr, h1⟩ := fillv_sound (place := (fs.toArray[·]?)) hs hk (fun j o z hj => by simpa using hj) parts.toList _ i.zero cs (liftcs_rel i.zero) hz1 hf
    have hb : P.built t (parts.map fun x => (x.1, a.eval x.2)).toList = some ms'.toArray := by
      unfold Program.built
      simp only [hinf, hu, hzz, hpl, Array.toList_map]
      have : z.cells = i.zero.toArray := by rw [← hzc]
      rw [this]
      exact hm'
    have hrun := run_build (P := P) w t _ _ hb
    refine val_sound (v := .ag cs) hs hn (m := .agg ms'.toArray) ?_ (VR.of_dr (.ag _ _ hr h1)) h
    unfold execOp
    rw [hop]
    simp only [Sem.run_bind]
    rw [hrun]
    rfl
end
section
variable {P : Program} {NG : Nat} {GW : World → Prop} {io : List Nat} {w0 : World} {pd0 : Nat → Nat → Prop} {G G' : Gh} {env : Env} {a : Act} {w w' : World}
variable {R : Type} {K : Env → Option R} {r : R} {next : Act → World → Prop} {Q : Exit → Act → World → Prop} {o : Oper} {C : Cx} {ops : List Oper} {dr : Option (List Nat)}
theorem fills_sound (hs : Sim NG GW io w0 pd0 G env a w) {z : Nat} : ∀ (parts : List (Nat × Operand)) (xs : List VV) (ms : List Value) (xs' : List VV), DRs G.pd w (xs.flatMap VV.cells) ms → (∀ x ∈ xs, x.cells.length = z) → (∀ u ∈ ms, u.oneCell' = true) → fills z xs (parts.map fun p => (p.1, rdv env p.2)) = some xs' →
    ∃ ms', Instr.fill (fun i => some (i * z, z)) ms.toArray (parts.map fun p => (p.1, a.eval p.2)) = some ms'.toArray ∧ DRs G.pd w (xs'.flatMap VV.cells) ms' ∧ (∀ x ∈ xs', x.cells.length = z) ∧ (∀ u ∈ ms', u.oneCell' = true) ∧ xs'.length = xs.length
  | [], xs, ms, xs', hr, hz, h1, h => by
    cases h; exact ⟨ms, rfl, hr, hz, h1, rfl⟩
  | (j, x) :: rest, xs, ms, xs', hr, hz, h1, h => by
    simp only [List.map_cons, fills] at h
    split at h
    case isFalse => cases h
    rename_i hc
    obtain ⟨hl, hj, hok⟩ := hc
    have hl : (rdv env x).cells.length = z := hl
    obtain ⟨hr', h1'⟩ := (rdv_rel hs x).cells hok
    have hl' : (rdv env x).cells.length = (a.eval x).cells.toList.length := hr'.length
    have hlc := hr.length
    rw [flat_len hz] at hlc
    have hes : (a.eval x).cells.size = z := (Array.length_toList (xs := (a.eval x).cells)).symm.trans (hl'.symm.trans hl)
    have hset := hr'.setCells (j * z) hr
    rw [← flat_set hz hj hl] at hset
    obtain ⟨ms', hm', hr2, hz2, h2, hl2⟩ := fills_sound hs rest _ _ xs' hset (widths_set hz hl) (setCells_all (p := fun u : Value => u.oneCell' = true) _ _ _ h1' h1) h
    refine ⟨ms', ?_, hr2, hz2, h2, by rw [hl2, List.length_set]⟩
    have hfit : j * z + z ≤ ms.length := by rw [← hlc, ← Nat.succ_mul]; exact Nat.mul_le_mul_right _ hj
    rw [List.map_cons, fill_cons _ _ j (j * z) z _ _ rfl hes (by rw [List.size_toArray]; exact hfit)]
    exact hm'
theorem buildSlice_sound (hti : TIok P C.ti) (gws : ∀ w w', GW w → Below NG w w' → GW w') (hs : Sim NG GW io w0 pd0 G env a w) (hn : Nx NG GW io w0 pd0 K r next) {t : TypeId} {len : Nat} {parts : Array (Nat × Operand)} (hop : o.op = .buildSlice t len parts) (h : vop C ops dr o env K = some r) : o.wp P a w next Q := by
  simp only [vop, hop] at h
  split at h
  case h_2 => cases h
  rename_i i hi
  split at h
  case h_2 => cases h
  rename_i e hk
  split at h
  case h_2 => cases h
  rename_i ie hie
  split at h
  case isFalse => cases h
  rename_i hpos
  split at h
  case h_2 => cases h
  rename_i xs hf
  rw [frcL_eq] at h
  have hu := hti.kind t i hi
  rw [hk] at hu
  simp only at hu
  obtain ⟨inf, z, hinf, hzz, hzc, hsz, hby, hzl, hz1, _⟩ := hti.info e ie hie
  have hzcells := zeroV_cells hti hie
  have hzs : z.cells.size = ie.sz := by rw [← hzl, ← hzc, Array.length_toList]
  have hr0 : DRs G.pd w ((List.replicate len (zeroV ie)).flatMap VV.cells) ((List.replicate len ie.zero).flatten) := by
    rw [repl_flat, hzcells]; exact (liftcs_rel ie.zero).repl len
  have hw0 : ∀ x ∈ List.replicate len (zeroV ie), x.cells.length = ie.sz := by
    intro x hx
    rw [List.eq_of_mem_replicate hx, hzcells]; simpa using hzl
  have h10 : ∀ u ∈ (List.replicate len ie.zero).flatten, u.oneCell' = true := by
    intro u hu
    obtain ⟨l, hl, hu⟩ := List.mem_flatten.1 hu
    rw [List.eq_of_mem_replicate hl] at hu
    exact hz1 u hu
  obtain ⟨ms, hm, hr, hz, h1, hxl⟩ := fills_sound hs parts.toList _ _ xs hr0 hw0 h10 hf
  have hxl : xs.length = len := by simpa using hxl
  have hml : ms.length = xs.length * ie.sz := by rw [← hr.length, flat_len hz]
  have hcur : ((Array.range (len * ie.sz)).map (z.cells[· % z.cells.size]!)) = ((List.replicate len ie.zero).flatten).toArray := by
    rw [← hzs]
    have := made_list z.cells (by rw [hzs]; exact hpos.1) len
    rw [← hzc, ← this]
  have hrun : (Instr.buildSlice t len (parts.map fun (i, x) => (i, a.eval x))).run P w = .ok (.slice (some ⟨w.heap.size, 0, none⟩) len len) (w.alloc (.cells ms.toArray e)) := by
    by_cases hl0 : len = 0
    · subst hl0
      have hp : parts.toList = [] := by
        cases hp : parts.toList with
        | nil => rfl
        | cons p q => simp [hp, fills] at hf
      have hpe : parts = #[] := by rw [← Array.toArray_toList (xs := parts), hp]
      subst hpe
      have hx : xs = [] := List.eq_nil_of_length_eq_zero hxl
      subst hx
      have hm0 : ms = [] := List.eq_nil_of_length_eq_zero (by simpa using hml)
      subst hm0
      simp [Instr.buildSlice, run_underlying hu, sizeOf, typeInfo, hinf, Instr.fill, newRow]
      rw [show Array.map (fun _ : Nat => (default : Value)) (Array.range 0) = #[] from by
        apply Array.eq_empty_of_size_eq_zero; simp]
    · refine run_buildSlice w t e len _ _ inf z hu hinf hzz (by rw [hsz]; have := hpos.2; omega) (by rw [hsz]; have := Nat.mul_pos (Nat.pos_of_ne_zero hl0) hpos.1; omega) ?_
      rw [hsz, hcur, Array.toList_map]
      exact hm
  obtain ⟨G', hs', hO⟩ := hs.row gws (o.dst.getD 0, 0) (e := e) (sz := ie.sz) (cap := len) (xs := xs) (ms := ms) (cur := ms.toArray) (by rw [List.size_toArray, hml, hxl]) (by rw [← hml]; exact List.take_length) hml (by omega) (by have h1 := hpos.1; have h2 := hpos.2; have : len ≤ len * ie.sz := Nat.le_mul_of_pos_right _ h1; simp only [maxLen]; omega) hr hz h1
  have hex : (execOp a.eval o).run P w = .ok (.value (.slice (some ⟨w.heap.size, 0, none⟩) len len)) (w.alloc (.cells ms.toArray e)) := by
    unfold execOp
    rw [hop]
    simp only [Sem.run_bind]
    rw [hrun]
    rfl
  refine wp_value hex (hn G' _ _ _ (hs'.put o.dst fun d hd => ?_) (vput_some h))
  rw [hd] at hO
  rw [hxl] at hO
  exact hO
theorem makeSlice_sound (hti : TIok P C.ti) (gws : ∀ w w', GW w → Below NG w w' → GW w') (hs : Sim NG GW io w0 pd0 G env a w) (hn : Nx NG GW io w0 pd0 K r next) {t : TypeId} {l c : Operand} (hop : o.op = .makeSlice t l c) (h : vop C ops dr o env K = some r) : o.wp P a w next Q := by
  have hl := rdv_rel hs l
  have hc := rdv_rel hs c
  simp only [vop, hop] at h
  split at h
  case h_2 => cases h
  rename_i i hi
  split at h
  case h_2 => cases h
  rename_i e hk
  split at h
  case h_2 => cases h
  rename_i ie hie
  split at h
  case h_2 => cases h
  rename_i n n' d hvl hvc hd
  split at h
  case isFalse => cases h
  rename_i hpos
  obtain ⟨hb, h⟩ := bite_none h
  simp at hb
  obtain ⟨hnn, h0, hb⟩ := hb
  rw [hvl] at hl
  rw [hvc] at hc
  have hl := hl.sv
  have hc := hc.sv
  subst hnn
  have hu := hti.kind t i hi
  rw [hk] at hu
  simp only at hu
  obtain ⟨inf, z, hinf, hzz, hzc, hsz, hby, hzl, hz1, _⟩ := hti.info e ie hie
  have hzs : z.cells.size = ie.sz := by rw [← hzl, ← hzc, Array.length_toList]
  have hzcells := zeroV_cells hti hie
  have hn1 : n'.toNat ≤ n'.toNat * ie.bytes := Nat.le_mul_of_pos_right _ hpos.2
  have hrun := run_make (P := P) w t e inf z hu hinf hzz .i64 .i64 n' n' h0 (Int.le_refl _) (by
    rw [hby]
    have h3 : ((n'.toNat * ie.bytes : Nat) : Int) ≤ 281474976710656 := by omega
    have h4 : (n'.toNat : Int) = n' := Int.toNat_of_nonneg h0
    have h5 : ((n'.toNat * ie.bytes : Nat) : Int) = (ie.bytes : Int) * n' := by
      rw [Int.natCast_mul, h4, Int.mul_comm]
    omega) (by omega)
  have hcur : madeCells z.cells (n'.toNat * inf.size) = ((List.replicate n'.toNat ie.zero).flatten).toArray := by
    unfold madeCells
    rw [hsz, ← hzs]
    have := made_list z.cells (by rw [hzs]; exact hpos.1) n'.toNat
    rw [← hzc, ← this]
  rw [hcur] at hrun
  have hr0 : DRs G.pd w ((List.replicate n'.toNat (zeroV ie)).flatMap VV.cells) ((List.replicate n'.toNat ie.zero).flatten) := by
    rw [repl_flat, hzcells]; exact (liftcs_rel ie.zero).repl _
  have hw0 : ∀ x ∈ List.replicate n'.toNat (zeroV ie), x.cells.length = ie.sz := by
    intro x hx
    rw [List.eq_of_mem_replicate hx, hzcells]; simpa using hzl
  have h10 : ∀ u ∈ (List.replicate n'.toNat ie.zero).flatten, u.oneCell' = true := by
    intro u hu
    obtain ⟨l, hl, hu⟩ := List.mem_flatten.1 hu
    rw [List.eq_of_mem_replicate hl] at hu
    exact hz1 u hu
  obtain ⟨G', hs'⟩ := hs.fresh gws d (.mr e ie.sz (List.replicate n'.toNat (zeroV ie))) ((List.replicate n'.toNat ie.zero).flatten) e (.slice (some ⟨w.heap.size, 0, none⟩) n'.toNat n'.toNat) (fun G' hB hb ho hp hd => by
    refine ⟨_, by rw [hb, List.length_replicate], by rw [hb]; exact heap_alloc_new w _, by rw [hb]; exact ho, fun k hk => hp k (by rw [hb] at hk; exact hk), .of hr0.length fun i v m hv hm => hd _ _ (hr0.at hv hm), hw0, h10, by rw [List.length_replicate]; simp only [maxLen]; omega, hpos.1, by rw [hb]; exact hB⟩)
  have hex : (execOp a.eval o).run P w = .ok (.value (.slice (some ⟨w.heap.size, 0, none⟩) n'.toNat n'.toNat)) (w.alloc (.cells ((List.replicate n'.toNat ie.zero).flatten).toArray e)) := by
    unfold execOp
    rw [hop]
    simp only [Sem.run_bind, hl, hc]
    rw [hrun]
    rfl
  refine wp_value hex (hn G' _ _ _ ?_ (vnew_some h))
  rw [hd]; exact hs'
end
def kindB : IntKind → IntKind → Bool
  | a, b => decide (a = b)
def zB : Value → Value → Bool
  | .int k 0, .int k' 0 => kindB k k'
  | .bool false, .bool false => true
  | .string ⟨⟨[]⟩⟩, .string ⟨⟨[]⟩⟩ => true
  | .slice none 0 0, .slice none 0 0 => true
  | .pointer none, .pointer none => true
  | _, _ => false
theorem zB_eq {a b : Value} (h : zB a b = true) : a = b ∧ b.oneCell' = true := by
  unfold zB at h
  split at h <;> first
    | (cases h; done)
    | (simp only [kindB, decide_eq_true_eq] at h; subst h; exact ⟨rfl, rfl⟩)
    | exact ⟨rfl, rfl⟩
def zsB : List Value → List Value → Bool
  | [], [] => true
  | a :: r, b :: s => zB a b && zsB r s
  | _, _ => false
theorem zsB_eq : ∀ {a b : List Value}, zsB a b = true → a = b ∧ ∀ v ∈ b, v.oneCell' = true
  | [], [], _ => ⟨rfl, by simp⟩
  | a :: r, b :: s, h => by
    rw [zsB, Bool.and_eq_true] at h
    obtain ⟨rfl, h1⟩ := zB_eq h.1
    obtain ⟨rfl, h2⟩ := zsB_eq h.2
    exact ⟨rfl, by intro v hv; rcases List.mem_cons.1 hv with rfl | hv; exact h1; exact h2 v hv⟩
  | [], _ :: _, h => by simp [zsB] at h
  | _ :: _, [], h => by simp [zsB] at h
def fsB (P : Program) : List Field → List (Nat × Nat) → Bool
  | [], [] => true
  | f :: r, (o, z) :: s => Nat.beq f.offset o && ((match P.info? f.type with
    | some inf => Nat.beq inf.size z
    | none => false) && fsB P r s)
  | _, _ => false
theorem fsB_ok {P : Program} : ∀ {l : List Field} {fs : List (Nat × Nat)}, fsB P l fs = true → l.length = fs.length ∧ ∀ (j : Nat) o z, fs[j]? = some (o, z) → ∃ f inf, l[j]? = some f ∧ f.offset = o ∧ P.info? f.type = some inf ∧ inf.size = z
  | [], [], _ => ⟨rfl, by simp⟩
  | f :: r, (o, z) :: s, h => by
    rw [fsB, Bool.and_eq_true, Bool.and_eq_true] at h
    obtain ⟨h1, h2, h3⟩ := h
    obtain ⟨hl, h4⟩ := fsB_ok h3
    refine ⟨by simp [hl], fun j o' z' hj => ?_⟩
    cases j with
    | zero =>
      simp at hj
      obtain ⟨rfl, rfl⟩ := hj
      split at h2
      · rename_i inf hi
        exact ⟨f, inf, rfl, Nat.eq_of_beq_eq_true h1, hi, Nat.eq_of_beq_eq_true h2⟩
      · cases h2
    | succ j => exact h4 j o' z' (by simpa using hj)
  | [], _ :: _, h => by simp [fsB] at h
  | _ :: _, [], h => by simp [fsB] at h
def infoB (P : Program) (t : TypeId) (i : TI) : Bool := match P.info? t with
  | some inf => (match inf.zero with
    | some z => zsB z.cells.toList i.zero && (Nat.beq inf.size i.sz && (Nat.beq inf.bytes i.bytes && (Nat.beq i.zero.length i.sz && (match i.k with
      | .agg _ => (match z with
        | .agg _ => true
        | _ => false)
      | _ => Nat.beq i.sz 1))))
    | none => false)
  | none => false
def undB (P : Program) (t : TypeId) : TK → Bool
  | .agg fs => (match P.underlying t with
    | some (.struct fields) => fsB P fields.toList fs
    | _ => false)
  | .slice e => (match P.underlying t with
    | some (.slice e') => Nat.beq e' e
    | _ => false)
  | .str => (match P.underlying t with
    | some .string => true
    | _ => false)
  | .bool => (match P.underlying t with
    | some .bool => true
    | _ => false)
  | .int k => (match P.underlying t with
    | some (.int k') => kindB k' k
    | _ => false)
  | .ptr => (match P.underlying t with
    | some (.pointer _) => true
    | _ => false)
def look : List (TypeId × TI) → TypeId → Option TI
  | [], _ => none
  | (u, i) :: r, t => match Nat.beq u t with
    | true => some i
    | false => look r t
theorem look_all {q : TypeId × TI → Bool} : ∀ {l : List (TypeId × TI)} {t : TypeId} {i : TI}, l.all q = true → look l t = some i → q (t, i) = true
  | [], t, i, _, h => by cases h
  | (u, j) :: r, t, i, ha, h => by
    rw [List.all_cons, Bool.and_eq_true] at ha
    rw [look] at h
    split at h
    · rename_i hb
      cases h
      have := Nat.eq_of_beq_eq_true hb
      subst this
      exact ha.1
    · exact look_all ha.2 h
theorem TIok.of {P : Program} {l : List (TypeId × TI)} (h1 : l.all (fun p => infoB P p.1 p.2) = true) (h2 : l.all (fun p => undB P p.1 p.2.k) = true) : TIok P (look l) := by
  refine ⟨fun t i h => ?_, fun t i h => ?_⟩
  · have := look_all h1 h
    simp only [infoB] at this
    split at this
    case h_2 => cases this
    rename_i inf hinf
    split at this
    case h_2 => cases this
    rename_i z hz
    simp only [Bool.and_eq_true] at this
    obtain ⟨a, b, c, d, e⟩ := this
    obtain ⟨a1, a2⟩ := zsB_eq a
    refine ⟨inf, z, hinf, hz, a1, Nat.eq_of_beq_eq_true b, Nat.eq_of_beq_eq_true c, Nat.eq_of_beq_eq_true d, a2, ?_⟩
    cases hk : i.k <;> simp only [hk] at e ⊢ <;> first
      | exact Nat.eq_of_beq_eq_true e
      | (split at e
         · exact ⟨_, rfl⟩
         · cases e)
  · have := look_all h2 h
    simp only at this
    cases hk : i.k <;> simp only [hk, undB] at this ⊢ <;> split at this <;> first
      | (cases this; done)
      | (rename_i h3; exact h3)
      | (rename_i h3; exact ⟨_, h3⟩)
      | (rename_i h3; simp only [kindB, decide_eq_true_eq] at this; rw [h3, this])
      | (rename_i h3; rw [h3, Nat.eq_of_beq_eq_true this])
      | (rename_i h3
         obtain ⟨h4, h5⟩ := fsB_ok this
         exact ⟨_, h3, by simpa using h4, fun j o z hj => by
          obtain ⟨f, inf, h6, h7⟩ := h5 j o z hj
          exact ⟨f, inf, by simpa using h6, h7⟩⟩)
end Go.Proofs.YtoidompkofomjaaGreatDoor.VI

end
section
namespace Go.Proofs.YtoidompkofomjaaGreatDoor.VI
open Go Go.RowKit Go.Proofs.YtoidompkofomjaaGreatDoorW.PrintWords
set_option linter.unusedVariables false
set_option linter.unusedSimpArgs false
theorem drs_s : ∀ {pd : Nat → Nat → Prop} {w : World} (ls : List Value) {ms : List Value}, DRs pd w (ls.map VV.s) ms → ms = ls
  | _, _, [], _, h => by cases h; rfl
  | _, _, a :: ls, _, h => by
    cases h with
    | cons _ m _ ms h1 h2 =>
      cases h1
      rw [drs_s ls h2]
theorem c_of_dr {α : Type} {mk : α → Value} {h1 : ∀ x, (mk x).oneCell' = true} {pd : Nat → Nat → Prop} {w : World} {xs : List α} {m : Value} (h : DR pd w (.sl (xs.map fun x => .s (mk x))) m) : ∃ A c, m = .slice A xs.length c ∧ xs.length ≤ c ∧ Kd.C (Kd.scalar mk h1) w A xs.length xs := by
  generalize hl : (xs.map fun x => VV.s (mk x)) = l at h
  have hn : l.length = xs.length := by rw [← hl, List.length_map]
  cases h with
  | sl0 A c =>
    obtain rfl := List.eq_nil_of_length_eq_zero hn.symm
    exact ⟨A, c, rfl, Nat.zero_le _, rfl, Nat.zero_le _, fun h => absurd h (Nat.lt_irrefl _)⟩
  | sl _ g off c sz ms hc hm hz hr h1' hw =>
    subst hl
    have e : (List.map (fun x => VV.s (mk x)) xs).flatMap VV.cells = (xs.map mk).map VV.s := by
      clear hn hc hm hz hr h1' hw
      induction xs with
      | nil => rfl
      | cons x xs ih => rw [List.map_cons, List.flatMap_cons, ih]; rfl
    rw [e] at hr
    obtain rfl := drs_s _ hr
    rw [hn] at hc hm ⊢
    refine ⟨_, c, rfl, hc, rfl, by simpa [maxLen] using hm, fun _ => ⟨_, rfl, fun j p hj => ⟨[mk p], rfl, rfl, fun i u hu => ?_⟩⟩⟩
    cases i with
    | zero =>
      have hu' : mk p = u := by simpa using hu
      subst hu'
      have := (hw j (mk p) (by rw [List.getElem?_map, hj]; rfl)).1
      have e2 : (⟨g, off, none⟩ : Addr).add (j * 1 + 0) = ⟨g, off + j, none⟩ := by unfold Addr.add; simp
      show w.cell? ((⟨g, off, none⟩ : Addr).add (j * 1 + 0)) = _
      rw [e2]; exact this
    | succ i => simp at hu
theorem byL_map : ∀ (xs : List VV) (l : List Int), byL xs = some l → xs = l.map VV.byte
  | [], l, h => by cases h; rfl
  | v :: r, l, h => by
    cases v with
    | s x =>
      cases x with
      | int k n =>
        cases k with
        | u8 =>
          have h2 : obind (byL r) (fun l => some (n :: l)) = some l := h
          cases hr : byL r with
          | none => rw [hr] at h2; cases h2
          | some l' =>
            rw [hr] at h2
            have h' : some (n :: l') = some l := h2
            cases h'
            rw [byL_map r l' hr]
            rfl
        | _ => cases h
      | _ => cases h
    | _ => cases h
theorem bytes_run {P : Program} {pd : Nat → Nat → Prop} {w : World} {src dst e : TypeId} {xs : List VV} {l : List Int} {m : Value} (hs : P.underlying src = some (.slice e)) (he : P.underlying e = some (.int .u8)) (hd : P.underlying dst = some .string) (hl : byL xs = some l) (h : DR pd w (.sl xs) m) : (convert src dst m).run P w = .ok (.string (strOfNums l)) w := by
  obtain rfl := byL_map xs l hl
  obtain ⟨A, c, rfl, _, hC⟩ := c_of_dr (mk := Value.int .u8) (h1 := fun _ => rfl) h
  exact Kd.C_string hs he hd hC
end Go.Proofs.YtoidompkofomjaaGreatDoor.VI

end
