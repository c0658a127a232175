/- A part of the proof that the law FnExactHoles answers true at every input that its row speaks of. Conditions: the row's own. -/
import Derived.Test.YtcfeihimmboghaaGreatDoorMFnExactHoles4
import Derived.Test.YtcfeihimmboghaaGreatDoorMFnExactHoles8
import Derived.Test.YtcfeihimmboghaaGreatDoorVMore
import Derived.Test.YtcfeihimmboghaaGreatDoorMFnExactHoles6
import Derived.Test.YtcfeihimmboghaaGreatDoorMFnExactHoles3
import Derived.KernelRfl
import Derived.Laws.Strings
import Derived.Test.YtcfeihimmboghaaGreatDoorProg
import Derived.Test.YtcfeihimmboghaaGreatDoorKFnExactHoles0
import Derived.Test.YtcfeihimmboghaaGreatDoorKFnExactHoles1
import Derived.Test.YtcfeihimmboghaaGreatDoorMFnExactHoles2
import Derived.Test.YtcfeihimmboghaaGreatDoorGlob
section
namespace Go.Proofs.YtcfeihimmboghaaGreatDoor.VI
open Go Go.RowKit
set_option linter.unusedVariables false
set_option linter.unusedSimpArgs false
def kindB : IntKind → IntKind → Bool
  | a, b => decide (a = b)
def zB : Value → Value → Bool
  | .int k 0, .int k' 0 => kindB k k'
  | .bool false, .bool false => true
  | .string ⟨⟨[]⟩⟩, .string ⟨⟨[]⟩⟩ => true
  | .slice none 0 0, .slice none 0 0 => true
  | .pointer none, .pointer none => true
  | _, _ => false
theorem zB_eq {a b : Value} (h : zB a b = true) : a = b ∧ b.oneCell' = true := by
  unfold zB at h
  split at h <;> first
    | (cases h; done)
    | (simp only [kindB, decide_eq_true_eq] at h; subst h; exact ⟨rfl, rfl⟩)
    | exact ⟨rfl, rfl⟩
def zsB : List Value → List Value → Bool
  | [], [] => true
  | a :: r, b :: s => zB a b && zsB r s
  | _, _ => false
theorem zsB_eq : ∀ {a b : List Value}, zsB a b = true → a = b ∧ ∀ v ∈ b, v.oneCell' = true
  | [], [], _ => ⟨rfl, by simp⟩
  | a :: r, b :: s, h => by
    rw [zsB, Bool.and_eq_true] at h
    obtain ⟨rfl, h1⟩ := zB_eq h.1
    obtain ⟨rfl, h2⟩ := zsB_eq h.2
    exact ⟨rfl, by intro v hv; rcases List.mem_cons.1 hv with rfl | hv; exact h1; exact h2 v hv⟩
  | [], _ :: _, h => by simp [zsB] at h
  | _ :: _, [], h => by simp [zsB] at h
def fsB (P : Program) : List Field → List (Nat × Nat) → Bool
  | [], [] => true
  | f :: r, (o, z) :: s => Nat.beq f.offset o && ((match P.info? f.type with
    | some inf => Nat.beq inf.size z
    | none => false) && fsB P r s)
  | _, _ => false
theorem fsB_ok {P : Program} : ∀ {l : List Field} {fs : List (Nat × Nat)}, fsB P l fs = true → l.length = fs.length ∧ ∀ (j : Nat) o z, fs[j]? = some (o, z) → ∃ f inf, l[j]? = some f ∧ f.offset = o ∧ P.info? f.type = some inf ∧ inf.size = z
  | [], [], _ => ⟨rfl, by simp⟩
  | f :: r, (o, z) :: s, h => by
    rw [fsB, Bool.and_eq_true, Bool.and_eq_true] at h
    obtain ⟨h1, h2, h3⟩ := h
    obtain ⟨hl, h4⟩ := fsB_ok h3
    refine ⟨by simp [hl], fun j o' z' hj => ?_⟩
    cases j with
    | zero =>
      simp at hj
      obtain ⟨rfl, rfl⟩ := hj
      split at h2
      · rename_i inf hi
        exact ⟨f, inf, rfl, Nat.eq_of_beq_eq_true h1, hi, Nat.eq_of_beq_eq_true h2⟩
      · cases h2
    | succ j => exact h4 j o' z' (by simpa using hj)
  | [], _ :: _, h => by simp [fsB] at h
  | _ :: _, [], h => by simp [fsB] at h
def infoB (P : Program) (t : TypeId) (i : TI) : Bool := match P.info? t with
  | some inf => (match inf.zero with
    | some z => zsB z.cells.toList i.zero && (Nat.beq inf.size i.sz && (Nat.beq inf.bytes i.bytes && (Nat.beq i.zero.length i.sz && (match i.k with
      | .agg _ => (match z with
        | .agg _ => true
        | _ => false)
      | _ => Nat.beq i.sz 1))))
    | none => false)
  | none => false
def undB (P : Program) (t : TypeId) : TK → Bool
  | .agg fs => (match P.underlying t with
    | some (.struct fields) => fsB P fields.toList fs
    | _ => false)
  | .slice e => (match P.underlying t with
    | some (.slice e') => Nat.beq e' e
    | _ => false)
  | .str => (match P.underlying t with
    | some .string => true
    | _ => false)
  | .bool => (match P.underlying t with
    | some .bool => true
    | _ => false)
  | .int k => (match P.underlying t with
    | some (.int k') => kindB k' k
    | _ => false)
  | .ptr => (match P.underlying t with
    | some (.pointer _) => true
    | _ => false)
def look : List (TypeId × TI) → TypeId → Option TI
  | [], _ => none
  | (u, i) :: r, t => match Nat.beq u t with
    | true => some i
    | false => look r t
theorem look_all {q : TypeId × TI → Bool} : ∀ {l : List (TypeId × TI)} {t : TypeId} {i : TI}, l.all q = true → look l t = some i → q (t, i) = true
  | [], t, i, _, h => by cases h
  | (u, j) :: r, t, i, ha, h => by
    rw [List.all_cons, Bool.and_eq_true] at ha
    rw [look] at h
    split at h
    · rename_i hb
      cases h
      have := Nat.eq_of_beq_eq_true hb
      subst this
      exact ha.1
    · exact look_all ha.2 h
theorem TIok.of {P : Program} {l : List (TypeId × TI)} (h1 : l.all (fun p => infoB P p.1 p.2) = true) (h2 : l.all (fun p => undB P p.1 p.2.k) = true) : TIok P (look l) := by
  refine ⟨fun t i h => ?_, fun t i h => ?_⟩
  · have := look_all h1 h
    simp only [infoB] at this
    split at this
    case h_2 => cases this
    rename_i inf hinf
    split at this
    case h_2 => cases this
    rename_i z hz
    simp only [Bool.and_eq_true] at this
    obtain ⟨a, b, c, d, e⟩ := this
    obtain ⟨a1, a2⟩ := zsB_eq a
    refine ⟨inf, z, hinf, hz, a1, Nat.eq_of_beq_eq_true b, Nat.eq_of_beq_eq_true c, Nat.eq_of_beq_eq_true d, a2, ?_⟩
    cases hk : i.k <;> simp only [hk] at e ⊢ <;> first
      | exact Nat.eq_of_beq_eq_true e
      | (split at e
         · exact ⟨_, rfl⟩
         · cases e)
  · have := look_all h2 h
    simp only at this
    cases hk : i.k <;> simp only [hk, undB] at this ⊢ <;> split at this <;> first
      | (cases this; done)
      | (rename_i h3; exact h3)
      | (rename_i h3; exact ⟨_, h3⟩)
      | (rename_i h3; simp only [kindB, decide_eq_true_eq] at this; rw [h3, this])
      | (rename_i h3; rw [h3, Nat.eq_of_beq_eq_true this])
      | (rename_i h3
         obtain ⟨h4, h5⟩ := fsB_ok this
         exact ⟨_, h3, by simpa using h4, fun j o z hj => by
          obtain ⟨f, inf, h6, h7⟩ := h5 j o z hj
          exact ⟨f, inf, by simpa using h6, h7⟩⟩)
end Go.Proofs.YtcfeihimmboghaaGreatDoor.VI

end
section
namespace Go.Proofs.YtcfeihimmboghaaGreatDoor.VI
open Go Go.RowKit Go.Proofs.YtcfeihimmboghaaGreatDoorW.PrintWords
set_option linter.unusedVariables false
set_option linter.unusedSimpArgs false
abbrev anyP : Nat → Nat → Prop := fun _ _ => True
structure KV {α : Type} (d : Kd α) (enc : α → List VV) : Prop where
  pos : 0 < d.sz
  len : ∀ x, (enc x).length = d.sz
  rel : ∀ {w x cs}, d.K w x cs → DRs anyP w (enc x) cs
theorem kv_scalar {α : Type} {mk : α → Value} {h1 : ∀ x, (mk x).oneCell' = true} : KV (Kd.scalar mk h1) (fun x => [.s (mk x)]) :=
  ⟨Nat.one_pos, fun _ => rfl, fun {w x cs} h => by cases h; exact .cons _ _ _ _ (.s _) .nil⟩
theorem kv_string : KV Kd.string (fun x => [VV.str x]) := kv_scalar (h1 := fun _ => rfl)
theorem kv_bool : KV Kd.bool (fun x => [VV.bool x]) := kv_scalar (h1 := fun _ => rfl)
theorem kv_int : KV (Kd.int .i64) (fun x => [VV.int x]) := kv_scalar (h1 := fun _ => rfl)
theorem kv_byte : KV (Kd.int .u8) (fun x => [VV.byte x]) := kv_scalar (h1 := fun _ => rfl)
theorem dr_row {α : Type} {d : Kd α} {enc : α → VV} (h : KV d (fun x => (enc x).cells)) {w : World} {A : Option Addr} {xs : List α} {c : Nat} (hc : xs.length ≤ c) (hr : Kd.C d w A xs.length xs) : DR anyP w (.sl (xs.map enc)) (.slice A xs.length c) := by
  obtain ⟨_, hm, hA⟩ := hr
  by_cases h0 : xs.length = 0
  · obtain rfl := List.eq_nil_of_length_eq_zero h0
    exact .sl0 _ _
  obtain ⟨ad, rfl, hrow⟩ := hA (by omega)
  have hsp : ad.spot = none := by
    obtain ⟨cs, hl, _, hcell⟩ := hrow 0 _ (List.getElem?_eq_getElem (by omega))
    have hp := h.pos
    have h1 := hcell 0 _ (List.getElem?_eq_getElem (by omega))
    rw [Nat.zero_mul, Nat.zero_add] at h1
    have h2 : ad.add 0 = ad := by simp [Addr.add]
    rw [h2] at h1
    unfold World.cell? at h1
    split at h1
    · cases hs : ad.spot with
      | none => rfl
      | some _ => rw [hs] at h1; simp at h1
    · cases h1
  obtain ⟨g, off, sp⟩ := ad
  subst hsp
  have key : ∀ (ys : List α) (j0 : Nat), (∀ j p, ys[j]? = some p → ∃ c, c.length = d.sz ∧ d.K w p c ∧ ∀ i u, c[i]? = some u → w.cell? ((⟨g, off, none⟩ : Addr).add ((j0 + j) * d.sz + i)) = some u) → ∃ ms : List Value, DRs anyP w (ys.flatMap fun x => (enc x).cells) ms ∧ (∀ u ∈ ms, u.oneCell' = true) ∧ ∀ (k : Nat) u, ms[k]? = some u → w.cell? ⟨g, off + (j0 * d.sz + k), none⟩ = some u := by
    intro ys
    induction ys with
    | nil => intro j0 _; exact ⟨[], .nil, by simp, fun k u hk => by simp at hk⟩
    | cons y r ih =>
      intro j0 hy
      obtain ⟨c, hl, hK, hcell⟩ := hy 0 y rfl
      obtain ⟨ms, h1, h2, h3⟩ := ih (j0 + 1) fun j p hp => by
        obtain ⟨c', q1, q2, q3⟩ := hy (j + 1) p (by simpa using hp)
        refine ⟨c', q1, q2, fun i u hu => ?_⟩
        have := q3 i u hu
        rw [show j0 + (j + 1) = j0 + 1 + j by omega] at this
        exact this
      refine ⟨c ++ ms, by rw [List.flatMap_cons]; exact (h.rel hK).app h1, fun u hu => ?_, fun k u hu => ?_⟩
      · rcases List.mem_append.1 hu with hu | hu
        · exact d.K_one hK u hu
        · exact h2 u hu
      · by_cases hk : k < c.length
        · rw [List.getElem?_append_left hk] at hu
          have := hcell k u hu
          rw [Nat.add_zero] at this
          have hadd : ∀ n, (⟨g, off, none⟩ : Addr).add n = ⟨g, off + n, none⟩ := fun n => by unfold Addr.add; split <;> simp_all
          rw [hadd] at this
          exact this
        · rw [List.getElem?_append_right (by omega)] at hu
          have := h3 (k - c.length) u hu
          rw [show off + ((j0 + 1) * d.sz + (k - c.length)) = off + (j0 * d.sz + k) by rw [Nat.add_mul]; omega] at this
          exact this
  obtain ⟨ms, h1, h2, h3⟩ := key xs 0 (fun j p hp => by rw [Nat.zero_add]; exact hrow j p hp)
  have := DR.sl (pd := anyP) (w := w) (xs.map enc) g off c d.sz ms (by simpa using hc) (by simpa [maxLen] using hm) (by
      intro x hx
      obtain ⟨y, _, rfl⟩ := List.mem_map.1 hx
      exact h.len y) (by rw [List.flatMap_map]; exact h1) h2 fun k u hu => ⟨by have := h3 k u hu; rw [Nat.zero_mul, Nat.zero_add] at this; exact this, trivial⟩
  rw [List.length_map] at this
  exact this
theorem kv_slice {α : Type} {e : Nat} {d : Kd α} {enc : α → VV} (h : KV d (fun x => (enc x).cells)) : KV (Kd.slice e d) (fun xs => [.sl (xs.map enc)]) :=
  ⟨Nat.one_pos, fun _ => rfl, fun {w xs cs} hK => by
    obtain ⟨A, c, rfl, hl, hr⟩ := hK
    exact .cons _ _ _ _ (dr_row h hl hr) .nil⟩
theorem kv_pair {α β : Type} {a : Kd α} {b : Kd β} {ea : α → List VV} {eb : β → List VV} (h : KV a ea) (k : KV b eb) : KV (Kd.pair a b) (fun x => ea x.1 ++ eb x.2) :=
  ⟨by show 0 < a.sz + b.sz; have := h.pos; omega, fun x => by show (ea x.1 ++ eb x.2).length = a.sz + b.sz; rw [List.length_append, h.len, k.len], fun {w x cs} hK => by
    obtain ⟨c0, c1, rfl, h0, h1⟩ := hK
    exact (h.rel h0).app (k.rel h1)⟩
theorem kv_iso {α β : Type} {d : Kd α} {f : β → α} {ea : α → List VV} {eb : β → List VV} (h : KV d ea) (he : ∀ x, eb x = ea (f x)) : KV (Kd.iso d f) eb :=
  ⟨h.pos, fun x => by rw [he]; exact h.len _, fun {w x cs} hK => by rw [he]; exact h.rel hK⟩
section
variable {P : Program} {NG : Nat} {GW : World → Prop} {f : FuncId}
theorem dr_nbx {pd : Nat → Nat → Prop} {w : World} {v : VV} {m : Value} (h : DR pd w v m) (cs : List VV) : v ≠ .bx cs := by cases h <;> exact fun e => VV.noConfusion e
theorem dr_arg {H : Gh} {w : World} {v : VV} {m : Value} (h : DR H.pd w v m) : ArgR H w v m := by cases h <;> (show DR H.pd w _ _) <;> constructor <;> assumption
theorem CallOk1.calls {vs : List VV} {ms : List Value} {v : Value} {w : World} (h : CallOk1 P NG GW f vs (.s v, [])) (hgw : GW w) (hng : NG ≤ w.heap.size) (ha : DRs anyP w vs ms) : Calls P f ms.toArray w fun e w' => e = .returned v ∧ Below w.heap.size w w' := by
  have hnb : ∀ x ∈ vs, ∀ cs, x ≠ .bx cs := fun x hx cs => by
    obtain ⟨i, hi, rfl⟩ := List.getElem_of_mem hx
    obtain ⟨m, _, hd⟩ := ha.get (List.getElem?_eq_getElem hi)
    exact dr_nbx hd cs
  have hio := ioB_none vs ms hnb
  have := h.2 w ms ⟨anyP, anyP, fun _ => 0, fun _ => none, 0⟩ hgw hng ha.length (fun i x m hx hm => dr_arg (H := ⟨anyP, anyP, fun _ => 0, fun _ => none, 0⟩) (ha.at hx hm)) (by rw [hio]; exact List.nodup_nil) (by rw [hio]; simp) (by rw [hio]; simp) (fun _ _ h => h)
  refine this.mono fun e w' he => ?_
  obtain ⟨m, rfl, hfr, pd', _, hres, _⟩ := he
  have hd : DR pd' w' (.s v) m := hres
  cases hd
  exact ⟨rfl, hfr.os, hfr.tape, hfr.output, hfr.size, fun k hk => hfr.block k hk (by rw [hio]; simp)⟩
end
section
variable {P : Program} {NG : Nat} {GW : World → Prop} {f : FuncId}
theorem CallOk1.callsG {vs : List VV} {ms : List Value} {r : VV} {w : World} (h : CallOk1 P NG GW f vs (r, [])) (hgw : GW w) (hng : NG ≤ w.heap.size) (ha : DRs anyP w vs ms) : Calls P f ms.toArray w fun e w' => ∃ m pd', e = .returned m ∧ ResR w.heap.size pd' w' r m ∧ Below w.heap.size w w' := by
  have hnb : ∀ x ∈ vs, ∀ cs, x ≠ .bx cs := fun x hx cs => by
    obtain ⟨i, hi, rfl⟩ := List.getElem_of_mem hx
    obtain ⟨m, _, hd⟩ := ha.get (List.getElem?_eq_getElem hi)
    exact dr_nbx hd cs
  have hio := ioB_none vs ms hnb
  have := h.2 w ms ⟨anyP, anyP, fun _ => 0, fun _ => none, 0⟩ hgw hng ha.length (fun i x m hx hm => dr_arg (H := ⟨anyP, anyP, fun _ => 0, fun _ => none, 0⟩) (ha.at hx hm)) (by rw [hio]; exact List.nodup_nil) (by rw [hio]; simp) (by rw [hio]; simp) (fun _ _ h => h)
  refine this.mono fun e w' he => ?_
  obtain ⟨m, rfl, hfr, pd', _, hres, _⟩ := he
  exact ⟨m, pd', rfl, hres, hfr.os, hfr.tape, hfr.output, hfr.size, fun k hk => hfr.block k hk (by rw [hio]; simp)⟩
theorem CallOk1.callsT {vs : List VV} {ms : List Value} (ls : List Value) {w : World} (h : CallOk1 P NG GW f vs (.tu (ls.map VV.s), [])) (hgw : GW w) (hng : NG ≤ w.heap.size) (ha : DRs anyP w vs ms) : Calls P f ms.toArray w fun e w' => e = .returned (.tuple ls.toArray) ∧ Below w.heap.size w w' := by
  refine (h.callsG hgw hng ha).mono fun e w' he => ?_
  obtain ⟨m, pd', rfl, hres, hb⟩ := he
  have hd : DR pd' w' (.tu (ls.map VV.s)) m := hres
  cases hd with
  | tu cs us hr =>
    rw [drs_s ls hr]
    exact ⟨rfl, hb⟩
theorem CallOk1.callsR {vs : List VV} {ms : List Value} {α : Type} {enc : α → Value} {h1 : ∀ x, (enc x).oneCell' = true} {e : Nat} {xs : List α} {w : World} (h : CallOk1 P NG GW f vs (.ow e 1 (xs.map fun x => .s (enc x)), [])) (hgw : GW w) (hng : NG ≤ w.heap.size) (ha : DRs anyP w vs ms) : Calls P f ms.toArray w fun ex w' => ∃ v0 : Value, ex = .returned v0 ∧ Kd.R (Kd.scalar enc h1) e w' w.heap.size (fun _ => True) v0 xs ∧ Below w.heap.size w w' := by
  refine (h.callsG hgw hng ha).mono fun ex w' he => ?_
  obtain ⟨m, pd', rfl, hres, hb⟩ := he
  obtain ⟨us, ho, hr, hz, hu, hl, hg⟩ := hres
  have e2 : (xs.map fun x => VV.s (enc x)).flatMap VV.cells = (xs.map enc).map VV.s := by
    clear h ho hr hz hu hl hg
    induction xs with
    | nil => rfl
    | cons x xs ih => rw [List.map_cons, List.flatMap_cons, ih]; rfl
  rw [e2] at hr
  obtain rfl := drs_s _ hr
  rw [List.length_map] at ho
  exact ⟨m, rfl, Kd.R_of_own ho (fun _ _ => trivial), hb⟩
end
end Go.Proofs.YtcfeihimmboghaaGreatDoor.VI

end
section
namespace Go.Proofs.YtcfeihimmboghaaGreatDoor.VI
open Go
set_option linter.unusedSimpArgs false
set_option linter.unusedVariables false
def Im {α β : Type} (e : α → β) (x : Option α) (y : Option β) : Prop := ∀ r, x = some r → y = some (e r)
section
variable {α β γ δ : Type} {e : α → β} {x : Option α} {y z : Option β}
theorem Im.none : Im e .none y := fun _ h => by cases h
theorem Im.ret {r : α} (h : y = some (e r)) : Im e (some r) y := fun s hs => by cases hs; exact h
theorem Im.sbind {a : γ} {f : γ → Option α} (h : Im e (f a) y) : Im e ((some a).bind f) y := h
theorem Im.ite {c : Prop} [Decidable c] {a b : Option α} (ht : c → Im e a y) (hf : ¬ c → Im e b y) : Im e (if c then a else b) y := by
  by_cases h : c
  · rw [if_pos h]; exact ht h
  · rw [if_neg h]; exact hf h
theorem Im.iteB {c : Bool} {a b : Option α} (ht : c = true → Im e a y) (hf : c = false → Im e b y) : Im e (if c = true then a else b) y := by
  cases c
  · exact hf rfl
  · exact ht rfl
theorem Im.bite_t {b : Bool} (hb : b = true) (h : Im e x y) : Im e x (bite b y z) := by subst hb; exact h
theorem Im.bite_f {b : Bool} (hb : b = false) (h : Im e x z) : Im e x (bite b y z) := by subst hb; exact h
theorem Im.must {b : Bool} (hb : b = true) (h : Im e x y) : Im e x (VI.must b y) := by subst hb; exact h
theorem Im.bite_s {b : Bool} (ht : b = true → Im e x y) (hf : b = false → Im e x z) : Im e x (bite b y z) := by
  cases b
  · exact hf rfl
  · exact ht rfl
theorem Im.bind {e' : γ → δ} {u : Option γ} {v : Option δ} {f : γ → Option α} {g : δ → Option β} (h : Im e' u v) (k : ∀ a, u = some a → Im e (f a) (g (e' a))) : Im e (u.bind f) (obind v g) := by
  intro r hr
  obtain ⟨a, ha, hr⟩ := Option.bind_eq_some_iff.1 hr
  rw [h a ha]
  exact k a ha r hr
end
end Go.Proofs.YtcfeihimmboghaaGreatDoor.VI

end
section
namespace Go.Proofs.YtcfeihimmboghaaGreatDoor.VI
open Go Go.RowKit Go.Proofs.YtcfeihimmboghaaGreatDoorW.PrintWords
set_option linter.unusedVariables false
set_option linter.unusedSimpArgs false
theorem frc1_eq' {α : Type} (v : VV) (k : VV → α) : frc1 v k = k v := by cases v <;> rfl
theorem frcL_eq' {α : Type} : ∀ (l : List VV) (k : List VV → α), frcL l k = k l
  | [], _ => rfl
  | v :: r, k => by rw [frcL, frc1_eq', frcL_eq' r]
theorem clr_clr : ∀ (l : List Nat) (env : Env) (i : Nat), clr l i (clr l i env) = clr l i env
  | l, [], i => rfl
  | l, v :: r, i => by
    simp only [clr]
    rw [clr_clr l r (i + 1)]
    split <;> rfl
theorem clear_clear (l : Option (List Nat)) (env : Env) : clear l (clear l env) = clear l env := by
  cases l with
  | none => rfl
  | some l => exact clr_clr l env 0
section
variable {α β γ δ : Type} {e : α → β} {x : Option α} {y z : Option β}
theorem iter_clear {l : Option (List Nat)} {g : Env → (Exit → Env → Option β) → Option β} {K : Exit → Env → Option β} : ∀ {M : Nat} {env : Env}, iter (fun env' K' => clearK l env' fun e => g e K') M env K = iter (fun env' K' => clearK l env' fun e => g e K') M (clear l env) K
  | 0, _ => rfl
  | M + 1, env => by simp only [iter, clearK, frcL_eq', clear_clear]
theorem Im.loop {σ : Type} {l : Option (List Nat)} {g : Env → (Exit → Env → Option β) → Option β} {K : Exit → Env → Option β} (S : σ → Env) (L : Nat → σ → Option α) (k0 : Nat) (h0 : ∀ s, L 0 s = Option.none)
    (hs : ∀ k M s, k + 1 ≤ k0 → k ≤ M → (∀ k' s' env, k' ≤ k → clear l env = S s' → Im e (L k' s') (iter (fun env' K' => clearK l env' fun e => g e K') M env K)) → Im e (L (k + 1) s) (iter (fun env' K' => clearK l env' fun e => g e K') (M + 1) (S s) K)) :
    ∀ k M s env, k ≤ k0 → k ≤ M → clear l env = S s → Im e (L k s) (iter (fun env' K' => clearK l env' fun e => g e K') M env K) := by
  intro k
  induction k using Nat.strongRecOn with
  | _ k IH =>
    intro M s env hk hM hc
    cases k with
    | zero => rw [h0]; exact Im.none
    | succ k =>
      obtain ⟨M, rfl⟩ : ∃ M', M = M' + 1 := ⟨M - 1, by omega⟩
      rw [iter_clear, hc]
      exact hs k M s hk (by omega) fun k' s' env' hk' hc' => IH k' (by omega) M s' env' (by omega) (by omega) hc'
theorem Im.nat (F : Nat → Option α) (k : Nat) (h0 : F 0 = Option.none) (hs : ∀ k', k = k' + 1 → Im e (F (k' + 1)) y) : Im e (F k) y := by
  cases k with
  | zero => rw [h0]; exact Im.none
  | succ k => exact hs k rfl
theorem Im.vget {τ : Type} {l : List τ} {enc : τ → VV} {i : Int} {f : VV → Option β} (d : τ) (h0 : 0 ≤ i) (h1 : i < (l.length : Int)) (h : Im e x (f (enc (rdOf d l i)))) : Im e x (vget (l.map enc) i f) := by
  unfold VI.vget
  have hl : i.toNat < l.length := by omega
  rw [List.getElem?_map, List.getElem?_eq_getElem hl]
  simp only [Option.map_some]
  unfold rdOf at h
  rw [List.getD_eq_getElem?_getD, List.getElem?_eq_getElem hl] at h
  exact h
theorem Im.anyo {C : Cx} {l : List Oper} (h : anyOrder C l = true) (k : Im e x y) : Im e x (bite (anyOrder C l) y z) := Im.bite_t h k
theorem Im.fin {b : β} {r : α} (h : b = e r) : Im e (some r) (some b) := Im.ret (congrArg some h)
theorem Im.call {e' : γ → VV × List VV} {u : Option γ} {fn : List VV → Option (VV × List VV)} {us bs : List VV} {f : γ → Option α} {g : VV × List VV → Option β} (h : Im e' u (fn bs)) (ha : us = bs) (k : ∀ a, u = some a → Im e (f a) (g (e' a))) : Im e (u.bind f) (obind (fn us) g) := by
  subst ha
  exact Im.bind h k
end
theorem byL_of : ∀ l : List Int, byL (l.map VV.byte) = some l
  | [] => rfl
  | n :: r => by
    show obind (byL (r.map VV.byte)) _ = _
    rw [byL_of r]
    rfl
theorem Im.byl {α β : Type} {e : α → β} {x : Option α} {l : List Int} {f : List Int → Option β} (h : Im e x (f l)) : Im e x (obind (byL (l.map VV.byte)) f) := by
  rw [byL_of]
  exact h
theorem wr_i64 (n : Int) : wr .i64 n = wrap64 n := rfl
theorem wr_u8 (n : Int) : wr .u8 n = n % 256 := rfl
theorem bt_bt (s : ByteArray) (i : Int) : VI.bt s i = Go.Proofs.YtcfeihimmboghaaGreatDoorW.PrintWords.bt s i := rfl
theorem ba_size (a : Array UInt8) : (⟨a⟩ : ByteArray).size = a.size := rfl
theorem ba_toList (a : Array UInt8) : (⟨a⟩ : ByteArray).toList = a.toList := by
  rw [Go.ByteArray.toList_eq]
theorem rd_rdOf (xs : List Int) (i : Int) : Go.Proofs.YtcfeihimmboghaaGreatDoorW.PrintWords.rd xs i = rdOf 0 xs i := rfl
theorem u8_bits : IntKind.bits .u8 = 8 := rfl
theorem fdiv_16 (x : Int) : x.fdiv 16 = x / 16 := Int.fdiv_eq_ediv_of_nonneg x (by decide)
theorem fdiv_16b (x : Int) : x.fdiv (2 ^ min (Int.toNat 4) 8) = x / 16 := Int.fdiv_eq_ediv_of_nonneg x (by decide)
theorem bits_and8 (x y : Int) : IntKind.wrap .u8 ((BitVec.ofInt 8 x &&& BitVec.ofInt 8 y).toNat : Int) = Go.bits .and .u8 x y := rfl
theorem bits_and (x y : Int) : IntKind.wrap .u8 ((BitVec.ofInt IntKind.u8.bits x &&& BitVec.ofInt IntKind.u8.bits y).toNat : Int) = Go.bits .and .u8 x y := rfl
theorem and_t {a b : Bool} (h : a = true) (k : b = true) : (a && b) = true := by rw [h, k]; rfl
theorem all_cells {α : Type} {enc : α → VV} {z : Nat} {l : List α} (h : ∀ x, Nat.beq (enc x).cells.length z = true) : ((l.map enc).all fun v => Nat.beq v.cells.length z) = true := by
  rw [List.all_map, List.all_eq_true]
  exact fun x _ => h x
theorem cells_str (b : ByteArray) : (VV.str b).cells = [VV.str b] := rfl
theorem beq_self (n : Nat) : Nat.beq n n = true := Nat.beq_refl n
theorem Im.vopc {α β : Type} {e : α → β} {x : Option α} {C : Cx} {ops : List Oper} {dr : Option (List Nat)} {o : Oper} {env env2 : Env} {K : Env → Option β} (h : ∀ K' : Env → Option β, vop C ops dr o env K' = K' env2) (k : Im e x (K env2)) : Im e x (vop C ops dr o env K) := by rw [h]; exact k
def nlw (e : Nat) (b : Bool) (l : List ByteArray) : VV := match b, l with
  | true, [] => .nl
  | _, l => .ow e 1 (l.map VV.str)
theorem nlw_f (e : Nat) (l : List ByteArray) : nlw e false l = .ow e 1 (l.map VV.str) := rfl
theorem nlw_t (e : Nat) (a : ByteArray) (l : List ByteArray) : nlw e true (a :: l) = .ow e 1 ((a :: l).map VV.str) := rfl
theorem nlw_n (e : Nat) : nlw e true [] = .nl := rfl
theorem zr {P : Prop} (h : P := by first | (first | rfl | (simp only [List.length_map, List.length_set, List.length_replicate, List.map_append, List.map_set, List.map_cons, List.map_nil, List.map_replicate, List.map_take, List.map_drop, wr_i64, wr_u8, bt_bt, rd_rdOf, u8_bits, fdiv_16, fdiv_16b, bits_and, bits_and8, ba_toList, bne, Int.zero_sub, nlw_f, nlw_t, nlw_n, List.cons_append]; first | done | rfl)) | fail) : P := h
theorem zq {P : Prop} (h : P := by first | assumption | exact decide_eq_true (by assumption) | exact decide_eq_false (by assumption) | ((try clear ih1); (try clear ih2); (try clear ih3); simp only [*, decide_true, decide_false, Bool.beq_true, Bool.beq_false, Bool.not_true, Bool.not_false, beq_self_eq_true, Bool.true_and, Bool.and_true, Bool.eq_false_iff, ne_eq, not_false_eq_true, not_true_eq_false, Bool.not_eq_true', Bool.not_eq_eq_eq_not, Bool.not_true, Bool.not_false, Bool.and_false, Bool.false_and]; done) | fail) : P := h
theorem zd {P : Prop} (h : P := by first | (((try clear ih1); (try clear ih2); (try clear ih3); first | assumption | exact decide_eq_true (by assumption) | exact decide_eq_false (by assumption) | (simp [*, wr_i64, wr_u8, bt_bt, rd_rdOf, u8_bits, fdiv_16, fdiv_16b, bits_and, bits_and8, ba_size, ba_toList, bndOk, VV.cells, Nat.beq_eq]; done) | (simp [*, wr_i64, wr_u8, bt_bt, rd_rdOf, u8_bits, fdiv_16, fdiv_16b, bits_and, bits_and8, ba_size, ba_toList, bndOk, VV.cells, Nat.beq_eq]; omega) | ((try simp only [← List.map_take, ← List.map_drop]); refine and_t ?_ (all_cells (fun _ => rfl)); first | (simp [*, bndOk]; done) | (simp [*, bndOk]; omega) | (simp only [List.length_append, List.length_map, List.length_cons, List.length_nil, List.length_take, List.length_drop, Option.getD_none, Option.getD_some, decide_eq_true_eq] at *; omega)) | omega | (simp_all [wr_i64, wr_u8, bt_bt, rd_rdOf, u8_bits, fdiv_16, fdiv_16b, bits_and, bits_and8, ba_size, ba_toList, bndOk, VV.cells, Nat.beq_eq]; done) | (simp [wr_i64, wr_u8, bt_bt, rd_rdOf, u8_bits, fdiv_16, fdiv_16b, bits_and, bits_and8, ba_size, ba_toList, bndOk, VV.cells, Nat.beq_eq] at *; omega))) | fail) : P := h
theorem zm {P : Prop} (h : P := by first | (((with_reducible refine Im.ret ?_); (simp [resv, fixnl, VI.get, VI.nth, VI.must, List.length_map, beq_self]; done))) | fail) : P := h
theorem zx {P : Prop} (h : P := by first | ((exfalso; (try clear ih1); (try clear ih2); (try clear ih3); simp_all; done)) | fail) : P := h
theorem zo {P : Prop} (h : P := by first | (first | omega | (dsimp only; omega)) | fail) : P := h
end Go.Proofs.YtcfeihimmboghaaGreatDoor.VI

end
section
namespace Go.Proofs.YtcfeihimmboghaaGreatDoor.VI
open Go
def tis : List (TypeId × TI) := [(3, ⟨1, 8, [.int .i64 0], .int .i64⟩),
 (4, ⟨1, 1, [.bool false], .bool⟩),
 (5, ⟨1, 1, [.int .u8 0], .int .u8⟩),
 (9, ⟨1, 16, [.string ⟨#[]⟩], .str⟩),
 (22, ⟨1, 24, [.slice none 0 0], .slice 5⟩),
 (24, ⟨1, 24, [.slice none 0 0], .slice 86⟩),
 (40, ⟨1, 24, [.slice none 0 0], .slice 9⟩),
 (69, ⟨4, 48, [.int .i64 0, .int .i64 0, .int .i64 0, .slice none 0 0], .agg [(0, 1), (1, 1), (2, 1), (3, 1)]⟩),
 (73, ⟨1, 24, [.slice none 0 0], .slice 133⟩),
 (83, ⟨1, 8, [.pointer none], .ptr⟩),
 (86, ⟨2, 32, [.string ⟨#[]⟩, .string ⟨#[]⟩], .agg [(0, 1), (1, 1)]⟩),
 (99, ⟨1, 24, [.slice none 0 0], .slice 3⟩),
 (133, ⟨2, 32, [.string ⟨#[]⟩, .string ⟨#[]⟩], .agg [(0, 1), (1, 1)]⟩),
 (137, ⟨3, 40, [.slice none 0 0, .int .i64 0, .int .i64 0], .agg [(0, 1), (1, 1), (2, 1)]⟩),
 (140, ⟨2, 32, [.pointer none, .slice none 0 0], .agg [(0, 1), (1, 1)]⟩),
 (159, ⟨1, 8, [.pointer none], .ptr⟩)]
def ti (t : TypeId) : Option TI := look tis t
theorem hti : TIok Tryz.prog ti := TIok.of (l := tis) (by kernel_rfl) (by kernel_rfl)
end Go.Proofs.YtcfeihimmboghaaGreatDoor.VI

end
section
namespace Go.Proofs.YtcfeihimmboghaaGreatDoor.VI
open Go Go.RowKit Go.Proofs.YtcfeihimmboghaaGreatDoor.G Go.Proofs.YtcfeihimmboghaaGreatDoorW.PrintWords
def e86 (x : S86) : VV := .ag [.str x.f0, .str x.f1]
def e133 (x : S133) : VV := .ag [.str x.f0, .str x.f1]
@[simp] theorem rd_T86_eq (xs : List S86) (i : Int) : rd_T86 xs i = rdOf z86 xs i := rfl
@[simp] theorem rd_T133_eq (xs : List S133) (i : Int) : rd_T133 xs i = rdOf z133 xs i := rfl
def keep : FuncId → Nat → Option (List Nat) := fun f b => match f, b with
  | 7, 0 => some [3, 4, 7]
  | 7, 2 => some [3, 4, 12]
  | 20, 0 => some [0, 5, 6, 7]
  | 21, 0 => some [0, 3]
  | 26, 0 => some [0, 5, 23, 24, 25]
  | 27, 0 => some [1, 5, 6, 7]
  | 46, 0 => some [0, 1, 5]
  | 52, 0 => some [0, 3, 4]
  | 54, 0 => some [0, 3, 4]
  | 63, 0 => some [0, 1, 5]
  | 66, 0 => some [0, 1, 5]
  | 67, 0 => some [0, 1, 5]
  | 68, 0 => some [0, 1, 5]
  | 69, 0 => some [0, 3, 4]
  | 69, 2 => some [0, 3, 4, 5, 7]
  | 70, 0 => some [0, 3, 4, 7]
  | 71, 0 => some [3, 7, 8, 9]
  | 74, 0 => some [3, 4]
  | 75, 0 => some [3, 4, 5]
  | 76, 0 => some [0, 1, 5]
  | 78, 0 => some [2, 3, 24, 25, 26]
  | 78, 2 => some [2, 3, 56, 57]
  | 79, 0 => some [0, 1, 5]
  | 80, 0 => some [1, 5, 6, 7]
  | 81, 0 => some [0, 3, 4, 7]
  | 82, 0 => some [1, 5, 6]
  | 83, 0 => some [0, 1, 5]
  | 84, 0 => some [1, 5, 6, 7, 8]
  | 84, 2 => some [1, 5, 7, 9, 10]
  | 85, 0 => some [1, 6, 7, 8, 15, 16, 17]
  | 86, 0 => some [0, 1, 5]
  | 122, 0 => some [0, 1, 5, 6, 7]
  | 127, 0 => some [0, 1, 7, 8]
  | 147, 0 => some [0, 3]
  | 148, 0 => some [2, 3, 5, 6]
  | 148, 2 => some [2, 3, 7]
  | 152, 0 => some [0, 1, 5]
  | 172, 0 => some [1, 3, 4]
  | 208, 0 => some [1, 13, 14, 15]
  | 208, 2 => some [1, 24, 25, 26]
  | 215, 0 => some [1, 3]
  | 253, 0 => some [0, 3]
  | 279, 0 => some [0, 3]
  | _, _ => none
def unS : List VV → Option (List ByteArray)
  | [] => some []
  | .s (.string b) :: r => obind (unS r) fun l => some (b :: l)
  | _ => none
theorem unS_map : ∀ l : List ByteArray, unS (l.map VV.str) = some l
  | [] => rfl
  | b :: r => by
    show obind (unS (r.map VV.str)) _ = _
    rw [unS_map r]
    rfl
noncomputable def impl_ReadDec.gv : List VV → Option (VV × List VV)
  | [.s (.string a0)] => (impl_ReadDec.f a0).map fun r => (.int r, [])
  | _ => none
noncomputable def impl_SortVersions.gv : List VV → Option (VV × List VV)
  | [.sl q0] => obind (unS q0) fun l0 => (impl_SortVersions.f l0).map fun r => (.ow 9 1 (r.map VV.str), [])
  | _ => none
noncomputable def strings_Join.gv : List VV → Option (VV × List VV)
  | [.sl q0, .s (.string a1)] => obind (unS q0) fun l0 => (strings_Join.f l0 a1).map fun r => (.str r, [])
  | _ => none
noncomputable def strings_Split.gv : List VV → Option (VV × List VV)
  | [.s (.string a0), .s (.string a1)] => (strings_Split.f a0 a1).map fun r => (.ow 9 1 (r.map VV.str), [])
  | _ => none
noncomputable def strings_TrimLeft.gv : List VV → Option (VV × List VV)
  | [.s (.string a0), .s (.string a1)] => (strings_TrimLeft.f a0 a1).map fun r => (.str r, [])
  | _ => none
noncomputable def strconv_Itoa.gv : List VV → Option (VV × List VV)
  | [.s (.int .i64 a0)] => (strconv_Itoa.f a0).map fun r => (.str r, [])
  | _ => none
noncomputable def strings_Cut.gv : List VV → Option (VV × List VV)
  | [.s (.string a0), .s (.string a1)] => (strings_Cut.f a0 a1).map fun r => (.tu [.str r.1, .str r.2.1, .bool r.2.2], [])
  | _ => none
noncomputable def strings_Compare.gv : List VV → Option (VV × List VV)
  | [.s (.string a0), .s (.string a1)] => (strings_Compare.f a0 a1).map fun r => (.int r, [])
  | _ => none
noncomputable def Gv0 : FuncId → Option (List VV → Option (VV × List VV)) := fun f => match f with
  | 53 => some impl_ReadDec.gv
  | 91 => some strings_Join.gv
  | 94 => some strings_Split.gv
  | 123 => some strings_TrimLeft.gv
  | 124 => some strconv_Itoa.gv
  | 153 => some strings_Cut.gv
  | 210 => some strings_Compare.gv
  | _ => none
def Base (G : FuncId → Option (List VV → Option (VV × List VV))) : Prop := ∀ f, f ≠ 71 → G f = Gv0 f
theorem base0 : Base Gv0 := fun _ _ => rfl
noncomputable def Gv : FuncId → Option (List VV → Option (VV × List VV)) := fun f => match f with
  | 71 => some impl_SortVersions.gv
  | f => Gv0 f
theorem base1 : Base Gv := fun f h71 => by
  unfold Gv
  split
  · exact absurd rfl h71
  · rfl
noncomputable abbrev cv := callv Tryz.prog ti keep Gv
end Go.Proofs.YtcfeihimmboghaaGreatDoor.VI

end
section
namespace Go.Proofs.YtcfeihimmboghaaGreatDoor.VI
open Go Go.RowKit Go.Proofs.YtcfeihimmboghaaGreatDoor.G Go.Proofs.YtcfeihimmboghaaGreatDoorW.PrintWords
set_option linter.unusedVariables false
set_option linter.unusedSimpArgs false
theorem kv86 : KV k86 (fun x => (e86 x).cells) := kv_iso (kv_pair kv_string kv_string) (fun _ => rfl)
theorem kv133 : KV k133 (fun x => (e133 x).cells) := kv_iso (kv_pair kv_string kv_string) (fun _ => rfl)
end Go.Proofs.YtcfeihimmboghaaGreatDoor.VI

end
section
namespace Go.Proofs.YtcfeihimmboghaaGreatDoor.VI
open Go Go.RowKit Go.Proofs.YtcfeihimmboghaaGreatDoorW.PrintWords
set_option linter.unusedVariables false
set_option linter.unusedSimpArgs false
def argD : VV → Bool
  | .s _ => true
  | .sl _ => true
  | .ag _ => true
  | _ => false
def ResOf (pd : Nat → Nat → Prop) (w : World) (r : VV) (m : Value) (w' : World) : Prop := ∃ pd' : Nat → Nat → Prop, (∀ g k, g < w.heap.size → pd' g k → pd g k) ∧ ResR w.heap.size pd' w' r m
section
variable {P : Program} {NG : Nat} {GW : World → Prop} {f : FuncId}
theorem giv_ok {vs : List VV} {r : VV} (hf : FnOk P f) (hv : vs.all argD = true) (h : ∀ (w : World) (ms : List Value) (pd : Nat → Nat → Prop), GW w → DRs pd w vs ms → Calls P f ms.toArray w fun e w' => ∃ m, e = .returned m ∧ Below w.heap.size w w' ∧ ResOf pd w r m w') : CallOk1 P NG GW f vs (r, []) := by
  refine ⟨hf, fun w ms H hgw hng hl ha hnd _ _ _ => ?_⟩
  have hd : ∀ v ∈ vs, argD v = true := fun v hx => List.all_eq_true.1 hv v hx
  have hnb : ∀ x ∈ vs, ∀ cs, x ≠ .bx cs := fun x hx cs e => by have := hd x hx; rw [e] at this; cases this
  have key : ∀ (vs : List VV) (ms : List Value), (∀ v ∈ vs, argD v = true) → vs.length = ms.length → (∀ (i : Nat) v m, vs[i]? = some v → ms[i]? = some m → ArgR H w v m) → DRs H.pd w vs ms := by
    intro vs
    induction vs with
    | nil => intro ms _ hl _; cases ms with
      | nil => exact .nil
      | cons _ _ => cases hl
    | cons v vs ih => intro ms hd hl ha; cases ms with
      | nil => cases hl
      | cons m ms =>
        refine .cons _ _ _ _ ?_ (ih ms (fun x hx => hd x (by simp [hx])) (by simpa using hl) fun i v m h1 h2 => ha (i + 1) v m (by simpa using h1) (by simpa using h2))
        have h1 := ha 0 v m rfl rfl
        have h2 := hd v (by simp)
        cases v <;> first | (cases h2; done) | exact h1
  rw [ioB_none vs ms hnb]
  refine (h w ms H.pd hgw (key vs ms hd hl ha)).mono fun e w' he => ?_
  obtain ⟨m, rfl, hb, pd', h1, h2⟩ := he
  exact ⟨m, rfl, ⟨hb.os, hb.tape, hb.output, hb.size, fun k hk _ => hb.block k hk⟩, pd', h1, h2, rfl, fun j g v hj => by simp at hj⟩
theorem drs_cons {pd : Nat → Nat → Prop} {w : World} {v : VV} {vs : List VV} {ms : List Value} (h : DRs pd w (v :: vs) ms) : ∃ m ms', ms = m :: ms' ∧ DR pd w v m ∧ DRs pd w vs ms' := by
  cases h with
  | cons _ m _ ms h1 h2 => exact ⟨m, ms, rfl, h1, h2⟩
theorem drs_nil {pd : Nat → Nat → Prop} {w : World} {ms : List Value} (h : DRs pd w [] ms) : ms = [] := by cases h; rfl
theorem dr_s {pd : Nat → Nat → Prop} {w : World} {v m : Value} (h : DR pd w (.s v) m) : m = v := by cases h; rfl
theorem resOf_s {pd : Nat → Nat → Prop} {w w' : World} (v : Value) : ResOf pd w (.s v) v w' := ⟨pd, fun _ _ _ h => h, .s v⟩
theorem resOf_tu {pd : Nat → Nat → Prop} {w w' : World} (ls : List Value) : ResOf pd w (.tu (ls.map VV.s)) (.tuple ls.toArray) w' :=
  ⟨pd, fun _ _ _ h => h, .tu _ _ (by
    induction ls with
    | nil => exact .nil
    | cons a ls ih => exact .cons _ _ _ _ (.s a) ih)⟩
theorem drs_sR : ∀ {pd : Nat → Nat → Prop} {w : World} (ls : List Value), DRs pd w (ls.map VV.s) ls
  | _, _, [] => .nil
  | _, _, a :: ls => .cons _ _ _ _ (.s a) (drs_sR ls)
theorem resOf_ow {pd : Nat → Nat → Prop} {w w' : World} {α : Type} {mk : α → Value} (h1 : ∀ x, (mk x).oneCell' = true) {e : Nat} {xs : List α} {m : Value} (hl : xs.length ≤ maxLen) (ho : w'.ownsRow w.heap.size e 1 m xs.length (xs.map mk)) : ResOf pd w (.ow e 1 (xs.map fun x => .s (mk x))) m w' := by
  refine ⟨fun g k => (g < w.heap.size ∧ pd g k) ∨ (m.ownBlock = some g ∧ k < xs.length * 1), fun g k hg h => ?_, xs.map mk, by rw [List.length_map]; exact ho, ?_, ?_, ?_, by rw [List.length_map]; exact hl, ?_⟩
  · rcases h with h | ⟨h, _⟩
    · exact h.2
    · have := own_base ho g h; omega
  · have := drs_sR (pd := fun g k => (g < w.heap.size ∧ pd g k) ∨ (m.ownBlock = some g ∧ k < xs.length * 1)) (w := w') (xs.map mk)
    rw [List.map_map] at this
    have e : (List.map (fun x => VV.s (mk x)) xs).flatMap VV.cells = xs.map (VV.s ∘ mk) := by
      rw [List.flatMap_map]
      clear this ho hl
      induction xs with
      | nil => rfl
      | cons x xs ih => rw [List.flatMap_cons, ih]; rfl
    rw [e]; exact this
  · intro x hx
    obtain ⟨y, _, rfl⟩ := List.mem_map.1 hx
    rfl
  · intro u hu
    obtain ⟨y, _, rfl⟩ := List.mem_map.1 hu
    exact h1 y
  · intro g hg k
    have := own_base ho g hg
    rw [List.length_map]
    constructor
    · rintro (⟨h, _⟩ | ⟨_, h⟩)
      · omega
      · exact h
    · intro h; exact .inr ⟨hg, h⟩
end
end Go.Proofs.YtcfeihimmboghaaGreatDoor.VI

end
section
namespace Go.Proofs.YtcfeihimmboghaaGreatDoor.VI
open Go Go.RowKit Go.Proofs.YtcfeihimmboghaaGreatDoor.G Go.Proofs.YtcfeihimmboghaaGreatDoorW.PrintWords
set_option maxRecDepth 100000
set_option linter.unusedVariables false
set_option linter.unusedSimpArgs false
theorem unS_inv : ∀ (q : List VV) (l : List ByteArray), unS q = some l → q = l.map VV.str
  | [], l, h => by cases h; rfl
  | v :: r, l, h => by
    cases v with
    | s x =>
      cases x with
      | string b =>
        obtain ⟨l', h1, h2⟩ := obind_some h
        cases h2
        rw [unS_inv r l' h1]
        rfl
      | _ => cases h
    | _ => cases h
theorem impl_ReadDec.giv {W : World} (hE : Glob FactE W) (hM : Glob FactM W) (hT : Glob FactT W) : ∀ vs r, impl_ReadDec.gv vs = some r → CallOk1 Tryz.prog W.heap.size (fun w => Below W.heap.size W w) 53 vs r := by
  intro vs r h
  unfold impl_ReadDec.gv at h
  split at h
  case h_2 => cases h
  rename_i a0
  obtain ⟨q, hq, rfl⟩ := Option.map_eq_some_iff.1 h
  refine giv_ok ⟨_, Tryz.func53, by kernel_rfl, by kernel_rfl⟩ rfl fun w ms pd hw hd => ?_
  obtain ⟨m0, ms0, rfl, h0, hd⟩ := drs_cons hd
  obtain rfl := drs_nil hd
  obtain rfl := dr_s h0
  exact (impl_ReadDec.calls (a0 := a0) (r := q) (w := w) (h := hq) (hGE := Glob.below hE hw) (hGT := Glob.below hT hw)).mono fun e w' he => ⟨_, he.1, (he.2), resOf_s _⟩
theorem strings_Join.giv {W : World} (hE : Glob FactE W) (hM : Glob FactM W) (hT : Glob FactT W) : ∀ vs r, strings_Join.gv vs = some r → CallOk1 Tryz.prog W.heap.size (fun w => Below W.heap.size W w) 91 vs r := by
  intro vs r h
  unfold strings_Join.gv at h
  split at h
  case h_2 => cases h
  rename_i q0 a1
  obtain ⟨l0, hq0, h2⟩ := obind_some h
  obtain rfl := unS_inv _ _ hq0
  obtain ⟨q, hq, rfl⟩ := Option.map_eq_some_iff.1 h2
  refine giv_ok ⟨_, Tryz.func91, by kernel_rfl, by kernel_rfl⟩ rfl fun w ms pd hw hd => ?_
  obtain ⟨m0, ms0, rfl, h0, hd⟩ := drs_cons hd
  obtain ⟨m1, ms1, rfl, h1, hd⟩ := drs_cons hd
  obtain rfl := drs_nil hd
  obtain ⟨A0, c0, rfl, hc0, hr0⟩ := c_of_dr (h1 := fun _ => rfl) h0
  obtain rfl := dr_s h1
  exact (strings_Join.calls (l0 := l0) (a1 := a1) (r := q) (w := w) (h := hq) (A0 := A0) (c0 := c0) (hr0 := hr0) (hc0 := hc0)).mono fun e w' he => ⟨_, he.1, (he.2), resOf_s _⟩
theorem strings_Split.giv {W : World} (hE : Glob FactE W) (hM : Glob FactM W) (hT : Glob FactT W) : ∀ vs r, strings_Split.gv vs = some r → CallOk1 Tryz.prog W.heap.size (fun w => Below W.heap.size W w) 94 vs r := by
  intro vs r h
  unfold strings_Split.gv at h
  split at h
  case h_2 => cases h
  rename_i a0 a1
  obtain ⟨q, hq, rfl⟩ := Option.map_eq_some_iff.1 h
  refine giv_ok ⟨_, Tryz.func94, by kernel_rfl, by kernel_rfl⟩ rfl fun w ms pd hw hd => ?_
  obtain ⟨m0, ms0, rfl, h0, hd⟩ := drs_cons hd
  obtain ⟨m1, ms1, rfl, h1, hd⟩ := drs_cons hd
  obtain rfl := drs_nil hd
  obtain rfl := dr_s h0
  obtain rfl := dr_s h1
  refine (strings_Split.calls (a0 := a0) (a1 := a1) (r := q) (w := w) (h := hq) (hGM := Glob.below hM hw)).mono fun e w' he => ?_
  obtain ⟨v0, rfl, hR, hb⟩ := he
  refine ⟨v0, rfl, hb, resOf_ow (mk := Value.string) (fun _ => rfl) ?_ (Kd.own_of_R hR)⟩
  exact (Kd.R_reads hR).elim fun _ ⟨_, _, _, hC⟩ => hC.2.1
theorem strings_TrimLeft.giv {W : World} (hE : Glob FactE W) (hM : Glob FactM W) (hT : Glob FactT W) : ∀ vs r, strings_TrimLeft.gv vs = some r → CallOk1 Tryz.prog W.heap.size (fun w => Below W.heap.size W w) 123 vs r := by
  intro vs r h
  unfold strings_TrimLeft.gv at h
  split at h
  case h_2 => cases h
  rename_i a0 a1
  obtain ⟨q, hq, rfl⟩ := Option.map_eq_some_iff.1 h
  refine giv_ok ⟨_, Tryz.func123, by kernel_rfl, by kernel_rfl⟩ rfl fun w ms pd hw hd => ?_
  obtain ⟨m0, ms0, rfl, h0, hd⟩ := drs_cons hd
  obtain ⟨m1, ms1, rfl, h1, hd⟩ := drs_cons hd
  obtain rfl := drs_nil hd
  obtain rfl := dr_s h0
  obtain rfl := dr_s h1
  exact (strings_TrimLeft.calls (a0 := a0) (a1 := a1) (r := q) (w := w) (h := hq)).mono fun e w' he => ⟨_, he.1, (Drawn0.below he.2), resOf_s _⟩
theorem strconv_Itoa.giv {W : World} (hE : Glob FactE W) (hM : Glob FactM W) (hT : Glob FactT W) : ∀ vs r, strconv_Itoa.gv vs = some r → CallOk1 Tryz.prog W.heap.size (fun w => Below W.heap.size W w) 124 vs r := by
  intro vs r h
  unfold strconv_Itoa.gv at h
  split at h
  case h_2 => cases h
  rename_i a0
  obtain ⟨q, hq, rfl⟩ := Option.map_eq_some_iff.1 h
  refine giv_ok ⟨_, Tryz.func124, by kernel_rfl, by kernel_rfl⟩ rfl fun w ms pd hw hd => ?_
  obtain ⟨m0, ms0, rfl, h0, hd⟩ := drs_cons hd
  obtain rfl := drs_nil hd
  obtain rfl := dr_s h0
  exact (strconv_Itoa.calls (a0 := a0) (r := q) (w := w) (h := hq) (hGT := Glob.below hT hw)).mono fun e w' he => ⟨_, he.1, (he.2), resOf_s _⟩
theorem strings_Cut.giv {W : World} (hE : Glob FactE W) (hM : Glob FactM W) (hT : Glob FactT W) : ∀ vs r, strings_Cut.gv vs = some r → CallOk1 Tryz.prog W.heap.size (fun w => Below W.heap.size W w) 153 vs r := by
  intro vs r h
  unfold strings_Cut.gv at h
  split at h
  case h_2 => cases h
  rename_i a0 a1
  obtain ⟨q, hq, rfl⟩ := Option.map_eq_some_iff.1 h
  refine giv_ok ⟨_, Tryz.func153, by kernel_rfl, by kernel_rfl⟩ rfl fun w ms pd hw hd => ?_
  obtain ⟨m0, ms0, rfl, h0, hd⟩ := drs_cons hd
  obtain ⟨m1, ms1, rfl, h1, hd⟩ := drs_cons hd
  obtain rfl := drs_nil hd
  obtain rfl := dr_s h0
  obtain rfl := dr_s h1
  exact (strings_Cut.calls (a0 := a0) (a1 := a1) (r1 := q.1) (r2 := q.2.1) (r3 := q.2.2) (w := w) (h := hq) (hGM := Glob.below hM hw)).mono fun e w' he => ⟨_, he.1, (Drawn0.below he.2), resOf_tu [.string q.1, .string q.2.1, .bool q.2.2]⟩
theorem strings_Compare.giv {W : World} (hE : Glob FactE W) (hM : Glob FactM W) (hT : Glob FactT W) : ∀ vs r, strings_Compare.gv vs = some r → CallOk1 Tryz.prog W.heap.size (fun w => Below W.heap.size W w) 210 vs r := by
  intro vs r h
  unfold strings_Compare.gv at h
  split at h
  case h_2 => cases h
  rename_i a0 a1
  obtain ⟨q, hq, rfl⟩ := Option.map_eq_some_iff.1 h
  refine giv_ok ⟨_, Tryz.func210, by kernel_rfl, by kernel_rfl⟩ rfl fun w ms pd hw hd => ?_
  obtain ⟨m0, ms0, rfl, h0, hd⟩ := drs_cons hd
  obtain ⟨m1, ms1, rfl, h1, hd⟩ := drs_cons hd
  obtain rfl := drs_nil hd
  obtain rfl := dr_s h0
  obtain rfl := dr_s h1
  exact (strings_Compare.calls (a0 := a0) (a1 := a1) (r := q) (w := w) (h := hq)).mono fun e w' he => ⟨_, he.1, (Drawn0.below he.2), resOf_s _⟩
theorem given_ok0 {W : World} (hE : Glob FactE W) (hM : Glob FactM W) (hT : Glob FactT W) : GivenOk Tryz.prog W.heap.size (fun w => Below W.heap.size W w) Gv0 := by
  intro f g vs r hg hr
  unfold Gv0 at hg
  split at hg
  · cases hg; exact impl_ReadDec.giv hE hM hT vs r hr
  · cases hg; exact strings_Join.giv hE hM hT vs r hr
  · cases hg; exact strings_Split.giv hE hM hT vs r hr
  · cases hg; exact strings_TrimLeft.giv hE hM hT vs r hr
  · cases hg; exact strconv_Itoa.giv hE hM hT vs r hr
  · cases hg; exact strings_Cut.giv hE hM hT vs r hr
  · cases hg; exact strings_Compare.giv hE hM hT vs r hr
  · cases hg
end Go.Proofs.YtcfeihimmboghaaGreatDoor.VI

end
section
namespace Go.Proofs.YtcfeihimmboghaaGreatDoor.VI
open Go Go.RowKit Go.Proofs.YtcfeihimmboghaaGreatDoor.G Go.Proofs.YtcfeihimmboghaaGreatDoorW.PrintWords
set_option maxRecDepth 100000
set_option maxHeartbeats 16000000
theorem impl_ReadDec.vi {m : Nat} {Gv : FuncId → Option (List VV → Option (VV × List VV))} (hG : Base Gv) (hm : 1 ≤ m) (a0 : ByteArray) : Im (fun r => (.int r, [])) (impl_ReadDec.f a0) (callv Tryz.prog ti keep Gv m 53 [.str a0]) := by
  obtain ⟨m, rfl⟩ : ∃ m', m = m' + 1 := ⟨m - 1, by omega⟩
  rw [show callv Tryz.prog ti keep Gv (m + 1) 53 _ = _ from callv_given ((hG 53 (by decide)).trans rfl)]
  intro r h
  rw [show impl_ReadDec.gv [.str a0] = (impl_ReadDec.f a0).map (fun r => (.int r, [])) from rfl, h]
  rfl
theorem strconv_Itoa.vi {m : Nat} {Gv : FuncId → Option (List VV → Option (VV × List VV))} (hG : Base Gv) (hm : 1 ≤ m) (a0 : Int) : Im (fun r => (.str r, [])) (strconv_Itoa.f a0) (callv Tryz.prog ti keep Gv m 124 [.int a0]) := by
  obtain ⟨m, rfl⟩ : ∃ m', m = m' + 1 := ⟨m - 1, by omega⟩
  rw [show callv Tryz.prog ti keep Gv (m + 1) 124 _ = _ from callv_given ((hG 124 (by decide)).trans rfl)]
  intro r h
  rw [show strconv_Itoa.gv [.int a0] = (strconv_Itoa.f a0).map (fun r => (.str r, [])) from rfl, h]
  rfl
end Go.Proofs.YtcfeihimmboghaaGreatDoor.VI

end
section
namespace Go.Proofs.YtcfeihimmboghaaGreatDoor.VI
open Go Go.RowKit Go.Proofs.YtcfeihimmboghaaGreatDoor.G Go.Proofs.YtcfeihimmboghaaGreatDoorW.PrintWords
set_option maxRecDepth 100000
set_option maxHeartbeats 16000000
attribute [local irreducible] bite obind vget
theorem impl_DecText.vi {m : Nat} {Gv : FuncId → Option (List VV → Option (VV × List VV))} (hG : Base Gv) (hm : 2 ≤ m) (a0 : Int) : Im (fun r => (.str r, [])) (impl_DecText.f a0) (callv Tryz.prog ti keep Gv m 51 [.int a0]) := by
  obtain ⟨m, rfl⟩ : ∃ m', m = m' + 1 := ⟨m - 1, by omega⟩
  rw [show callv Tryz.prog ti keep Gv (m + 1) 51 _ = _ from callv_enter ((hG 51 (by decide)).trans rfl) Tryz.func51 (by kernel_rfl) rfl rfl]
  unfold impl_DecText.f
  repeat' first
    | (with_reducible first | exact Im.none | refine Im.ite (fun h => ?_) (fun h => ?_) | refine Im.sbind ?_)
    | ((conv => arg 3; whnf); first
      | ((with_reducible refine Im.fin ?_); exact zr)
      | ((with_reducible refine Im.anyo ?_ ?_); (next => kernel_rfl))
      | ((with_reducible refine Im.bite_t ?_ ?_); (next => exact zq))
      | ((with_reducible refine Im.bite_f ?_ ?_); (next => exact zq))
      | ((with_reducible refine Im.bite_t ?_ ?_); (next => exact zd))
      | ((with_reducible refine Im.must ?_ ?_); (next => exact zd))
      | ((with_reducible refine Im.bite_f ?_ ?_); (next => exact zd))
      | (with_reducible refine Im.byl ?_)
      | ((with_reducible refine Im.vget ByteArray.empty ?_ ?_ ?_); (next => exact zd); (next => exact zd))
      | ((with_reducible refine Im.vget z86 ?_ ?_ ?_); (next => exact zd); (next => exact zd))
      | ((with_reducible refine Im.vget z133 ?_ ?_ ?_); (next => exact zd); (next => exact zd))
      | ((with_reducible refine Im.vget (0 : Int) ?_ ?_ ?_); (next => exact zd); (next => exact zd))
      | ((with_reducible refine Im.vget false ?_ ?_ ?_); (next => exact zd); (next => exact zd))
      | ((with_reducible refine Im.call (strconv_Itoa.vi hG ?_ _) ?_ (fun r hr => ?_)); (next => omega); (next => exact zr))
      | exact zm | exact zx | fail)
  all_goals skip
theorem impl_isDigit.vi {m : Nat} {Gv : FuncId → Option (List VV → Option (VV × List VV))} (hG : Base Gv) (hm : 1 ≤ m) (a0 : Int) : Im (fun r => (.bool r, [])) (impl_isDigit.f a0) (callv Tryz.prog ti keep Gv m 130 [.byte a0]) := by
  obtain ⟨m, rfl⟩ : ∃ m', m = m' + 1 := ⟨m - 1, by omega⟩
  rw [show callv Tryz.prog ti keep Gv (m + 1) 130 _ = _ from callv_enter ((hG 130 (by decide)).trans rfl) Tryz.func130 (by kernel_rfl) rfl rfl]
  unfold impl_isDigit.f
  repeat' first
    | (with_reducible first | exact Im.none | refine Im.ite (fun h => ?_) (fun h => ?_) | refine Im.sbind ?_)
    | ((conv => arg 3; whnf); first
      | ((with_reducible refine Im.fin ?_); exact zr)
      | ((with_reducible refine Im.anyo ?_ ?_); (next => kernel_rfl))
      | ((with_reducible refine Im.bite_t ?_ ?_); (next => exact zq))
      | ((with_reducible refine Im.bite_f ?_ ?_); (next => exact zq))
      | ((with_reducible refine Im.bite_t ?_ ?_); (next => exact zd))
      | ((with_reducible refine Im.must ?_ ?_); (next => exact zd))
      | ((with_reducible refine Im.bite_f ?_ ?_); (next => exact zd))
      | (with_reducible refine Im.byl ?_)
      | ((with_reducible refine Im.vget ByteArray.empty ?_ ?_ ?_); (next => exact zd); (next => exact zd))
      | ((with_reducible refine Im.vget z86 ?_ ?_ ?_); (next => exact zd); (next => exact zd))
      | ((with_reducible refine Im.vget z133 ?_ ?_ ?_); (next => exact zd); (next => exact zd))
      | ((with_reducible refine Im.vget (0 : Int) ?_ ?_ ?_); (next => exact zd); (next => exact zd))
      | ((with_reducible refine Im.vget false ?_ ?_ ?_); (next => exact zd); (next => exact zd))
      | exact zm | exact zx | fail)
  all_goals skip
theorem impl_isLower.vi {m : Nat} {Gv : FuncId → Option (List VV → Option (VV × List VV))} (hG : Base Gv) (hm : 1 ≤ m) (a0 : Int) : Im (fun r => (.bool r, [])) (impl_isLower.f a0) (callv Tryz.prog ti keep Gv m 129 [.byte a0]) := by
  obtain ⟨m, rfl⟩ : ∃ m', m = m' + 1 := ⟨m - 1, by omega⟩
  rw [show callv Tryz.prog ti keep Gv (m + 1) 129 _ = _ from callv_enter ((hG 129 (by decide)).trans rfl) Tryz.func129 (by kernel_rfl) rfl rfl]
  unfold impl_isLower.f
  repeat' first
    | (with_reducible first | exact Im.none | refine Im.ite (fun h => ?_) (fun h => ?_) | refine Im.sbind ?_)
    | ((conv => arg 3; whnf); first
      | ((with_reducible refine Im.fin ?_); exact zr)
      | ((with_reducible refine Im.anyo ?_ ?_); (next => kernel_rfl))
      | ((with_reducible refine Im.bite_t ?_ ?_); (next => exact zq))
      | ((with_reducible refine Im.bite_f ?_ ?_); (next => exact zq))
      | ((with_reducible refine Im.bite_t ?_ ?_); (next => exact zd))
      | ((with_reducible refine Im.must ?_ ?_); (next => exact zd))
      | ((with_reducible refine Im.bite_f ?_ ?_); (next => exact zd))
      | (with_reducible refine Im.byl ?_)
      | ((with_reducible refine Im.vget ByteArray.empty ?_ ?_ ?_); (next => exact zd); (next => exact zd))
      | ((with_reducible refine Im.vget z86 ?_ ?_ ?_); (next => exact zd); (next => exact zd))
      | ((with_reducible refine Im.vget z133 ?_ ?_ ?_); (next => exact zd); (next => exact zd))
      | ((with_reducible refine Im.vget (0 : Int) ?_ ?_ ?_); (next => exact zd); (next => exact zd))
      | ((with_reducible refine Im.vget false ?_ ?_ ?_); (next => exact zd); (next => exact zd))
      | exact zm | exact zx | fail)
  all_goals skip
theorem impl_isLetter.vi {m : Nat} {Gv : FuncId → Option (List VV → Option (VV × List VV))} (hG : Base Gv) (hm : 2 ≤ m) (a0 : Int) : Im (fun r => (.bool r, [])) (impl_isLetter.f a0) (callv Tryz.prog ti keep Gv m 249 [.byte a0]) := by
  obtain ⟨m, rfl⟩ : ∃ m', m = m' + 1 := ⟨m - 1, by omega⟩
  rw [show callv Tryz.prog ti keep Gv (m + 1) 249 _ = _ from callv_enter ((hG 249 (by decide)).trans rfl) Tryz.func249 (by kernel_rfl) rfl rfl]
  unfold impl_isLetter.f
  repeat' first
    | (with_reducible first | exact Im.none | refine Im.ite (fun h => ?_) (fun h => ?_) | refine Im.sbind ?_)
    | ((conv => arg 3; whnf); first
      | ((with_reducible refine Im.fin ?_); exact zr)
      | ((with_reducible refine Im.anyo ?_ ?_); (next => kernel_rfl))
      | ((with_reducible refine Im.bite_t ?_ ?_); (next => exact zq))
      | ((with_reducible refine Im.bite_f ?_ ?_); (next => exact zq))
      | ((with_reducible refine Im.bite_t ?_ ?_); (next => exact zd))
      | ((with_reducible refine Im.must ?_ ?_); (next => exact zd))
      | ((with_reducible refine Im.bite_f ?_ ?_); (next => exact zd))
      | (with_reducible refine Im.byl ?_)
      | ((with_reducible refine Im.vget ByteArray.empty ?_ ?_ ?_); (next => exact zd); (next => exact zd))
      | ((with_reducible refine Im.vget z86 ?_ ?_ ?_); (next => exact zd); (next => exact zd))
      | ((with_reducible refine Im.vget z133 ?_ ?_ ?_); (next => exact zd); (next => exact zd))
      | ((with_reducible refine Im.vget (0 : Int) ?_ ?_ ?_); (next => exact zd); (next => exact zd))
      | ((with_reducible refine Im.vget false ?_ ?_ ?_); (next => exact zd); (next => exact zd))
      | ((with_reducible refine Im.call (impl_isLower.vi hG ?_ _) ?_ (fun r hr => ?_)); (next => omega); (next => exact zr))
      | exact zm | exact zx | fail)
  all_goals skip
theorem impl_VersionOk_1.vi {m : Nat} {Gv : FuncId → Option (List VV → Option (VV × List VV))} (hG : Base Gv) (hm : 3 ≤ m) (a0 : Int) : Im (fun r => (.bool r, [])) (impl_VersionOk_1.f a0) (callv Tryz.prog ti keep Gv m 248 [.byte a0]) := by
  obtain ⟨m, rfl⟩ : ∃ m', m = m' + 1 := ⟨m - 1, by omega⟩
  rw [show callv Tryz.prog ti keep Gv (m + 1) 248 _ = _ from callv_enter ((hG 248 (by decide)).trans rfl) Tryz.func248 (by kernel_rfl) rfl rfl]
  unfold impl_VersionOk_1.f
  repeat' first
    | (with_reducible first | exact Im.none | refine Im.ite (fun h => ?_) (fun h => ?_) | refine Im.sbind ?_)
    | ((conv => arg 3; whnf); first
      | ((with_reducible refine Im.fin ?_); exact zr)
      | ((with_reducible refine Im.anyo ?_ ?_); (next => kernel_rfl))
      | ((with_reducible refine Im.bite_t ?_ ?_); (next => exact zq))
      | ((with_reducible refine Im.bite_f ?_ ?_); (next => exact zq))
      | ((with_reducible refine Im.bite_t ?_ ?_); (next => exact zd))
      | ((with_reducible refine Im.must ?_ ?_); (next => exact zd))
      | ((with_reducible refine Im.bite_f ?_ ?_); (next => exact zd))
      | (with_reducible refine Im.byl ?_)
      | ((with_reducible refine Im.vget ByteArray.empty ?_ ?_ ?_); (next => exact zd); (next => exact zd))
      | ((with_reducible refine Im.vget z86 ?_ ?_ ?_); (next => exact zd); (next => exact zd))
      | ((with_reducible refine Im.vget z133 ?_ ?_ ?_); (next => exact zd); (next => exact zd))
      | ((with_reducible refine Im.vget (0 : Int) ?_ ?_ ?_); (next => exact zd); (next => exact zd))
      | ((with_reducible refine Im.vget false ?_ ?_ ?_); (next => exact zd); (next => exact zd))
      | ((with_reducible refine Im.call (impl_isDigit.vi hG ?_ _) ?_ (fun r hr => ?_)); (next => omega); (next => exact zr))
      | ((with_reducible refine Im.call (impl_isLetter.vi hG ?_ _) ?_ (fun r hr => ?_)); (next => omega); (next => exact zr))
      | exact zm | exact zx | fail)
  all_goals skip
end Go.Proofs.YtcfeihimmboghaaGreatDoor.VI

end
