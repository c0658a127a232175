/- Plain lemmas on bytes, strings as lists, whole numbers and rounds: no Go in them. -/
import Derived.Test.YtgfaphlpkjikkaaDoorVMore
import Derived.Lib.Strings
import Derived.Laws.BitsLemmas
namespace Go.Proofs.YtgfaphlpkjikkaaDoor.U
open Go Go.RowKit Go.Proofs.YtgfaphlpkjikkaaDoorW.PrintWords
set_option linter.unusedVariables false
set_option linter.unusedSimpArgs false

abbrev B := List UInt8
/-- A string's bytes. -/
def L (s : ByteArray) : B := s.data.toList
/-- The string of these bytes. -/
def S (l : B) : ByteArray := ⟨l.toArray⟩
/-- Bytes as whole numbers. -/
def I (l : B) : List Int := l.map fun b => (b.toNat : Int)
@[simp] theorem L_S (l : B) : L (S l) = l := by simp [L, S]
@[simp] theorem S_L (s : ByteArray) : S (L s) = s := rfl
theorem L_inj {s t : ByteArray} (h : L s = L t) : s = t := by rw [← S_L s, ← S_L t, h]
theorem S_inj {l m : B} (h : S l = S m) : l = m := by rw [← L_S l, ← L_S m, h]
theorem size_L (s : ByteArray) : s.size = (L s).length := Go.Lib.size_eq s
@[simp] theorem size_S (l : B) : (S l).size = l.length := by rw [size_L, L_S]
theorem toList_L (s : ByteArray) : s.toList = L s := Go.Lib.toList_data s
@[simp] theorem toList_S (l : B) : (S l).toList = l := by rw [toList_L, L_S]
@[simp] theorem L_append (s t : ByteArray) : L (s ++ t) = L s ++ L t := by simp [L, ByteArray.data_append]
@[simp] theorem S_append (l m : B) : S l ++ S m = S (l ++ m) := L_inj (by simp)
theorem L_extract (s : ByteArray) (a b : Nat) : L (s.extract a b) = ((L s).drop a).take (b - a) := Go.Lib.extract_data s a b
theorem S_extract (l : B) (a b : Nat) : (S l).extract a b = S ((l.drop a).take (b - a)) := L_inj (by rw [L_extract]; simp)
theorem mk_S (l : B) : (⟨l.toArray⟩ : ByteArray) = S l := rfl
@[simp] theorem I_length (l : B) : (I l).length = l.length := by simp [I]
@[simp] theorem I_nil : I [] = [] := rfl
theorem I_append (l m : B) : I (l ++ m) = I l ++ I m := by simp [I]
theorem I_cons (c : UInt8) (l : B) : I (c :: l) = (c.toNat : Int) :: I l := rfl
@[simp] theorem str_I (l : B) : strOfNums (I l) = S l := by
  unfold strOfNums I S
  rw [List.map_map]
  congr 2
  have e : ((fun n : Int => UInt8.ofNat n.toNat) ∘ fun b : UInt8 => (b.toNat : Int)) = id := by funext b; simp
  rw [e, List.map_id]
@[simp] theorem str_nil : strOfNums [] = S [] := rfl
theorem bytesOf_I (s : ByteArray) : bytesOf s = I (L s) := rfl

/-! ### bytes by index -/
theorem bt_S (l : B) (i : Int) (h : i.toNat < l.length) : bt (S l) i = ((l[i.toNat]).toNat : Int) := by
  have h' : i.toNat < (S l).size := by simpa using h
  rw [← bt_at (S l) i h']
  rfl
theorem bt_L (s : ByteArray) (i : Int) (h : i.toNat < (L s).length) : bt s i = (((L s)[i.toNat]).toNat : Int) := by
  have := bt_S (L s) i h
  rwa [S_L] at this
/-- The byte at place i of a list, 0 behind its end. -/
def at_ (l : B) (i : Nat) : UInt8 := l.getD i 0
theorem at_eq (l : B) (i : Nat) (h : i < l.length) : at_ l i = l[i] := by simp [at_, h]
theorem bt_at_ (s : ByteArray) (i : Int) : bt s i = ((at_ (L s) i.toNat).toNat : Int) := by
  by_cases h : i.toNat < (L s).length
  · rw [bt_L s i h, at_eq _ _ h]
  · have h2 : ¬ i.toNat < s.size := by rw [size_L]; exact h
    have h3 : at_ (L s) i.toNat = 0 := by simp [at_, List.getD_eq_getElem?_getD, List.getElem?_eq_none (Nat.le_of_not_lt h)]
    rw [h3]; unfold bt; rw [dif_neg h2]; rfl
theorem bt_nat (s : ByteArray) (i : Nat) : bt s (i : Int) = ((at_ (L s) i).toNat : Int) := bt_at_ s i
theorem byte_lt (c : UInt8) : (c.toNat : Int) < 256 := by have := c.toNat_lt; omega
theorem byte_nonneg (c : UInt8) : 0 ≤ (c.toNat : Int) := by omega
theorem byte_inj {c d : UInt8} (h : (c.toNat : Int) = (d.toNat : Int)) : c = d := UInt8.toNat_inj.1 (by omega)
theorem byte_eq (c : UInt8) (n : Nat) (h : n < 256) : ((c.toNat : Int) = (n : Int)) ↔ c = UInt8.ofNat n := by
  constructor
  · intro e; apply UInt8.toNat_inj.1; rw [UInt8.toNat_ofNat']; omega
  · rintro rfl; rw [UInt8.toNat_ofNat']; omega
theorem byte_is (c d : UInt8) (n : Int) (h : (d.toNat : Int) = n) : ((c.toNat : Int) = n) ↔ c = d := by
  subst h; exact ⟨byte_inj, fun e => by rw [e]⟩
theorem drop_at (l : B) (i : Nat) (h : i < l.length) : l.drop i = at_ l i :: l.drop (i + 1) := by
  rw [at_eq l i h]; exact List.drop_eq_getElem_cons h
theorem take_at (l : B) (i : Nat) (h : i < l.length) : l.take (i + 1) = l.take i ++ [at_ l i] := by
  rw [at_eq l i h, List.take_succ_eq_append_getElem h]

/-! ### whole numbers -/
theorem w64 {n : Int} (h0 : -9223372036854775808 ≤ n) (h1 : n ≤ 9223372036854775807) : wrap64 n = n := by unfold wrap64; omega

/-! ### rounds -/
theorem ev_ite_pos {α : Type} {c : Nat → Prop} [∀ k, Decidable (c k)] {g f : Nat → Option α} {r : α} (hc : ∀ k, c k) (h : Ev g r) : Ev (fun k => if c k then g k else f k) r := Ev.congr (fun k => by rw [if_pos (hc k)]) h
theorem ev_ite_neg {α : Type} {c : Nat → Prop} [∀ k, Decidable (c k)] {g f : Nat → Option α} {r : α} (hc : ∀ k, ¬ c k) (h : Ev f r) : Ev (fun k => if c k then g k else f k) r := Ev.congr (fun k => by rw [if_neg (hc k)]) h
theorem ev_pos {α : Type} {c : Prop} [Decidable c] {g f : Nat → Option α} {r : α} (hc : c) (h : Ev g r) : Ev (fun k => if c then g k else f k) r := ev_ite_pos (fun _ => hc) h
theorem ev_neg {α : Type} {c : Prop} [Decidable c] {g f : Nat → Option α} {r : α} (hc : ¬ c) (h : Ev f r) : Ev (fun k => if c then g k else f k) r := ev_ite_neg (fun _ => hc) h
theorem ev_some {α β : Type} {a : α} {f : Nat → α → Option β} {r : β} (h : Ev (fun k => f k a) r) : Ev (fun k => (some a).bind (f k)) r := h
theorem ev_const {α β : Type} {g : Option α} {a : α} (hg : g = some a) {f : Nat → α → Option β} {r : β} (h : Ev (fun k => f k a) r) : Ev (fun k => g.bind (f k)) r := by subst hg; exact h
theorem ev_use {α : Type} {g : Nat → Option α} {a b : α} (h : Ev g a) (e : a = b) : Ev g b := e ▸ h
theorem ev_exists {α : Type} {g : Nat → Option α} {r : α} (h : Ev g r) : ∃ k, g k = some r := h.rounds

/-- A loop that counts up: what it comes to, from each place on. -/
theorem loop_up {σ α : Type} (g : Nat → Int → σ → Option α) (n : Nat) (Inv : Nat → σ → Prop) (res : Nat → σ → α)
    (hend : ∀ st, Inv n st → Ev (fun k => g k (n : Int) st) (res n st))
    (hstep : ∀ i st, i < n → Inv i st → (∀ st', Inv (i + 1) st' → Ev (fun k => g k ((i + 1 : Nat) : Int) st') (res (i + 1) st')) → Ev (fun k => g k (i : Int) st) (res i st)) :
    ∀ i st, i ≤ n → Inv i st → Ev (fun k => g k (i : Int) st) (res i st) := by
  intro i st hi
  obtain ⟨d, hd⟩ : ∃ d, i + d = n := ⟨n - i, by omega⟩
  clear hi
  induction d generalizing i st with
  | zero => intro h; have e : i = n := by omega
            subst e; exact hend st h
  | succ d ih => intro h; exact hstep i st (by omega) h fun st' h' => ih (i + 1) st' (by omega) h'
theorem inc (i : Nat) (h : i < 9223372036854775807) : wrap64 ((i : Int) + 1) = ((i + 1 : Nat) : Int) := by rw [w64 (by omega) (by omega)]; omega

theorem wa1 (j : Nat) (h : j ≤ 1125899906842624) : wrap64 ((j : Int) + 1) = ((j + 1 : Nat) : Int) := by rw [w64 (by omega) (by omega)]; omega
theorem wa2 (j : Nat) (h : j ≤ 1125899906842624) : wrap64 ((j : Int) + 2) = ((j + 2 : Nat) : Int) := by rw [w64 (by omega) (by omega)]; omega
theorem wa3 (j : Nat) (h : j ≤ 1125899906842624) : wrap64 ((j : Int) + 3) = ((j + 3 : Nat) : Int) := by rw [w64 (by omega) (by omega)]; omega
theorem wa4 (j : Nat) (h : j ≤ 1125899906842624) : wrap64 ((j : Int) + 4) = ((j + 4 : Nat) : Int) := by rw [w64 (by omega) (by omega)]; omega
/-- What holds of each of the 256 bytes. -/
theorem all_bytes {p : UInt8 → Prop} (h : ∀ n, n < 256 → p (UInt8.ofNat n)) (c : UInt8) : p c := by
  have := h c.toNat c.toNat_lt
  rwa [UInt8.ofNat_toNat] at this

end Go.Proofs.YtgfaphlpkjikkaaDoor.U
