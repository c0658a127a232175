/- What is proved: the law FnCodes answers true at every input that its row speaks of (part 1 of 1 of its proof, merged by wip/tools/merge.py). Conditions: the row's own. -/
import Derived.Test.YtgfaphlpkjikkaaDoorVMore
import Derived.Lib.Strings
import Derived.Laws.BitsLemmas
import Derived.Test.YtgfaphlpkjikkaaDoorGspecl01Byte
import Derived.Test.YtgfaphlpkjikkaaDoorGspecl01Below
import Derived.Test.YtgfaphlpkjikkaaDoorGspecl01Pick
import Derived.Test.YtgfaphlpkjikkaaDoorGspecl01Once
import Derived.Test.YtgfaphlpkjikkaaDoorGspecl01New
import Derived.Test.YtgfaphlpkjikkaaDoorGspecl01Text
import Derived.Test.YtgfaphlpkjikkaaDoorGspecPutHex
import Derived.Test.YtgfaphlpkjikkaaDoorGimplPutHex
import Derived.Test.YtgfaphlpkjikkaaDoorGspecl01At
import Derived.Test.YtgfaphlpkjikkaaDoorGstringsIndexByte
import Derived.Lib.Bytealg
import Derived.Test.YtgfaphlpkjikkaaDoorGspecGetHex
import Derived.Test.YtgfaphlpkjikkaaDoorGimplGetHex
import Derived.Test.YtgfaphlpkjikkaaDoorGspecPutBase64
import Derived.Test.YtgfaphlpkjikkaaDoorGimplPutBase64
import Derived.Test.YtgfaphlpkjikkaaDoorGspecGetBase64
import Derived.Test.YtgfaphlpkjikkaaDoorGimplGetBase64
import Derived.Lib.TrimByte
import Derived.Test.YtgfaphlpkjikkaaDoorGspecl01In
import Derived.Test.YtgfaphlpkjikkaaDoorGimplwithin
import Derived.Test.YtgfaphlpkjikkaaDoorGspecPutPercent
import Derived.Test.YtgfaphlpkjikkaaDoorGimplPutPercent
import Derived.Test.YtgfaphlpkjikkaaDoorGspecGetPercent
import Derived.Test.YtgfaphlpkjikkaaDoorGimplGetPercent
import Derived.Shelf.Strings.CaseAny
import Derived.Test.YtgfaphlpkjikkaaDoorGspecl01Raw
import Derived.Test.YtgfaphlpkjikkaaDoorGspecl01Bent
import Derived.Test.YtgfaphlpkjikkaaDoorGspecDrawPutHex
import Derived.Test.YtgfaphlpkjikkaaDoorGspecDrawPutBase64
import Derived.Test.YtgfaphlpkjikkaaDoorGspecDrawPutPercent
import Derived.Test.YtgfaphlpkjikkaaDoorGspecDrawGetHex
import Derived.Test.YtgfaphlpkjikkaaDoorGspecDrawGetBase64
import Derived.Test.YtgfaphlpkjikkaaDoorGspecDrawGetPercent
import Derived.Test.YtgfaphlpkjikkaaDoorGlawsFnCodes
import Derived.Test.YtgfaphlpkjikkaaDoorRows
import Derived.Test.YtgfaphlpkjikkaaDoorOp
import Derived.Test.YtgfaphlpkjikkaaDoorCards
import Derived.Test.YtgfaphlpkjikkaaDoorTie
import Derived.Test.YtgfaphlpkjikkaaDoorLaid
import Derived.Test.YtgfaphlpkjikkaaDoorFacts
import Derived.WalkKit
import Derived.ProofKit
import Derived.OpenShut
import Derived.ShutString
import Derived.ChangeOld
import Derived.Below
import Derived.SizedLaws
import Derived.Carry
import Derived.Deep.DeepHandedRow
import Derived.Deep.DeepWitnessRowRef
section
namespace Go.Proofs.YtgfaphlpkjikkaaDoor.U
open Go Go.RowKit Go.Proofs.YtgfaphlpkjikkaaDoorW.PrintWords
set_option linter.unusedVariables false
set_option linter.unusedSimpArgs false

abbrev B := List UInt8
/-- A string's bytes. -/
def L (s : ByteArray) : B := s.data.toList
/-- The string of these bytes. -/
def S (l : B) : ByteArray := ⟨l.toArray⟩
/-- Bytes as whole numbers. -/
def I (l : B) : List Int := l.map fun b => (b.toNat : Int)
@[simp] theorem L_S (l : B) : L (S l) = l := by simp [L, S]
@[simp] theorem S_L (s : ByteArray) : S (L s) = s := rfl
theorem L_inj {s t : ByteArray} (h : L s = L t) : s = t := by rw [← S_L s, ← S_L t, h]
theorem S_inj {l m : B} (h : S l = S m) : l = m := by rw [← L_S l, ← L_S m, h]
theorem size_L (s : ByteArray) : s.size = (L s).length := Go.Lib.size_eq s
@[simp] theorem size_S (l : B) : (S l).size = l.length := by rw [size_L, L_S]
theorem toList_L (s : ByteArray) : s.toList = L s := Go.Lib.toList_data s
@[simp] theorem toList_S (l : B) : (S l).toList = l := by rw [toList_L, L_S]
@[simp] theorem L_append (s t : ByteArray) : L (s ++ t) = L s ++ L t := by simp [L, ByteArray.data_append]
@[simp] theorem S_append (l m : B) : S l ++ S m = S (l ++ m) := L_inj (by simp)
theorem L_extract (s : ByteArray) (a b : Nat) : L (s.extract a b) = ((L s).drop a).take (b - a) := Go.Lib.extract_data s a b
theorem S_extract (l : B) (a b : Nat) : (S l).extract a b = S ((l.drop a).take (b - a)) := L_inj (by rw [L_extract]; simp)
theorem mk_S (l : B) : (⟨l.toArray⟩ : ByteArray) = S l := rfl
@[simp] theorem I_length (l : B) : (I l).length = l.length := by simp [I]
@[simp] theorem I_nil : I [] = [] := rfl
theorem I_append (l m : B) : I (l ++ m) = I l ++ I m := by simp [I]
theorem I_cons (c : UInt8) (l : B) : I (c :: l) = (c.toNat : Int) :: I l := rfl
@[simp] theorem str_I (l : B) : strOfNums (I l) = S l := by
  unfold strOfNums I S
  rw [List.map_map]
  congr 2
  have e : ((fun n : Int => UInt8.ofNat n.toNat) ∘ fun b : UInt8 => (b.toNat : Int)) = id := by funext b; simp
  rw [e, List.map_id]
@[simp] theorem str_nil : strOfNums [] = S [] := rfl
theorem bytesOf_I (s : ByteArray) : bytesOf s = I (L s) := rfl

/-! ### bytes by index -/
theorem bt_S (l : B) (i : Int) (h : i.toNat < l.length) : bt (S l) i = ((l[i.toNat]).toNat : Int) := by
  have h' : i.toNat < (S l).size := by simpa using h
  rw [← bt_at (S l) i h']
  rfl
theorem bt_L (s : ByteArray) (i : Int) (h : i.toNat < (L s).length) : bt s i = (((L s)[i.toNat]).toNat : Int) := by
  have := bt_S (L s) i h
  rwa [S_L] at this
/-- The byte at place i of a list, 0 behind its end. -/
def at_ (l : B) (i : Nat) : UInt8 := l.getD i 0
theorem at_eq (l : B) (i : Nat) (h : i < l.length) : at_ l i = l[i] := by simp [at_, h]
theorem bt_at_ (s : ByteArray) (i : Int) : bt s i = ((at_ (L s) i.toNat).toNat : Int) := by
  by_cases h : i.toNat < (L s).length
  · rw [bt_L s i h, at_eq _ _ h]
  · have h2 : ¬ i.toNat < s.size := by rw [size_L]; exact h
    have h3 : at_ (L s) i.toNat = 0 := by simp [at_, List.getD_eq_getElem?_getD, List.getElem?_eq_none (Nat.le_of_not_lt h)]
    rw [h3]; unfold bt; rw [dif_neg h2]; rfl
theorem bt_nat (s : ByteArray) (i : Nat) : bt s (i : Int) = ((at_ (L s) i).toNat : Int) := bt_at_ s i
theorem byte_lt (c : UInt8) : (c.toNat : Int) < 256 := by have := c.toNat_lt; omega
theorem byte_nonneg (c : UInt8) : 0 ≤ (c.toNat : Int) := by omega
theorem byte_inj {c d : UInt8} (h : (c.toNat : Int) = (d.toNat : Int)) : c = d := UInt8.toNat_inj.1 (by omega)
theorem byte_eq (c : UInt8) (n : Nat) (h : n < 256) : ((c.toNat : Int) = (n : Int)) ↔ c = UInt8.ofNat n := by
  constructor
  · intro e; apply UInt8.toNat_inj.1; rw [UInt8.toNat_ofNat']; omega
  · rintro rfl; rw [UInt8.toNat_ofNat']; omega
theorem byte_is (c d : UInt8) (n : Int) (h : (d.toNat : Int) = n) : ((c.toNat : Int) = n) ↔ c = d := by
  subst h; exact ⟨byte_inj, fun e => by rw [e]⟩
theorem drop_at (l : B) (i : Nat) (h : i < l.length) : l.drop i = at_ l i :: l.drop (i + 1) := by
  rw [at_eq l i h]; exact List.drop_eq_getElem_cons h
theorem take_at (l : B) (i : Nat) (h : i < l.length) : l.take (i + 1) = l.take i ++ [at_ l i] := by
  rw [at_eq l i h, List.take_succ_eq_append_getElem h]

/-! ### whole numbers -/
theorem w64 {n : Int} (h0 : -9223372036854775808 ≤ n) (h1 : n ≤ 9223372036854775807) : wrap64 n = n := by unfold wrap64; omega

/-! ### rounds -/
theorem ev_ite_pos {α : Type} {c : Nat → Prop} [∀ k, Decidable (c k)] {g f : Nat → Option α} {r : α} (hc : ∀ k, c k) (h : Ev g r) : Ev (fun k => if c k then g k else f k) r := Ev.congr (fun k => by rw [if_pos (hc k)]) h
theorem ev_ite_neg {α : Type} {c : Nat → Prop} [∀ k, Decidable (c k)] {g f : Nat → Option α} {r : α} (hc : ∀ k, ¬ c k) (h : Ev f r) : Ev (fun k => if c k then g k else f k) r := Ev.congr (fun k => by rw [if_neg (hc k)]) h
theorem ev_pos {α : Type} {c : Prop} [Decidable c] {g f : Nat → Option α} {r : α} (hc : c) (h : Ev g r) : Ev (fun k => if c then g k else f k) r := ev_ite_pos (fun _ => hc) h
theorem ev_neg {α : Type} {c : Prop} [Decidable c] {g f : Nat → Option α} {r : α} (hc : ¬ c) (h : Ev f r) : Ev (fun k => if c then g k else f k) r := ev_ite_neg (fun _ => hc) h
theorem ev_some {α β : Type} {a : α} {f : Nat → α → Option β} {r : β} (h : Ev (fun k => f k a) r) : Ev (fun k => (some a).bind (f k)) r := h
theorem ev_const {α β : Type} {g : Option α} {a : α} (hg : g = some a) {f : Nat → α → Option β} {r : β} (h : Ev (fun k => f k a) r) : Ev (fun k => g.bind (f k)) r := by subst hg; exact h
theorem ev_use {α : Type} {g : Nat → Option α} {a b : α} (h : Ev g a) (e : a = b) : Ev g b := e ▸ h
theorem ev_exists {α : Type} {g : Nat → Option α} {r : α} (h : Ev g r) : ∃ k, g k = some r := h.rounds

/-- A loop that counts up: what it comes to, from each place on. -/
theorem loop_up {σ α : Type} (g : Nat → Int → σ → Option α) (n : Nat) (Inv : Nat → σ → Prop) (res : Nat → σ → α)
    (hend : ∀ st, Inv n st → Ev (fun k => g k (n : Int) st) (res n st))
    (hstep : ∀ i st, i < n → Inv i st → (∀ st', Inv (i + 1) st' → Ev (fun k => g k ((i + 1 : Nat) : Int) st') (res (i + 1) st')) → Ev (fun k => g k (i : Int) st) (res i st)) :
    ∀ i st, i ≤ n → Inv i st → Ev (fun k => g k (i : Int) st) (res i st) := by
  intro i st hi
  obtain ⟨d, hd⟩ : ∃ d, i + d = n := ⟨n - i, by omega⟩
  clear hi
  induction d generalizing i st with
  | zero => intro h; have e : i = n := by omega
            subst e; exact hend st h
  | succ d ih => intro h; exact hstep i st (by omega) h fun st' h' => ih (i + 1) st' (by omega) h'
theorem inc (i : Nat) (h : i < 9223372036854775807) : wrap64 ((i : Int) + 1) = ((i + 1 : Nat) : Int) := by rw [w64 (by omega) (by omega)]; omega

theorem wa1 (j : Nat) (h : j ≤ 1125899906842624) : wrap64 ((j : Int) + 1) = ((j + 1 : Nat) : Int) := by rw [w64 (by omega) (by omega)]; omega
theorem wa2 (j : Nat) (h : j ≤ 1125899906842624) : wrap64 ((j : Int) + 2) = ((j + 2 : Nat) : Int) := by rw [w64 (by omega) (by omega)]; omega
theorem wa3 (j : Nat) (h : j ≤ 1125899906842624) : wrap64 ((j : Int) + 3) = ((j + 3 : Nat) : Int) := by rw [w64 (by omega) (by omega)]; omega
theorem wa4 (j : Nat) (h : j ≤ 1125899906842624) : wrap64 ((j : Int) + 4) = ((j + 4 : Nat) : Int) := by rw [w64 (by omega) (by omega)]; omega
/-- What holds of each of the 256 bytes. -/
theorem all_bytes {p : UInt8 → Prop} (h : ∀ n, n < 256 → p (UInt8.ofNat n)) (c : UInt8) : p c := by
  have := h c.toNat c.toNat_lt
  rwa [UInt8.ofNat_toNat] at this

end Go.Proofs.YtgfaphlpkjikkaaDoor.U
end

section
namespace Go.Proofs.YtgfaphlpkjikkaaDoor.U
open Go Go.RowKit
set_option linter.unusedVariables false
set_option linter.unusedSimpArgs false

/-- One step of the generator, of its lowest 53 bits. -/
def sg (s : Nat) : Nat := (s * 6364136223846793005 + 1442695040888963407) % 9007199254740992
def itf (f : Nat → Nat) : Nat → Nat → Nat
  | 0, s => s
  | n + 1, s => itf f n (f s)
theorem itf_add (f : Nat → Nat) : ∀ m n s, itf f (m + n) s = itf f n (itf f m s)
  | 0, n, s => by rw [Nat.zero_add]; rfl
  | m + 1, n, s => by rw [Nat.succ_add]; exact itf_add f m n (f s)
theorem itf_one (f : Nat → Nat) (n s : Nat) : itf f (n + 1) s = f (itf f n s) := by rw [itf_add]; rfl
theorem itf_inv (f : Nat → Nat) (P : Nat → Prop) (h : ∀ s, P (f s)) : ∀ n s, P s → P (itf f n s)
  | 0, s, hs => hs
  | n + 1, s, hs => itf_inv f P h n (f s) (h s)
def it (n s : Nat) : Nat := itf sg n s
theorem it_add (m n s : Nat) : it (m + n) s = it n (it m s) := itf_add sg m n s
theorem it_one (n s : Nat) : it (n + 1) s = sg (it n s) := itf_one sg n s
theorem itf_zero (f : Nat → Nat) (s : Nat) : itf f 0 s = s := rfl
theorem itf_next (f : Nat → Nat) (n s : Nat) : itf f (n + 1) s = itf f n (f s) := rfl
theorem it_next (n s : Nat) : it (n + 1) s = it n (sg s) := itf_next sg n s
theorem it_zero (s : Nat) : it 0 s = s := itf_zero sg s
theorem it_1 (s : Nat) : it 1 s = sg s := (it_next 0 s).trans (it_zero _)
theorem sg_lt (s : Nat) : sg s < 9007199254740992 := Nat.mod_lt _ (by decide)
theorem it_lt (n s : Nat) (h : s < 9007199254740992) : it n s < 9007199254740992 := by
  have h2 := itf_inv sg (fun x => x < 9007199254740992) (fun x => sg_lt x) n s h
  unfold it
  exact h2
/-- 2^j steps at once: their factor and their summand. -/
def pw : Nat → Nat × Nat
  | 0 => (6364136223846793005 % 9007199254740992, 1442695040888963407 % 9007199254740992)
  | j + 1 => ((pw j).1 * (pw j).1 % 9007199254740992, ((pw j).2 * (pw j).1 + (pw j).2) % 9007199254740992)
def aff (p : Nat × Nat) (s : Nat) : Nat := (s * p.1 + p.2) % 9007199254740992
theorem aff_twice (p : Nat × Nat) (s M : Nat) : ((s * p.1 + p.2) % M * p.1 + p.2) % M = (s * (p.1 * p.1 % M) + (p.2 * p.1 + p.2) % M) % M := by
  have e : (s * p.1 + p.2) * p.1 + p.2 = s * (p.1 * p.1) + (p.2 * p.1 + p.2) := by rw [Nat.add_mul, Nat.mul_assoc, Nat.add_assoc]
  rw [Nat.add_mod, Nat.mod_mul_mod, ← Nat.add_mod, e, Nat.add_mod, Nat.add_mod (s * (p.1 * p.1 % M)), Nat.mul_mod_mod, Nat.mod_mod]
theorem pw0 (s : Nat) : sg s = aff (pw 0) s := by
  unfold sg aff pw
  simp only []
  omega
theorem it_pw (j : Nat) : ∀ s, it (2 ^ j) s = aff (pw j) s := by
  induction j with
  | zero => intro s; rw [Nat.pow_zero, it_1]; exact pw0 s
  | succ j ih =>
    intro s
    rw [Nat.pow_succ, Nat.mul_comm, Nat.two_mul, it_add, ih, ih]
    exact aff_twice (pw j) s 9007199254740992
theorem pw_succ {j a c x y : Nat} (h : pw j = (a, c)) (hx : a * a % 9007199254740992 = x) (hy : (c * a + c) % 9007199254740992 = y) : pw (j + 1) = (x, y) := by
  show ((pw j).1 * (pw j).1 % 9007199254740992, ((pw j).2 * (pw j).1 + (pw j).2) % 9007199254740992) = (x, y)
  rw [h]; simp only []; rw [hx, hy]
theorem pw45 : pw 45 = (3518437208883201, 175921860444160) := by
  have h0 : pw 0 = (5053549999652653, 1543160130404687) := rfl
  have h1 : pw 1 = (8893545856347625, 2513558822350130) := pw_succ h0 (by decide) (by decide)
  have h2 : pw 2 = (3723923786219025, 6222039650179508) := pw_succ h1 (by decide) (by decide)
  have h3 : pw 3 = (8402876825156897, 412927761213096) := pw_succ h2 (by decide) (by decide)
  have h4 : pw 4 = (8494674521800257, 8077273890007632) := pw_succ h3 (by decide) (by decide)
  have h5 : pw 5 = (2279854088686721, 334940883470496) := pw_succ h4 (by decide) (by decide)
  have h6 : pw 6 = (1666582322174209, 5999675586797888) := pw_succ h5 (by decide) (by decide)
  have h7 : pw 7 = (228747937296897, 6001844078510720) := pw_succ h6 (by decide) (by decide)
  have h8 : pw 8 = (2126514927395841, 5427765555037440) := pw_succ h7 (by decide) (by decide)
  have h9 : pw 9 = (7541893529782273, 5814478551517696) := pw_succ h8 (by decide) (by decide)
  have h10 : pw 10 = (5666581573898241, 209632069686272) := pw_succ h9 (by decide) (by decide)
  have h11 : pw 11 = (5095289834381313, 2172052359882752) := pw_succ h10 (by decide) (by decide)
  have h12 : pw 12 = (7988256871694337, 3310474618753024) := pw_succ h11 (by decide) (by decide)
  have h13 : pw 13 = (6764801299349505, 7371009239851008) := pw_succ h12 (by decide) (by decide)
  have h14 : pw 14 = (484980540637185, 2775706211794944) := pw_succ h13 (by decide) (by decide)
  have h15 : pw 15 = (4101305772670977, 83331719004160) := pw_succ h14 (by decide) (by decide)
  have h16 : pw 16 = (3839491708289025, 2219713640071168) := pw_succ h15 (by decide) (by decide)
  have h17 : pw 17 = (8240902577848321, 5896228647337984) := pw_succ h16 (by decide) (by decide)
  have h18 : pw 18 = (715083291295745, 8612463508717568) := pw_succ h17 (by decide) (by decide)
  have h19 : pw 19 = (1413673908174849, 4504951873601536) := pw_succ h18 (by decide) (by decide)
  have h20 : pw 20 = (2761377118683137, 3165999445573632) := pw_succ h19 (by decide) (by decide)
  have h21 : pw 21 = (5258871446700033, 970780194111488) := pw_succ h20 (by decide) (by decide)
  have h22 : pw 22 = (455012475994113, 7518283364302848) := pw_succ h21 (by decide) (by decide)
  have h23 : pw 23 = (5695099556069377, 1314661613961216) := pw_succ h22 (by decide) (by decide)
  have h24 : pw 24 = (3508899764240385, 1784898297790464) := pw_succ h23 (by decide) (by decide)
  have h25 : pw 25 = (2514199901110273, 192096875053056) := pw_succ h24 (by decide) (by decide)
  have h26 : pw 26 = (5028399802220545, 4887793377476608) := pw_succ h25 (by decide) (by decide)
  have h27 : pw 27 = (1049600349700097, 768387500212224) := pw_succ h26 (by decide) (by decide)
  have h28 : pw 28 = (2099200699400193, 1536775000424448) := pw_succ h27 (by decide) (by decide)
  have h29 : pw 29 = (4198401398800385, 3073550000848896) := pw_succ h28 (by decide) (by decide)
  have h30 : pw 30 = (8396802797600769, 6147100001697792) := pw_succ h29 (by decide) (by decide)
  have h31 : pw 31 = (7786406340460545, 3287000748654592) := pw_succ h30 (by decide) (by decide)
  have h32 : pw 32 = (6565613426180097, 6574001497309184) := pw_succ h31 (by decide) (by decide)
  have h33 : pw 33 = (4124027597619201, 4140803739877376) := pw_succ h32 (by decide) (by decide)
  have h34 : pw 34 = (8248055195238401, 8281607479754752) := pw_succ h33 (by decide) (by decide)
  have h35 : pw 35 = (7488911135735809, 7556015704768512) := pw_succ h34 (by decide) (by decide)
  have h36 : pw 36 = (5970623016730625, 6104832154796032) := pw_succ h35 (by decide) (by decide)
  have h37 : pw 37 = (2934046778720257, 3202465054851072) := pw_succ h36 (by decide) (by decide)
  have h38 : pw 38 = (5868093557440513, 6404930109702144) := pw_succ h37 (by decide) (by decide)
  have h39 : pw 39 = (2728987860140033, 3802660964663296) := pw_succ h38 (by decide) (by decide)
  have h40 : pw 40 = (5457975720280065, 7605321929326592) := pw_succ h39 (by decide) (by decide)
  have h41 : pw 41 = (1908752185819137, 6203444603912192) := pw_succ h40 (by decide) (by decide)
  have h42 : pw 42 = (3817504371638273, 3399689953083392) := pw_succ h41 (by decide) (by decide)
  have h43 : pw 43 = (7635008743276545, 6799379906166784) := pw_succ h42 (by decide) (by decide)
  have h44 : pw 44 = (6262818231812097, 4591560557592576) := pw_succ h43 (by decide) (by decide)
  have h45 : pw 45 = (3518437208883201, 175921860444160) := pw_succ h44 (by decide) (by decide)
  exact h45
theorem jump (s : Nat) (h : s < 9007199254740992) : it 35184372088832 s = (s + 35184372088832 * (100 * s + 5)) % 9007199254740992 := by
  have e : (35184372088832 : Nat) = 2 ^ 45 := by decide
  have := it_pw 45 s
  rw [← e, pw45] at this
  rw [this]
  unfold aff
  simp only []
  omega
theorem jumps (s : Nat) (h : s < 9007199254740992) : ∀ t, it (t * 35184372088832) s = (s + 35184372088832 * (t * (100 * s + 5))) % 9007199254740992 := by
  intro t
  induction t with
  | zero => rw [Nat.zero_mul, it_zero, Nat.zero_mul, Nat.mul_zero, Nat.add_zero, Nat.mod_eq_of_lt h]
  | succ t ih =>
    have e0 : (t + 1) * (100 * s + 5) = t * (100 * s + 5) + (100 * s + 5) := Nat.succ_mul _ _
    rw [Nat.succ_mul t 35184372088832, it_add, ih, jump _ (Nat.mod_lt _ (by decide)), e0]
    generalize t * (100 * s + 5) = X
    have hq := Nat.div_add_mod (s + 35184372088832 * X) 9007199254740992
    generalize (s + 35184372088832 * X) / 9007199254740992 = q at hq
    generalize (s + 35184372088832 * X) % 9007199254740992 = st at hq ⊢
    have e1 : st + 35184372088832 * (100 * st + 5) + 9007199254740992 * (q * 3518437208883201) = s + 35184372088832 * (X + (100 * s + 5)) + 9007199254740992 * (13743895347200 * X) := by omega
    have f1 := Nat.add_mul_mod_self_left (st + 35184372088832 * (100 * st + 5)) 9007199254740992 (q * 3518437208883201)
    have f2 := Nat.add_mul_mod_self_left (s + 35184372088832 * (X + (100 * s + 5))) 9007199254740992 (13743895347200 * X)
    rw [← f1, e1, f2]
theorem inv256 : ∀ d, d < 256 → d % 2 = 1 → ∃ v, v < 256 ∧ (d * v) % 256 = 1 := by decide +kernel
theorem reach (s u : Nat) (h : s < 9007199254740992) : ∃ m, it (3 * m) s = (s + 35184372088832 * u) % 9007199254740992 := by
  obtain ⟨v, hv, e⟩ := inv256 ((100 * s + 5) % 256) (Nat.mod_lt _ (by decide)) (by omega)
  refine ⟨171 * (u * v) * 35184372088832, ?_⟩
  rw [← Nat.mul_assoc, jumps s h]
  have e2 : (3 * (171 * (u * v)) * (100 * s + 5)) % 256 = u % 256 := by
    have e3 : 3 * (171 * (u * v)) * (100 * s + 5) = 513 * (u * ((100 * s + 5) * v)) := by
      rw [← Nat.mul_assoc 3 171, Nat.mul_assoc 513, Nat.mul_assoc u, Nat.mul_comm v]
    have e4 : ((100 * s + 5) * v) % 256 = 1 := by
      have a1 := Nat.mul_mod (100 * s + 5) v 256
      have a2 := Nat.mul_mod ((100 * s + 5) % 256) v 256
      rw [Nat.mod_mod] at a2
      rw [a1, ← a2]; exact e
    have e5 : (u * ((100 * s + 5) * v)) % 256 = u % 256 := by rw [Nat.mul_mod, e4, Nat.mul_one, Nat.mod_mod]
    rw [e3]; omega
  generalize 3 * (171 * (u * v)) * (100 * s + 5) = X at *
  omega
/-- The byte that a state gives. -/
def bx (z : Nat) : Nat := (z / 8589934592 % 256) ^^^ (z / 35184372088832 % 256)
theorem bx_lt (z : Nat) : bx z < 256 := by
  have h := Nat.xor_lt_two_pow (x := z / 8589934592 % 256) (y := z / 35184372088832 % 256) (n := 8) (Nat.mod_lt _ (by decide)) (Nat.mod_lt _ (by decide))
  exact h
theorem bx_up (z u : Nat) : bx ((z + 35184372088832 * u) % 9007199254740992) = (z / 8589934592 % 256) ^^^ ((z / 35184372088832 + u) % 256) := by
  unfold bx
  have e1 : (z + 35184372088832 * u) % 9007199254740992 / 8589934592 % 256 = z / 8589934592 % 256 := by omega
  have e2 : (z + 35184372088832 * u) % 9007199254740992 / 35184372088832 % 256 = (z / 35184372088832 + u) % 256 := by omega
  rw [e1, e2]
theorem sg_up (z u : Nat) : sg ((z + 35184372088832 * u) % 9007199254740992) = (sg z + 35184372088832 * (45 * u)) % 9007199254740992 := by
  unfold sg; omega
theorem bx_up2 (z u : Nat) : bx (sg ((z + 35184372088832 * u) % 9007199254740992)) = (sg z / 8589934592 % 256) ^^^ ((sg z / 35184372088832 + 45 * u) % 256) := by
  rw [sg_up, bx_up]

/-! ### who is many does not go into few -/
theorem nodup_len {α : Type} [DecidableEq α] : ∀ (l m : List α), l.Nodup → (∀ x ∈ l, x ∈ m) → l.length ≤ m.length
  | [], m, _, _ => Nat.zero_le _
  | x :: l, m, h, hs => by
    have hx : x ∈ m := hs x (by simp)
    have h1 := List.nodup_cons.1 h
    have := nodup_len l (m.erase x) h1.2 fun y hy => by
      have hne : y ≠ x := fun e => h1.1 (e ▸ hy)
      exact (List.mem_erase_of_ne hne).2 (hs y (by simp [hy]))
    rw [List.length_erase_of_mem hx] at this
    have hp := List.length_pos_of_mem hx
    simp only [List.length_cons]; omega
theorem nodup_map {α β : Type} (f : α → β) : ∀ (l : List α), l.Nodup → (∀ x ∈ l, ∀ y ∈ l, f x = f y → x = y) → (l.map f).Nodup
  | [], _, _ => by simp
  | x :: l, h, hf => by
    have h1 := List.nodup_cons.1 h
    rw [List.map_cons, List.nodup_cons]
    refine ⟨fun hm => ?_, nodup_map f l h1.2 fun a ha b hb => hf a (by simp [ha]) b (by simp [hb])⟩
    obtain ⟨y, hy, e⟩ := List.mem_map.1 hm
    have := hf y (by simp [hy]) x (by simp) e
    exact h1.1 (this ▸ hy)
/-- A byte that lets a round pass without a sign: 1 or 2 of five. -/
def dull (b : Nat) : Bool := b % 5 == 1 || b % 5 == 2
def dull0 (b : Nat) : Bool := dull b || b % 9 == 0
theorem n_dull : ((List.range 256).filter dull).length = 102 := by decide +kernel
theorem n_dull0 : ((List.range 256).filter dull0).length = 120 := by decide +kernel
theorem filter_both (p : Nat → Bool) : ∀ l : List Nat, (l.filter p).length + (l.filter fun u => !p u).length = l.length
  | [] => rfl
  | x :: l => by
    have := filter_both p l
    cases h : p x with
    | true => rw [List.filter_cons_of_pos h, List.filter_cons_of_neg (by rw [h]; simp), List.length_cons, List.length_cons]; omega
    | false => rw [List.filter_cons_of_neg (by rw [h]; simp), List.filter_cons_of_pos (by rw [h]; rfl), List.length_cons, List.length_cons]; omega
theorem xor_inj {x a b : Nat} (h : x ^^^ a = x ^^^ b) : a = b := by
  have := congrArg (x ^^^ ·) h
  simpa [← Nat.xor_assoc] using this
theorem few (p : Nat → Bool) (f : Nat → Nat) (l : List Nat) (hn : l.Nodup) (hl : ∀ u ∈ l, u < 256) (hlt : ∀ u, f u < 256) (hf : ∀ u v, u < 256 → v < 256 → f u = f v → u = v) (hp : ∀ u ∈ l, p (f u) = true) : l.length ≤ ((List.range 256).filter p).length := by
  have h1 := nodup_map f l hn fun x hx y hy => hf x y (hl x hx) (hl y hy)
  have h2 := nodup_len (l.map f) ((List.range 256).filter p) h1 fun y hy => by
    obtain ⟨x, hx, rfl⟩ := List.mem_map.1 hy
    exact List.mem_filter.2 ⟨List.mem_range.2 (hlt x), hp x hx⟩
  rwa [List.length_map] at h2
theorem two_good (x0 y0 x1 y1 : Nat) (h0 : x0 < 256) (h1 : x1 < 256) : ∃ u, dull0 (x0 ^^^ ((y0 + u) % 256)) = false ∧ dull (x1 ^^^ ((y1 + 45 * u) % 256)) = false := by
  apply Classical.byContradiction
  intro hno
  have hall : ∀ u, dull0 (x0 ^^^ ((y0 + u) % 256)) = true ∨ dull (x1 ^^^ ((y1 + 45 * u) % 256)) = true := fun u => by
    cases e1 : dull0 (x0 ^^^ ((y0 + u) % 256)) with
    | true => exact .inl rfl
    | false =>
      cases e2 : dull (x1 ^^^ ((y1 + 45 * u) % 256)) with
      | true => exact .inr rfl
      | false => exact absurd ⟨u, e1, e2⟩ hno
  have xlt : ∀ x w : Nat, x < 256 → x ^^^ (w % 256) < 256 := fun x w hx => Nat.xor_lt_two_pow (n := 8) hx (Nat.mod_lt _ (by decide))
  have q1 := few dull0 (fun u => x0 ^^^ ((y0 + u) % 256)) ((List.range 256).filter fun u => dull0 (x0 ^^^ ((y0 + u) % 256))) (List.nodup_range.filter _) (fun u hu => List.mem_range.1 (List.mem_filter.1 hu).1) (fun u => xlt _ _ h0)
    (fun u v hu hv e => by have := xor_inj e; omega) (fun u hu => (List.mem_filter.1 hu).2)
  have q2 := few dull (fun u => x1 ^^^ ((y1 + 45 * u) % 256)) ((List.range 256).filter fun u => !dull0 (x0 ^^^ ((y0 + u) % 256))) (List.nodup_range.filter _) (fun u hu => List.mem_range.1 (List.mem_filter.1 hu).1) (fun u => xlt _ _ h1)
    (fun u v hu hv e => by have := xor_inj e; omega) (fun u hu => by
      rcases hall u with h | h
      · have := (List.mem_filter.1 hu).2; rw [h] at this; cases this
      · exact h)
  rw [n_dull0] at q1
  rw [n_dull] at q2
  have := filter_both (fun u => dull0 (x0 ^^^ ((y0 + u) % 256))) (List.range 256)
  rw [List.length_range] at this
  omega
theorem one_good (x0 y0 : Nat) (h0 : x0 < 256) : ∃ u, dull (x0 ^^^ ((y0 + u) % 256)) = false := by
  obtain ⟨u, h, _⟩ := two_good x0 y0 0 0 h0 (by decide)
  refine ⟨u, ?_⟩
  unfold dull0 at h
  exact (Bool.or_eq_false_iff.1 h).1
/-- Where all rounds take three draws: one comes whose first draw is not dull. -/
theorem good3 (z : Nat) (hz : z < 9007199254740992) : ∃ m, dull (bx (it (3 * m) z)) = false := by
  obtain ⟨u, h⟩ := one_good (z / 8589934592 % 256) (z / 35184372088832) (Nat.mod_lt _ (by decide))
  obtain ⟨m, e⟩ := reach z u hz
  exact ⟨m, by rw [e, bx_up]; exact h⟩
/-- Two draws, one behind the other, that no dull rounds pass over. -/
theorem good2 (z : Nat) (hz : z < 9007199254740992) : ∃ n, dull0 (bx (it n z)) = false ∧ dull (bx (it (n + 1) z)) = false := by
  obtain ⟨u, h1, h2⟩ := two_good (z / 8589934592 % 256) (z / 35184372088832) (sg z / 8589934592 % 256) (sg z / 35184372088832) (Nat.mod_lt _ (by decide)) (Nat.mod_lt _ (by decide))
  obtain ⟨m, e⟩ := reach z u hz
  refine ⟨3 * m, by rw [e, bx_up]; exact h1, ?_⟩
  rw [it_one, e]
  rw [bx_up2]; exact h2
end Go.Proofs.YtgfaphlpkjikkaaDoor.U
end

section
namespace Go.Proofs.YtgfaphlpkjikkaaDoor.U
open Go Go.RowKit Go.Proofs.YtgfaphlpkjikkaaDoorW.PrintWords Go.Proofs.YtgfaphlpkjikkaaDoor.G
set_option linter.unusedVariables false
set_option linter.unusedSimpArgs false

theorem wrap_and (n : Nat) (h : n < 18446744073709551616) : (BitVec.ofInt 64 (IntKind.i64.wrap (n : Int))).toNat = n := by
  rw [BitVec.toNat_ofInt, IntKind.wrap_i64]; omega
theorem and255 (x : Int) : Go.bits .and .i64 x 255 = x % 256 := by
  have e : (BitVec.ofInt 64 x &&& BitVec.ofInt 64 255).toNat = (x % 256).toNat := by
    rw [BitVec.toNat_and, BitVec.toNat_ofInt, BitVec.toNat_ofInt]
    have e2 : ((255 : Int) % ((2 ^ 64 : Nat) : Int)).toNat = 2 ^ 8 - 1 := by decide
    rw [e2, Nat.and_two_pow_sub_one_eq_mod]
    omega
  show IntKind.i64.wrap ((BitVec.ofInt 64 x &&& BitVec.ofInt 64 255).toNat : Int) = _
  rw [e, IntKind.wrap_i64]; omega
theorem xor255 (x y : Int) : (Go.bits .xor .i64 x y) % 256 = (((x % 256).toNat ^^^ (y % 256).toNat : Nat) : Int) := by
  have hlt : (BitVec.ofInt 64 x ^^^ BitVec.ofInt 64 y).toNat < 18446744073709551616 := (BitVec.ofInt 64 x ^^^ BitVec.ofInt 64 y).isLt
  have e : (BitVec.ofInt 64 x ^^^ BitVec.ofInt 64 y).toNat % 256 = (x % 256).toNat ^^^ (y % 256).toNat := by
    rw [BitVec.toNat_xor, show (256 : Nat) = 2 ^ 8 from rfl, Nat.xor_mod_two_pow, BitVec.toNat_ofInt, BitVec.toNat_ofInt]
    congr 1 <;> omega
  show (IntKind.i64.wrap ((BitVec.ofInt 64 x ^^^ BitVec.ofInt 64 y).toNat : Int)) % 256 = _
  rw [← e, IntKind.wrap_i64]; omega
/-- The cursor's next number. -/
def nh (h : Int) : Int := wrap64 ((wrap64 (h * 6364136223846793005)) + 1442695040888963407)
def st (h : Int) : Nat := (h % 9007199254740992).toNat
theorem wm (n : Int) : wrap64 n % 9007199254740992 = n % 9007199254740992 := by unfold wrap64; omega
theorem st_nh (h : Int) : st (nh h) = sg (st h) := by
  have e1 : nh h % 9007199254740992 = ((h % 9007199254740992) * 6364136223846793005 + 1442695040888963407) % 9007199254740992 := by
    unfold nh
    rw [wm, Int.add_emod, wm, ← Int.add_emod, Int.add_emod, Int.mul_emod, ← Int.emod_emod_of_dvd (h) (Int.dvd_refl 9007199254740992), ← Int.mul_emod, ← Int.add_emod, Int.emod_emod_of_dvd _ (Int.dvd_refl _)]
  unfold st sg
  rw [e1]
  have h0 : 0 ≤ h % 9007199254740992 := Int.emod_nonneg _ (by decide)
  generalize h % 9007199254740992 = z at h0
  obtain ⟨n, rfl⟩ := Int.eq_ofNat_of_zero_le h0
  rw [Int.toNat_natCast]
  have e2 : (((n : Int) * 6364136223846793005 + 1442695040888963407) % 9007199254740992) = (((n * 6364136223846793005 + 1442695040888963407) % 9007199254740992 : Nat) : Int) := by omega
  rw [e2, Int.toNat_natCast]
theorem st_lt (h : Int) : st h < 9007199254740992 := by unfold st; omega
theorem byte_bx (h : Int) : (Go.bits .and .i64 (Go.bits .xor .i64 (nh h / 8589934592) (nh h / 35184372088832)) 255) = (bx (sg (st h)) : Int) := by
  rw [and255, xor255, ← st_nh]
  unfold bx st
  congr 2 <;> omega
theorem byte_ok (l : List Int) (i h : Int) (hl : l.length ≤ 1099511627776) (h0 : 0 ≤ i) (hi : i ≤ l.length) :
    ∃ b i', spec_l01Byte.f l i h = some (b, i', nh h) ∧ 0 ≤ b ∧ b < 256 ∧ i ≤ i' ∧ i' ≤ l.length ∧ (i < l.length → i < i') ∧ (i = l.length → b = (bx (sg (st h)) : Int)) := by
  unfold spec_l01Byte.f
  by_cases hlt : i < (l.length : Int)
  · rw [if_pos hlt, if_pos h0, w64 (n := i + 1) (by omega) (by omega)]
    refine ⟨_, _, rfl, ?_, ?_, by omega, by omega, by omega, by omega⟩
    · rw [and255]; omega
    · rw [and255]; omega
  · rw [if_neg hlt]
    have hb := bx_lt (sg (st h))
    refine ⟨_, _, rfl, ?_, ?_, by omega, by omega, by omega, fun _ => byte_bx h⟩
    · rw [show (Go.bits .and .i64 (Go.bits .xor .i64 ((wrap64 ((wrap64 (h * 6364136223846793005)) + 1442695040888963407)) / 8589934592) ((wrap64 ((wrap64 (h * 6364136223846793005)) + 1442695040888963407)) / 35184372088832)) 255) = _ from byte_bx h]; omega
    · rw [show (Go.bits .and .i64 (Go.bits .xor .i64 ((wrap64 ((wrap64 (h * 6364136223846793005)) + 1442695040888963407)) / 8589934592) ((wrap64 ((wrap64 (h * 6364136223846793005)) + 1442695040888963407)) / 35184372088832)) 255) = _ from byte_bx h]; omega
/-- A draw below a, of one byte. -/
theorem below_ok (l : List Int) (i h a : Int) (hl : l.length ≤ 1099511627776) (h0 : 0 ≤ i) (hi : i ≤ l.length) (ha : 1 ≤ a) (ha2 : a ≤ 256) :
    ∃ b i', spec_l01Below.f l i h a = some (b % a, i', nh h) ∧ 0 ≤ b ∧ b < 256 ∧ i ≤ i' ∧ i' ≤ l.length ∧ (i < l.length → i < i') ∧ (i = l.length → b = (bx (sg (st h)) : Int)) := by
  obtain ⟨b, i', e, b0, b1, r⟩ := byte_ok l i h hl h0 hi
  refine ⟨b, i', ?_, b0, b1, r⟩
  unfold spec_l01Below.f
  rw [if_neg (by omega), if_pos ha2, e, Option.bind_some, if_neg (by omega), Int.tmod_eq_emod_of_nonneg b0]
/-- What is known of a draw below a. -/
theorem below_any (l : List Int) (i h a : Int) (hl : l.length ≤ 1099511627776) (h0 : 0 ≤ i) (hi : i ≤ l.length) (ha2 : a ≤ 4611686018427387904) :
    ∃ r i' h', spec_l01Below.f l i h a = some (r, i', h') ∧ 0 ≤ r ∧ (0 < a → r < a) ∧ (a ≤ 0 → r = 0) ∧ 0 ≤ i' ∧ i' ≤ l.length := by
  by_cases ha : a ≤ 0
  · refine ⟨0, i, h, ?_, by omega, by omega, fun _ => rfl, h0, hi⟩
    unfold spec_l01Below.f; rw [if_pos ha]
  · by_cases hb : a ≤ 256
    · obtain ⟨b, i', e, b0, b1, r1, r2, _⟩ := below_ok l i h a hl h0 hi (by omega) hb
      exact ⟨_, _, _, e, Int.emod_nonneg _ (by omega), fun _ => Int.emod_lt_of_pos _ (by omega), by omega, by omega, r2⟩
    · obtain ⟨b1, i1, e1, p1, q1, r1, s1, _⟩ := byte_ok l i h hl h0 hi
      obtain ⟨b2, i2, e2, p2, q2, r2, s2, _⟩ := byte_ok l i1 (nh h) hl (by omega) s1
      obtain ⟨b3, i3, e3, p3, q3, r3, s3, _⟩ := byte_ok l i2 (nh (nh h)) hl (by omega) s2
      obtain ⟨b4, i4, e4, p4, q4, r4, s4, _⟩ := byte_ok l i3 (nh (nh (nh h))) hl (by omega) s3
      refine ⟨Int.tmod (wrap64 ((wrap64 ((wrap64 ((wrap64 (b1 * 16777216)) + (wrap64 (b2 * 65536)))) + (wrap64 (b3 * 256)))) + b4)) a, i4, nh (nh (nh (nh h))), ?_, ?_, ?_, by omega, by omega, s4⟩
      · unfold spec_l01Below.f
        rw [if_neg ha, if_neg hb, e1, Option.bind_some, e2, Option.bind_some, e3, Option.bind_some, e4, Option.bind_some, if_neg (by omega)]
      · rw [w64 (n := b1 * 16777216) (by omega) (by omega), w64 (n := b2 * 65536) (by omega) (by omega), w64 (n := b3 * 256) (by omega) (by omega), w64 (n := b1 * 16777216 + b2 * 65536) (by omega) (by omega), w64 (n := b1 * 16777216 + b2 * 65536 + b3 * 256) (by omega) (by omega), w64 (by omega) (by omega), Int.tmod_eq_emod_of_nonneg (by omega)]
        exact Int.emod_nonneg _ (by omega)
      · intro _
        rw [w64 (n := b1 * 16777216) (by omega) (by omega), w64 (n := b2 * 65536) (by omega) (by omega), w64 (n := b3 * 256) (by omega) (by omega), w64 (n := b1 * 16777216 + b2 * 65536) (by omega) (by omega), w64 (n := b1 * 16777216 + b2 * 65536 + b3 * 256) (by omega) (by omega), w64 (by omega) (by omega), Int.tmod_eq_emod_of_nonneg (by omega)]
        exact Int.emod_lt_of_pos _ (by omega)
theorem pick_any (l : List Int) (i h : Int) (q : List ByteArray) (hl : l.length ≤ 1099511627776) (h0 : 0 ≤ i) (hi : i ≤ l.length) (hq : 1 ≤ q.length) (hq2 : q.length ≤ 256) :
    ∃ r i' h', spec_l01Pick.f l i h q = some (r, i', h') ∧ r ∈ q ∧ 0 ≤ i' ∧ i' ≤ l.length := by
  obtain ⟨r, i', h', e, r0, r1, _, s0, s1⟩ := below_any l i h (q.length : Int) hl h0 hi (by omega)
  have hr := r1 (by omega)
  refine ⟨q.getD r.toNat ByteArray.empty, i', h', ?_, ?_, s0, s1⟩
  · unfold spec_l01Pick.f
    rw [e, Option.bind_some, if_pos r0, if_pos hr]; rfl
  · rw [List.getD_eq_getElem?_getD, List.getElem?_eq_getElem (by omega)]
    exact List.getElem_mem _
theorem once_any (l : List Int) (i h n : Int) (hl : l.length ≤ 1099511627776) (h0 : 0 ≤ i) (hi : i ≤ l.length) (hn : n ≤ 4611686018427387904) :
    ∃ r i' h', spec_l01Once.f l i h n = some (r, i', h') ∧ 0 ≤ i' ∧ i' ≤ l.length := by
  obtain ⟨r, i', h', e, _, _, _, s0, s1⟩ := below_any l i h n hl h0 hi hn
  exact ⟨_, i', h', by unfold spec_l01Once.f; rw [e]; rfl, s0, s1⟩
theorem new_any (l : List Int) (hl : l.length ≤ 1048576) : ∃ h, Ev (fun k => spec_l01New.f k l) (l, 0, h) := by
  have key : ∀ (d i : Nat) (h : Int), i + d = l.length → ∃ h', Ev (fun k => spec_l01New.l0 k l h (i : Int)) (l, 0, h') := by
    intro d
    induction d with
    | zero =>
      intro i h hi
      exact ⟨h, Ev.step (f := fun k => some (l, 0, h)) (fun k => by rw [spec_l01New.l0, if_neg (by omega)]) (Ev.now _)⟩
    | succ d ih =>
      intro i h hi
      by_cases h4 : (i : Int) < 4000
      · obtain ⟨h', e⟩ := ih (i + 1) (Go.bits .and .i64 (wrap64 ((wrap64 ((wrap64 (h * 131)) + (wrap64 (rd l (i : Int))))) + 7)) 1073741823) (by omega)
        exact ⟨h', Ev.step (fun k => by rw [spec_l01New.l0, if_pos (by omega), if_pos h4, if_pos (by omega), wa1 i (by omega)]) e⟩
      · exact ⟨h, Ev.step (f := fun k => some (l, 0, h)) (fun k => by rw [spec_l01New.l0, if_pos (by omega), if_neg h4]) (Ev.now _)⟩
  exact key l.length 0 _ (by omega)
end Go.Proofs.YtgfaphlpkjikkaaDoor.U
end

section
namespace Go.Proofs.YtgfaphlpkjikkaaDoor.U
open Go Go.RowKit Go.Proofs.YtgfaphlpkjikkaaDoorW.PrintWords Go.Proofs.YtgfaphlpkjikkaaDoor.G
set_option linter.unusedVariables false
set_option linter.unusedSimpArgs false

/-- From here on the text comes to its end, n signs long. -/
def TDone (l : List Int) (n : Nat) (out : List Int) (i h : Int) : Prop :=
  ∃ t i' h', Ev (fun k => spec_l01Text.l0 k (n : Int) out l i h) (t, i', h') ∧ t.size = n ∧ 0 ≤ i' ∧ i' ≤ l.length
theorem t_full (l : List Int) (n : Nat) (out : List Int) (i h : Int) (hn : n ≤ out.length) (h0 : 0 ≤ i) (hi : i ≤ l.length) : TDone l n out i h := by
  refine ⟨strOfNums (out.take n), i, h, Ev.step (f := fun k => some (strOfNums (out.take n), i, h)) (fun k => by rw [spec_l01Text.l0, if_neg (by omega), if_pos (by omega), if_pos (by omega)]; rfl) (Ev.now _), ?_, h0, hi⟩
  rw [size_L]; simp [strOfNums, L, hn]
theorem t_fill (l : List Int) (n : Nat) (x7 x6 i h : Int) {r : ByteArray × Int × Int} : ∀ (d : Nat) (out : List Int) (x8 : Int), x6 - x8 = d → 0 ≤ x8 → x6 ≤ 100 → out.length ≤ 1000 - d →
    Ev (fun k => spec_l01Text.l0 k (n : Int) (out ++ List.replicate d x7) l i h) r → Ev (fun k => spec_l01Text.l1 k (n : Int) out x6 x7 x8 l i h) r
  | 0, out, x8, hd, h8, h6, hl, e => by
    rw [List.replicate_zero, List.append_nil] at e
    exact Ev.step (fun k => by rw [spec_l01Text.l1, if_neg (by omega)]) e
  | d + 1, out, x8, hd, h8, h6, hl, e => by
    have e2 : Ev (fun k => spec_l01Text.l0 k (n : Int) ((out ++ [x7]) ++ List.replicate d x7) l i h) r := by
      rw [List.append_assoc]; exact e
    exact Ev.step (fun k => by rw [spec_l01Text.l1, if_pos (by omega), if_pos (by omega), w64 (n := x8 + 1) (by omega) (by omega)]) (t_fill l n x7 x6 i h d (out ++ [x7]) (x8 + 1) (by omega) (by omega) h6 (by rw [List.length_append, List.length_singleton]; omega) e2)
theorem t_copy (l : List Int) (n : Nat) (x9 x10 i h : Int) (h9 : 0 ≤ x9) (h99 : x9 ≤ 1000) (h10 : x10 ≤ 100) : ∀ (d : Nat) (out : List Int) (x11 : Int), x10 - x11 = d → 0 ≤ x11 → x9 + x11 < out.length → out.length ≤ 1000 - d →
    ∃ out', out'.length = out.length + d ∧ (d = 0 → out' = out) ∧ ∀ r : ByteArray × Int × Int, Ev (fun k => spec_l01Text.l0 k (n : Int) out' l i h) r → Ev (fun k => spec_l01Text.l2 k (n : Int) out x9 x10 x11 l i h) r
  | 0, out, x11, hd, h11, hx, hl => ⟨out, rfl, fun _ => rfl, fun r e => Ev.step (fun k => by rw [spec_l01Text.l2, if_neg (by omega)]) e⟩
  | d + 1, out, x11, hd, h11, hx, hl => by
    obtain ⟨out', hlen, _, hE⟩ := t_copy l n x9 x10 i h h9 h99 h10 d (out ++ [rd out (x9 + x11)]) (x11 + 1) (by omega) (by omega) (by rw [List.length_append, List.length_singleton]; omega) (by rw [List.length_append, List.length_singleton]; omega)
    refine ⟨out', by rw [hlen, List.length_append, List.length_singleton]; omega, fun hd0 => by omega, fun r e => Ev.step (fun k => ?_) (hE r e)⟩
    rw [spec_l01Text.l2, if_pos (by omega), w64 (n := x9 + x11) (by omega) (by omega), if_pos hx, if_pos (by omega), if_pos (by omega), w64 (n := x11 + 1) (by omega) (by omega)]
/-- One round. -/
theorem t_round (l : List Int) (n : Nat) (out : List Int) (i h : Int) (hl : l.length ≤ 1099511627776) (hn : n ≤ 100) (hlt : out.length < n) (h0 : 0 ≤ i) (hi : i ≤ l.length)
    (HP : ∀ (out' : List Int) (i' h' : Int), out.length < out'.length → 0 ≤ i' → i' ≤ l.length → TDone l n out' i' h') :
    ∃ b i1 : Int, 0 ≤ b ∧ b < 256 ∧ i ≤ i1 ∧ i1 ≤ l.length ∧ (i < l.length → i < i1) ∧ (i = l.length → b = (bx (sg (st h)) : Int)) ∧
      (b % 5 ≠ 1 → b % 5 ≠ 2 → TDone l n out i h) ∧
      (b % 5 = 2 → out = [] → TDone l n out i1 (nh h) → TDone l n out i h) ∧
      (b % 5 = 2 → out ≠ [] → (∀ i3 : Int, i1 ≤ i3 → i3 ≤ l.length → TDone l n out i3 (nh (nh (nh h)))) → TDone l n out i h) ∧
      (b % 5 = 1 → (∀ i3 : Int, i1 ≤ i3 → i3 ≤ l.length → (i = l.length → bx (sg (sg (st h))) % 9 = 0) → TDone l n out i3 (nh (nh (nh h)))) → TDone l n out i h) := by
  obtain ⟨b, i1, e5, b0, b1, r1, s1, p1, q1⟩ := below_ok l i h 5 hl h0 hi (by omega) (by omega)
  have hlt' : (out.length : Int) < (n : Int) := by omega
  refine ⟨b, i1, b0, b1, r1, s1, p1, q1, ?_, ?_, ?_, ?_⟩
  · intro n1 n2
    by_cases hb : b % 5 = 0
    · obtain ⟨b2, i2, eb, b20, b21, r2, s2, p2, q2⟩ := byte_ok l i1 (nh h) hl (by omega) s1
      obtain ⟨t, i', h', e, ht, hr⟩ := HP (out ++ [b2 % 256]) i2 (nh (nh h)) (by rw [List.length_append, List.length_singleton]; omega) (by omega) s2
      refine ⟨t, i', h', Ev.step (fun k => ?_) e, ht, hr⟩
      rw [spec_l01Text.l0, if_pos hlt', e5, Option.bind_some, if_pos hb, eb, Option.bind_some, if_pos (by omega)]
    · obtain ⟨b2, i2, eb, b20, b21, r2, s2, p2, q2⟩ := below_ok l i1 (nh h) 26 hl (by omega) s1 (by omega) (by omega)
      obtain ⟨t, i', h', e, ht, hr⟩ := HP (out ++ [(wrap64 (97 + b2 % 26)) % 256]) i2 (nh (nh h)) (by rw [List.length_append, List.length_singleton]; omega) (by omega) s2
      refine ⟨t, i', h', Ev.step (fun k => ?_) e, ht, hr⟩
      rw [spec_l01Text.l0, if_pos hlt', e5, Option.bind_some, if_neg hb, if_neg n1, if_neg n2, eb, Option.bind_some, if_pos (by omega)]
  · intro hb ho hT
    obtain ⟨t, i', h', e, ht, hr⟩ := hT
    refine ⟨t, i', h', Ev.step (fun k => ?_) e, ht, hr⟩
    subst ho
    rw [spec_l01Text.l0, if_pos hlt', e5, Option.bind_some, if_neg (by show ¬ b % 5 = 0; omega), if_neg (by show ¬ b % 5 = 1; omega), if_pos hb, if_neg (by decide)]
  · intro hb ho hT
    have hpos : 0 < out.length := List.length_pos_iff.2 ho
    obtain ⟨b2, i2, e2, b20, b21, r2, s2, p2, q2⟩ := below_ok l i1 (nh h) (out.length : Int) hl (by omega) s1 (by omega) (by omega)
    obtain ⟨b3, i3, e3, b30, b31, r3, s3, p3, q3⟩ := below_ok l i2 (nh (nh h)) 20 hl (by omega) s2 (by omega) (by omega)
    have hm : b2 % (out.length : Int) < out.length := Int.emod_lt_of_pos _ (by omega)
    have hm0 : 0 ≤ b2 % (out.length : Int) := Int.emod_nonneg _ (by omega)
    obtain ⟨out', hlen, hz0, hE⟩ := t_copy l n (b2 % (out.length : Int)) (b3 % 20) i3 (nh (nh (nh h))) hm0 (by omega) (by omega) (b3 % 20).toNat out 0 (by omega) (by omega) (by omega) (by omega)
    have hT2 : TDone l n out' i3 (nh (nh (nh h))) := by
      by_cases hz : (b3 % 20).toNat = 0
      · rw [hz0 hz]; exact hT i3 (by omega) s3
      · exact HP out' i3 _ (by omega) (by omega) s3
    obtain ⟨t, i', h', e, ht, hr⟩ := hT2
    refine ⟨t, i', h', Ev.step (fun k => ?_) (hE _ e), ht, hr⟩
    rw [spec_l01Text.l0, if_pos hlt', e5, Option.bind_some, if_neg (by show ¬ b % 5 = 0; omega), if_neg (by show ¬ b % 5 = 1; omega), if_pos hb, if_pos (by omega), e2, Option.bind_some, e3, Option.bind_some]
  · intro hb hT
    obtain ⟨b2, i2, e2, b20, b21, r2, s2, p2, q2⟩ := below_ok l i1 (nh h) 9 hl (by omega) s1 (by omega) (by omega)
    obtain ⟨b3, i3, e3, b30, b31, r3, s3, p3, q3⟩ := below_ok l i2 (nh (nh h)) 4 hl (by omega) s2 (by omega) (by omega)
    have hT2 : TDone l n (out ++ List.replicate (b2 % 9).toNat ((wrap64 (97 + b3 % 4)) % 256)) i3 (nh (nh (nh h))) := by
      by_cases hz : (b2 % 9).toNat = 0
      · rw [hz, List.replicate_zero, List.append_nil]
        refine hT i3 (by omega) s3 (fun hil => ?_)
        have := q2 (by omega)
        rw [st_nh] at this
        omega
      · exact HP (out ++ List.replicate (b2 % 9).toNat ((wrap64 (97 + b3 % 4)) % 256)) i3 _ (by rw [List.length_append, List.length_replicate]; omega) (by omega) s3
    obtain ⟨t, i', h', e, ht, hr⟩ := hT2
    refine ⟨t, i', h', Ev.step (fun k => ?_) (t_fill l n _ (b2 % 9) i3 (nh (nh (nh h))) (b2 % 9).toNat out 0 (by omega) (by omega) (by omega) (by omega) e), ht, hr⟩
    rw [spec_l01Text.l0, if_pos hlt', e5, Option.bind_some, if_neg (by show ¬ b % 5 = 0; omega), if_pos hb, e2, Option.bind_some, e3, Option.bind_some]
theorem dull_not {b : Int} {c : Nat} (e : b = (c : Int)) (h : dull c = false) : b % 5 ≠ 1 ∧ b % 5 ≠ 2 := by
  unfold dull at h
  simp only [Bool.or_eq_false_iff, beq_eq_false_iff_ne] at h
  omega
theorem dull0_dull {b : Nat} (h : dull0 b = false) : dull b = false := by unfold dull0 at h; exact (Bool.or_eq_false_iff.1 h).1
/-- Where the given numbers are used up and something stands written. -/
theorem t_some (l : List Int) (n : Nat) (out : List Int) (hl : l.length ≤ 1099511627776) (hn : n ≤ 100) (hlt : out.length < n) (ho : out ≠ [])
    (HP : ∀ (out' : List Int) (i' h' : Int), out.length < out'.length → 0 ≤ i' → i' ≤ l.length → TDone l n out' i' h') :
    ∀ (m : Nat) (h : Int), dull (bx (it (3 * m) (sg (st h)))) = false → TDone l n out (l.length : Int) h := by
  intro m
  induction m with
  | zero =>
    intro h hd
    obtain ⟨b, i1, b0, b1, r1, s1, p1, q1, c1, c2, c3, c4⟩ := t_round l n out (l.length : Int) h hl hn hlt (by omega) (by omega) HP
    rw [Nat.mul_zero, it_zero] at hd
    obtain ⟨n1, n2⟩ := dull_not (q1 rfl) hd
    exact c1 n1 n2
  | succ m ih =>
    intro h hd
    obtain ⟨b, i1, b0, b1, r1, s1, p1, q1, c1, c2, c3, c4⟩ := t_round l n out (l.length : Int) h hl hn hlt (by omega) (by omega) HP
    have hn3 : TDone l n out (l.length : Int) (nh (nh (nh h))) := by
      refine ih (nh (nh (nh h))) ?_
      rw [st_nh, st_nh, st_nh]
      rw [show 3 * (m + 1) = 3 * m + 1 + 1 + 1 by omega, it_next, it_next, it_next] at hd
      exact hd
    by_cases n1 : b % 5 = 1
    · exact c4 n1 (fun i3 h1 h2 _ => by rw [show i3 = (l.length : Int) by omega]; exact hn3)
    · by_cases n2 : b % 5 = 2
      · exact c3 n2 ho (fun i3 h1 h2 => by rw [show i3 = (l.length : Int) by omega]; exact hn3)
      · exact c1 n1 n2
/-- Where they are used up and nothing stands written. -/
theorem t_none (l : List Int) (n : Nat) (hl : l.length ≤ 1099511627776) (hn : n ≤ 100) (hlt : 0 < n)
    (HP : ∀ (out' : List Int) (i' h' : Int), 0 < out'.length → 0 ≤ i' → i' ≤ l.length → TDone l n out' i' h') (m : Nat) :
    ∀ (h : Int), dull0 (bx (it m (sg (st h)))) = false → dull (bx (it (m + 1) (sg (st h)))) = false → TDone l n [] (l.length : Int) h := by
  have first : ∀ h : Int, dull (bx (sg (st h))) = false → TDone l n [] (l.length : Int) h := by
    intro h hd
    obtain ⟨b, i1, b0, b1, r1, s1, p1, q1, c1, c2, c3, c4⟩ := t_round l n [] (l.length : Int) h hl hn hlt (by omega) (by omega) HP
    obtain ⟨n1, n2⟩ := dull_not (q1 rfl) hd
    exact c1 n1 n2
  induction m using Nat.strongRecOn with
  | ind m ih =>
    intro h g1 g2
    obtain ⟨b, i1, b0, b1, r1, s1, p1, q1, c1, c2, c3, c4⟩ := t_round l n [] (l.length : Int) h hl hn hlt (by omega) (by omega) HP
    have hi1 : i1 = (l.length : Int) := by omega
    subst hi1
    by_cases n2 : b % 5 = 2
    · refine c2 n2 rfl ?_
      by_cases m0 : m = 0
      · rw [m0, it_zero] at g1
        exact absurd n2 (dull_not (q1 rfl) (dull0_dull g1)).2
      · obtain ⟨j, hj⟩ : ∃ j, m = j + 1 := ⟨m - 1, by omega⟩
        rw [hj, it_next] at g1 g2
        rw [hj] at ih
        exact ih j (by omega) (nh h) (by rw [st_nh]; exact g1) (by rw [st_nh]; exact g2)
    · by_cases n1 : b % 5 = 1
      · refine c4 n1 (fun i3 h1 h2 h9 => ?_)
        rw [show i3 = (l.length : Int) by omega]
        have h9 := h9 rfl
        by_cases m0 : m = 0
        · rw [m0, it_zero] at g1
          exact absurd n1 (dull_not (q1 rfl) (dull0_dull g1)).1
        · by_cases m1 : m = 1
          · rw [m1, it_1] at g1
            unfold dull0 at g1
            rw [h9] at g1
            simp at g1
          · by_cases m2 : m = 2
            · refine first _ ?_
              rw [st_nh, st_nh, st_nh]
              rw [m2, show 2 + 1 = 0 + 1 + 1 + 1 from rfl, it_next, it_next, it_next, it_zero] at g2
              exact g2
            · obtain ⟨j, hj⟩ : ∃ j, m = j + 1 + 1 + 1 := ⟨m - 3, by omega⟩
              rw [hj, it_next, it_next, it_next] at g1
              rw [hj, it_next, it_next, it_next] at g2
              rw [hj] at ih
              exact ih j (by omega) (nh (nh (nh h))) (by rw [st_nh, st_nh, st_nh]; exact g1) (by rw [st_nh, st_nh, st_nh]; exact g2)
      · exact c1 n1 n2
/-- Every drawn text comes to its end. -/
theorem t_all (l : List Int) (n : Nat) (hl : l.length ≤ 1099511627776) (hn : n ≤ 100) : ∀ (d : Nat) (out : List Int) (i h : Int), n - out.length = d → 0 ≤ i → i ≤ l.length → TDone l n out i h := by
  intro d
  induction d using Nat.strongRecOn with
  | ind d ih =>
    intro out i h hd h0 hi
    by_cases hfull : n ≤ out.length
    · exact t_full l n out i h hfull h0 hi
    · have HP : ∀ (out' : List Int) (i' h' : Int), out.length < out'.length → 0 ≤ i' → i' ≤ l.length → TDone l n out' i' h' := fun out' i' h' hlen a c => ih (n - out'.length) (by omega) out' i' h' rfl a c
      have atEnd : ∀ h : Int, TDone l n out (l.length : Int) h := by
        intro h
        by_cases ho : out = []
        · subst ho
          obtain ⟨m, g1, g2⟩ := good2 (sg (st h)) (sg_lt _)
          exact t_none l n hl hn (by simp at hfull; omega) HP m h g1 g2
        · obtain ⟨m, g⟩ := good3 (sg (st h)) (sg_lt _)
          exact t_some l n out hl hn (by omega) ho HP m h g
      have key : ∀ (e : Nat) (i h : Int), ((l.length : Int) - i).toNat = e → 0 ≤ i → i ≤ l.length → TDone l n out i h := by
        intro e
        induction e using Nat.strongRecOn with
        | ind e ih2 =>
          intro i h he h0 hi
          by_cases hE : i = (l.length : Int)
          · rw [hE]; exact atEnd h
          · obtain ⟨b, i1, b0, b1, r1, s1, p1, q1, c1, c2, c3, c4⟩ := t_round l n out i h hl hn (by omega) h0 hi HP
            have p1 := p1 (by omega)
            have nxt : ∀ (i3 h3 : Int), i1 ≤ i3 → i3 ≤ l.length → TDone l n out i3 h3 := fun i3 h3 a c => ih2 (((l.length : Int) - i3).toNat) (by omega) i3 h3 rfl (by omega) c
            by_cases n1 : b % 5 = 1
            · exact c4 n1 (fun i3 a c _ => nxt i3 _ a c)
            · by_cases n2 : b % 5 = 2
              · by_cases ho : out = []
                · exact c2 n2 ho (nxt i1 _ (by omega) s1)
                · exact c3 n2 ho (fun i3 a c => nxt i3 _ a c)
              · exact c1 n1 n2
      exact key _ i h rfl h0 hi
theorem text_any (l : List Int) (i h n : Int) (hl : l.length ≤ 1099511627776) (h0 : 0 ≤ i) (hi : i ≤ l.length) (hn0 : 0 ≤ n) (hn : n ≤ 100) :
    ∃ t i' h', Ev (fun k => spec_l01Text.f k l i h n) (t, i', h') ∧ (t.size : Int) = n ∧ 0 ≤ i' ∧ i' ≤ l.length := by
  obtain ⟨t, i', h', e, ht, hr⟩ := t_all l n.toNat hl (by omega) _ [] i h rfl h0 hi
  refine ⟨t, i', h', ?_, by omega, hr⟩
  rw [show ((n.toNat : Nat) : Int) = n by omega] at e
  exact e
end Go.Proofs.YtgfaphlpkjikkaaDoor.U
end

section
namespace Go.Proofs.YtgfaphlpkjikkaaDoor.U
open Go Go.RowKit Go.Proofs.YtgfaphlpkjikkaaDoorW.PrintWords Go.Proofs.YtgfaphlpkjikkaaDoor.G
set_option linter.unusedVariables false
set_option linter.unusedSimpArgs false

def hexd : B := [48, 49, 50, 51, 52, 53, 54, 55, 56, 57, 97, 98, 99, 100, 101, 102]
def hexOf (c : UInt8) : B := [at_ hexd (c.toNat / 16), at_ hexd (c.toNat % 16)]
def putHex (l : B) : B := l.flatMap hexOf
theorem putHex_length (l : B) : (putHex l).length = 2 * l.length := by
  induction l with
  | nil => rfl
  | cons c l ih => simp only [putHex, List.flatMap_cons, List.length_append, List.length_cons] at ih ⊢; simp [hexOf] at ih ⊢; omega
theorem putHex_nil : putHex [] = [] := rfl
theorem putHex_cons (c : UInt8) (l : B) : putHex (c :: l) = hexOf c ++ putHex l := rfl
theorem I_hexOf (c : UInt8) (a b : Int) (ha : a = ((c.toNat / 16 : Nat) : Int)) (hb : b = ((c.toNat % 16 : Nat) : Int)) : [bt (S hexd) a, bt (S hexd) b] = I (hexOf c) := by
  subst ha; subst hb
  rw [bt_nat, bt_nat, L_S]; rfl

theorem spec_PutHex_loop (s : ByteArray) (hs : s.size ≤ 1099511627776) (d : Nat) : ∀ (i : Nat) (acc : B), i + d = (L s).length → acc.length + 2 * d ≤ 4398046511104 →
    Ev (fun k => spec_PutHex.l0 k s (I acc) (i : Int)) (S (acc ++ putHex ((L s).drop i))) := by
  induction d with
  | zero =>
    intro i acc hi ha
    have hz : ¬ ((i : Int) < (s.size : Int)) := by rw [size_L]; omega
    refine Ev.step (f := fun k => some (strOfNums (I acc))) (fun k => by rw [spec_PutHex.l0, if_neg hz]) ?_
    rw [List.drop_of_length_le (by omega), putHex_nil, List.append_nil, str_I]
    exact Ev.now _
  | succ d ih =>
    intro i acc hi ha
    have hl : i < (L s).length := by omega
    have hz : ((i : Int) < (s.size : Int)) := by rw [size_L]; omega
    have hb := byte_lt (at_ (L s) i)
    have h1 : Int.tdiv ((at_ (L s) i).toNat : Int) 16 % 256 = (((at_ (L s) i).toNat / 16 : Nat) : Int) := by
      rw [Int.tdiv_eq_ediv_of_nonneg (by omega)]; omega
    have h2 : Int.tmod ((at_ (L s) i).toNat : Int) 16 = (((at_ (L s) i).toNat % 16 : Nat) : Int) := by
      rw [Int.tmod_eq_emod_of_nonneg (by omega)]; omega
    refine Ev.step (f := fun k => spec_PutHex.l0 k s (I (acc ++ hexOf (at_ (L s) i))) ((i + 1 : Nat) : Int)) (fun k => ?_) ?_
    · rw [spec_PutHex.l0, if_pos hz, if_pos (by omega), bt_nat, h1, h2, if_pos (by omega), if_pos (by omega), if_pos (by omega), if_pos (by omega), Option.bind_some]
      rw [show (⟨#[48, 49, 50, 51, 52, 53, 54, 55, 56, 57, 97, 98, 99, 100, 101, 102]⟩ : ByteArray) = S hexd from rfl, I_hexOf _ _ _ rfl rfl, if_pos (by simp [hexOf]; omega), ← I_append, w64 (by omega) (by rw [size_L] at hs; omega)]
      rfl
    · refine ev_use (ih (i + 1) _ (by omega) (by simp [hexOf]; omega)) ?_
      rw [drop_at _ _ hl, putHex_cons, List.append_assoc]

theorem spec_PutHex_ev (s : ByteArray) (hs : s.size ≤ 1099511627776) : Ev (fun k => spec_PutHex.f k s) (S (putHex (L s))) := by
  refine ev_use (Ev.congr (fun k => rfl) (spec_PutHex_loop s hs (L s).length 0 [] (by omega) (by rw [← size_L]; simp; omega))) ?_
  simp

theorem impl_PutHex_loop (s : ByteArray) (hs : s.size ≤ 1099511627776) (d : Nat) : ∀ (i : Nat) (acc : B), i + d = (L s).length → acc.length + 2 * d ≤ 4398046511104 →
    Ev (fun k => impl_PutHex.l0 k s (I acc) (s.size : Int) (i : Int)) (S (acc ++ putHex ((L s).drop i))) := by
  induction d with
  | zero =>
    intro i acc hi ha
    have hz : ¬ ((i : Int) < (s.size : Int)) := by rw [size_L]; omega
    refine Ev.step (f := fun k => some (strOfNums (I acc))) (fun k => by rw [impl_PutHex.l0, if_neg hz]) ?_
    rw [List.drop_of_length_le (by omega), putHex_nil, List.append_nil, str_I]
    exact Ev.now _
  | succ d ih =>
    intro i acc hi ha
    have hl : i < (L s).length := by omega
    have hz : ((i : Int) < (s.size : Int)) := by rw [size_L]; omega
    have hb := byte_lt (at_ (L s) i)
    have h1 : ((at_ (L s) i).toNat : Int) / 16 = (((at_ (L s) i).toNat / 16 : Nat) : Int) := by omega
    have h2 : Go.bits .and .u8 ((at_ (L s) i).toNat : Int) 15 = (((at_ (L s) i).toNat % 16 : Nat) : Int) := by
      have e := Go.u8_and15 (x := ((at_ (L s) i).toNat : Int)) (by omega) (by omega)
      exact e.trans (by omega)
    refine Ev.step (f := fun k => impl_PutHex.l0 k s (I (acc ++ hexOf (at_ (L s) i))) (s.size : Int) ((i + 1 : Nat) : Int)) (fun k => ?_) ?_
    · rw [impl_PutHex.l0, if_pos hz, if_pos (by omega), if_pos hz, bt_nat, h1, h2, if_pos (by omega), if_pos (by omega), if_pos (by omega), if_pos (by omega), Option.bind_some]
      rw [show (⟨#[48, 49, 50, 51, 52, 53, 54, 55, 56, 57, 97, 98, 99, 100, 101, 102]⟩ : ByteArray) = S hexd from rfl, I_hexOf _ _ _ rfl rfl, if_pos (by simp [hexOf]; omega), ← I_append, w64 (by omega) (by rw [size_L] at hs; omega)]
      rfl
    · refine ev_use (ih (i + 1) _ (by omega) (by simp [hexOf]; omega)) ?_
      rw [drop_at _ _ hl, putHex_cons, List.append_assoc]

theorem impl_PutHex_ev (s : ByteArray) (hs : s.size ≤ 1099511627776) : Ev (fun k => impl_PutHex.f k s) (S (putHex (L s))) := by
  refine ev_use (Ev.congr (fun k => rfl) (impl_PutHex_loop s hs (L s).length 0 [] (by omega) (by rw [← size_L]; simp; omega))) ?_
  simp

end Go.Proofs.YtgfaphlpkjikkaaDoor.U
end

section
namespace Go.Proofs.YtgfaphlpkjikkaaDoor.U
open Go Go.RowKit Go.Proofs.YtgfaphlpkjikkaaDoorW.PrintWords Go.Proofs.YtgfaphlpkjikkaaDoor.G
set_option linter.unusedVariables false
set_option linter.unusedSimpArgs false

/-- The place of a byte in a text, -1 if it is not there. -/
def idx (l : B) (c : UInt8) : Int := Lib.indexByte l c
theorem idx_nil (c : UInt8) : idx [] c = -1 := rfl
theorem idx_cons (b : UInt8) (l : B) (c : UInt8) : idx (b :: l) c = if b = c then 0 else if idx l c = -1 then -1 else idx l c + 1 := by
  show Lib.indexByte (b :: l) c = _
  rw [Lib.indexByte]
  by_cases h : b = c
  · simp [h]
  · simp [h]; rfl
theorem idx_ge (l : B) (c : UInt8) : -1 ≤ idx l c := Lib.indexByte_ge l c
theorem idx_lt (l : B) (c : UInt8) : idx l c < l.length := by
  induction l with
  | nil => rw [idx_nil]; simp
  | cons b l ih =>
    rw [idx_cons, List.length_cons]
    split
    · omega
    · split <;> omega
/-- Found from place i on. -/
def idxFrom (l : B) (c : UInt8) (i : Nat) : Int := if idx (l.drop i) c = -1 then -1 else (i : Int) + idx (l.drop i) c
theorem idxFrom_zero (l : B) (c : UInt8) : idxFrom l c 0 = idx l c := by
  unfold idxFrom; rw [List.drop_zero]; split
  · rename_i h; rw [h]
  · simp

theorem spec_l01At_ev (s : ByteArray) (c : UInt8) (hs : s.size ≤ 1099511627776) : Ev (fun k => spec_l01At.f k s (c.toNat : Int)) (idx (L s) c) := by
  rw [← idxFrom_zero]
  refine loop_up (fun k i (_ : Unit) => spec_l01At.l0 k s (c.toNat : Int) i) (L s).length (fun _ _ => True) (fun i _ => idxFrom (L s) c i) ?_ ?_ 0 () (by omega) trivial
  · intro st _
    refine Ev.step (f := fun k => some (-1)) (fun k => by rw [spec_l01At.l0, if_neg (by rw [size_L]; omega)]) ?_
    refine ev_use (Ev.now _) ?_
    unfold idxFrom; rw [List.drop_length, idx_nil, if_pos rfl]
  · intro i st hi _ ih
    have hz : (i : Int) < (s.size : Int) := by rw [size_L]; omega
    by_cases h : at_ (L s) i = c
    · refine Ev.step (f := fun k => some (i : Int)) (fun k => ?_) (ev_use (Ev.now _) ?_)
      · rw [spec_l01At.l0, if_pos hz, if_pos (by omega), bt_nat, h, if_pos rfl]
      · unfold idxFrom; rw [drop_at _ _ hi, idx_cons, if_pos h]; simp
    · refine Ev.step (f := fun k => spec_l01At.l0 k s (c.toNat : Int) ((i + 1 : Nat) : Int)) (fun k => ?_) (ev_use (ih () trivial) ?_)
      · rw [spec_l01At.l0, if_pos hz, if_pos (by omega), bt_nat, if_neg (fun e => h (byte_inj e)), inc i (by rw [← size_L] at hi; omega)]
      · unfold idxFrom; rw [drop_at _ _ hi, idx_cons, if_neg h]
        have := idx_ge ((L s).drop (i + 1)) c
        split
        · rfl
        · rw [if_neg (by omega)]; omega

theorem strings_IndexByte_eq (s : ByteArray) (c : UInt8) : strings_IndexByte.f s (c.toNat : Int) = some (idx (L s) c) := by
  unfold strings_IndexByte.f idx L
  congr 2
  simp

end Go.Proofs.YtgfaphlpkjikkaaDoor.U
end

section
namespace Go.Proofs.YtgfaphlpkjikkaaDoor.U
open Go Go.RowKit Go.Proofs.YtgfaphlpkjikkaaDoorW.PrintWords Go.Proofs.YtgfaphlpkjikkaaDoor.G
set_option linter.unusedVariables false
set_option linter.unusedSimpArgs false

/-- The bytes of pairs of digits behind what there is, and whether they are such. -/
def pairs (dg : B) : B → B → B × Bool
  | acc, a :: b :: r => if idx dg a < 0 ∨ idx dg b < 0 then ([], false) else pairs dg (acc ++ [UInt8.ofNat (16 * (idx dg a).toNat + (idx dg b).toNat)]) r
  | acc, [] => (acc, true)
  | acc, [_] => (acc, false)
def getHex (l : B) : B × Bool := if (pairs hexd [] l).2 then pairs hexd [] l else ([], false)

theorem pair_byte {a b : Int} (ha : 0 ≤ a) (ha2 : a < 16) (hb : 0 ≤ b) (hb2 : b < 16) : [(wrap64 (wrap64 (16 * a) + b)) % 256] = I [UInt8.ofNat (16 * a.toNat + b.toNat)] := by
  rw [w64 (n := 16 * a) (by omega) (by omega), w64 (by omega) (by omega)]
  simp [I]
  omega

theorem spec_l01Pairs_ev (s dg : ByteArray) (hs : s.size ≤ 1099511627776) (hd : dg.size = 16) : Ev (fun k => spec_l01Pairs.f k s dg) (S (pairs (L dg) [] (L s)).1, (pairs (L dg) [] (L s)).2) := by
  have key : ∀ (d : Nat) (i : Nat) (acc : B), i + d = (L s).length → i % 2 = 0 → acc.length + d ≤ 1099511627776 → Ev (fun k => spec_l01Pairs.l0 k s dg (I acc) (i : Int)) (S (pairs (L dg) acc ((L s).drop i)).1, (pairs (L dg) acc ((L s).drop i)).2) := by
    intro d
    induction d using Nat.strongRecOn with
    | _ d ih =>
    intro i acc hi hev ha
    have hsz := size_L s
    by_cases hlt : i + 1 < (L s).length
    · have hz : ((i + 1 : Nat) : Int) < (s.size : Int) := by omega
      have hz0 : (i : Int) < (s.size : Int) := by omega
      have hw : wrap64 ((i : Int) + 1) = ((i + 1 : Nat) : Int) := inc i (by omega)
      have ea := spec_l01At_ev dg (at_ (L s) i) (by omega)
      have eb := spec_l01At_ev dg (at_ (L s) (i + 1)) (by omega)
      have la := idx_lt (L dg) (at_ (L s) i)
      have lb := idx_lt (L dg) (at_ (L s) (i + 1))
      rw [← size_L] at la lb
      rw [drop_at _ _ (by omega : i < (L s).length), drop_at _ _ hlt]
      refine Ev.step (f := fun k => _) (fun k => by rw [spec_l01Pairs.l0, hw, if_pos hz, if_pos (by omega), if_pos hz0, bt_nat, bt_nat]) ?_
      refine Ev.bind ea ?_
      refine ev_pos (by omega) ?_
      refine Ev.bind eb ?_
      rw [pairs]
      by_cases h1 : idx (L dg) (at_ (L s) i) < 0
      · refine ev_pos h1 (ev_use (Ev.now _) ?_)
        rw [if_pos (.inl h1)]; rfl
      · refine ev_neg h1 ?_
        by_cases h2 : idx (L dg) (at_ (L s) (i + 1)) < 0
        · refine ev_pos h2 (ev_use (Ev.now _) ?_)
          rw [if_pos (.inr h2)]; rfl
        · refine ev_neg h2 (ev_pos (by simp; omega) ?_)
          rw [if_neg (by omega), pair_byte (by omega) (by omega) (by omega) (by omega), ← I_append]
          have e2 : wrap64 ((i : Int) + 2) = ((i + 2 : Nat) : Int) := by rw [w64 (by omega) (by omega)]; omega
          rw [e2]
          exact ih (d - 2) (by omega) (i + 2) _ (by omega) (by omega) (by simp; omega)
    · have hw : wrap64 ((i : Int) + 1) = ((i + 1 : Nat) : Int) := inc i (by omega)
      refine Ev.step (f := fun k => some (strOfNums (I acc), ((s.size : Int) % 2 == 0))) (fun k => by rw [spec_l01Pairs.l0, hw, if_neg (by omega)]) (ev_use (Ev.now _) ?_)
      rw [str_I]
      by_cases h0 : i = (L s).length
      · rw [h0, List.drop_length, pairs]
        have e : ((s.size : Int) % 2 == 0) = true := by rw [beq_iff_eq]; omega
        rw [e]
      · have h1 : i + 1 = (L s).length := by omega
        rw [drop_at _ _ (by omega : i < (L s).length), h1, List.drop_length, pairs]
        have e : ((s.size : Int) % 2 == 0) = false := by rw [beq_eq_false_iff_ne]; omega
        rw [e]
  exact key (L s).length 0 [] (by omega) rfl (by rw [← size_L]; simpa using hs)

theorem hexd_S : (⟨#[48, 49, 50, 51, 52, 53, 54, 55, 56, 57, 97, 98, 99, 100, 101, 102]⟩ : ByteArray) = S hexd := rfl
theorem spec_GetHex_ev (s : ByteArray) (hs : s.size ≤ 1099511627776) : Ev (fun k => spec_GetHex.f k s) (S (getHex (L s)).1, (getHex (L s)).2) := by
  have e := spec_l01Pairs_ev s (S hexd) hs rfl
  rw [L_S] at e
  unfold spec_GetHex.f getHex
  rw [hexd_S]
  refine Ev.bind e ?_
  by_cases h : (pairs hexd [] (L s)).2 = true
  · refine ev_pos h (ev_use (Ev.now _) ?_)
    rw [if_pos h, h]
  · refine ev_neg h (ev_use (Ev.now _) ?_)
    rw [if_neg h]; rfl

theorem impl_GetHex_ev (s : ByteArray) (hs : s.size ≤ 1099511627776) : Ev (fun k => impl_GetHex.f k s) (S (getHex (L s)).1, (getHex (L s)).2) := by
  have key : ∀ (d : Nat) (i : Nat) (acc : B), i + d = (L s).length → i % 2 = 0 → acc.length + d ≤ 1099511627776 → Ev (fun k => impl_GetHex.l0 k s (I acc) (i : Int)) (if (pairs hexd acc ((L s).drop i)).2 then (S (pairs hexd acc ((L s).drop i)).1, true) else (S [], false)) := by
    intro d
    induction d using Nat.strongRecOn with
    | _ d ih =>
    intro i acc hi hev ha
    have hsz := size_L s
    by_cases hlt : i + 1 < (L s).length
    · have hz : ((i + 1 : Nat) : Int) < (s.size : Int) := by omega
      have hz0 : (i : Int) < (s.size : Int) := by omega
      have hw : wrap64 ((i : Int) + 1) = ((i + 1 : Nat) : Int) := inc i (by omega)
      have la := idx_lt hexd (at_ (L s) i)
      have lb := idx_lt hexd (at_ (L s) (i + 1))
      have h16 : (hexd.length : Int) = 16 := rfl
      rw [drop_at _ _ (by omega : i < (L s).length), drop_at _ _ hlt]
      refine Ev.step (f := fun k => _) (fun k => by rw [impl_GetHex.l0, hw, if_pos hz, if_pos (by omega), if_pos hz0, hexd_S, bt_nat, bt_nat, strings_IndexByte_eq, strings_IndexByte_eq, Option.bind_some, if_pos (by omega), Option.bind_some, L_S]) ?_
      by_cases h1 : idx hexd (at_ (L s) i) < 0
      · refine ev_pos h1 (ev_use (Ev.now _) ?_)
        rw [show pairs hexd acc (at_ (L s) i :: at_ (L s) (i + 1) :: (L s).drop (i + 1 + 1)) = ([], false) by rw [pairs, if_pos (Or.inl h1)]]; rfl
      · refine ev_neg h1 ?_
        by_cases h2 : idx hexd (at_ (L s) (i + 1)) < 0
        · refine ev_pos h2 (ev_use (Ev.now _) ?_)
          rw [show pairs hexd acc (at_ (L s) i :: at_ (L s) (i + 1) :: (L s).drop (i + 1 + 1)) = ([], false) by rw [pairs, if_pos (Or.inr h2)]]; rfl
        · refine ev_neg h2 (ev_pos (by simp; omega) ?_)
          rw [show pairs hexd acc (at_ (L s) i :: at_ (L s) (i + 1) :: (L s).drop (i + 1 + 1)) = pairs hexd (acc ++ [UInt8.ofNat (16 * (idx hexd (at_ (L s) i)).toNat + (idx hexd (at_ (L s) (i + 1))).toNat)]) ((L s).drop (i + 1 + 1)) by rw [pairs, if_neg (by omega)], pair_byte (by omega) (by omega) (by omega) (by omega), ← I_append]
          have e2 : wrap64 ((i : Int) + 2) = ((i + 2 : Nat) : Int) := by rw [w64 (by omega) (by omega)]; omega
          rw [e2]
          exact ih (d - 2) (by omega) (i + 2) _ (by omega) (by omega) (by simp; omega)
    · have hw : wrap64 ((i : Int) + 1) = ((i + 1 : Nat) : Int) := inc i (by omega)
      by_cases h0 : i = (L s).length
      · refine Ev.step (f := fun k => some (strOfNums (I acc), true)) (fun k => by rw [impl_GetHex.l0, hw, if_neg (by omega), if_neg (by omega)]) (ev_use (Ev.now _) ?_)
        rw [h0, List.drop_length, pairs, str_I]; rfl
      · have h1 : i + 1 = (L s).length := by omega
        refine Ev.step (f := fun k => some (S [], false)) (fun k => by rw [impl_GetHex.l0, hw, if_neg (by omega), if_pos (by omega)]; rfl) (ev_use (Ev.now _) ?_)
        rw [drop_at _ _ (by omega : i < (L s).length), h1, List.drop_length, pairs]; rfl
  refine ev_use (key (L s).length 0 [] (by omega) rfl (by rw [← size_L]; simpa using hs)) ?_
  unfold getHex
  rw [List.drop_zero]
  by_cases h : (pairs hexd [] (L s)).2 = true
  · rw [if_pos h, if_pos h, h]
  · rw [if_neg h, if_neg h]

end Go.Proofs.YtgfaphlpkjikkaaDoor.U
end

section
namespace Go.Proofs.YtgfaphlpkjikkaaDoor.U
open Go Go.RowKit Go.Proofs.YtgfaphlpkjikkaaDoorW.PrintWords Go.Proofs.YtgfaphlpkjikkaaDoorW.PrintMore Go.Proofs.YtgfaphlpkjikkaaDoor.G
set_option linter.unusedVariables false
set_option linter.unusedSimpArgs false

def sig : B := [65, 66, 67, 68, 69, 70, 71, 72, 73, 74, 75, 76, 77, 78, 79, 80, 81, 82, 83, 84, 85, 86, 87, 88, 89, 90, 97, 98, 99, 100, 101, 102, 103, 104, 105, 106, 107, 108, 109, 110, 111, 112, 113, 114, 115, 116, 117, 118, 119, 120, 121, 122, 48, 49, 50, 51, 52, 53, 54, 55, 56, 57, 43, 47]
/-- The number of the first three bytes, zeros behind the end. -/
def val (l : B) : Nat := (at_ l 0).toNat * 65536 + (at_ l 1).toNat * 256 + (at_ l 2).toNat
/-- Four signs of a number of which m bytes are there. -/
def sign (n m k : Nat) : UInt8 := if m < k then 61 else at_ sig (n / 2 ^ (18 - 6 * k) % 64)
def four (n m : Nat) : B := [sign n m 0, sign n m 1, sign n m 2, sign n m 3]
def b64 (l : B) : B := if l.length = 0 then [] else four (val l) (min 3 l.length) ++ b64 (l.drop 3)
termination_by l.length
decreasing_by simp; omega
theorem b64_nil : b64 [] = [] := by rw [b64]; rfl
theorem b64_step (l : B) (h : 0 < l.length) : b64 l = four (val l) (min 3 l.length) ++ b64 (l.drop 3) := by rw [b64, if_neg (by omega)]
theorem at_drop (l : B) (i j : Nat) : at_ (l.drop i) j = at_ l (i + j) := by simp [at_, List.getD_eq_getElem?_getD]
theorem at_behind (l : B) (i : Nat) (h : l.length ≤ i) : at_ l i = 0 := by simp [at_, List.getD_eq_getElem?_getD, List.getElem?_eq_none h]

theorem wrap62 (n : Int) (h0 : 0 ≤ n) (h1 : n < 2 ^ 62) : IntKind.i64.wrap n = n := by
  rw [IntKind.wrap_i64]
  have : (2 : Int) ^ 62 = 4611686018427387904 := by decide
  omega
theorem and63 (x : Int) (h0 : 0 ≤ x) (h1 : x < 4611686018427387904) : Go.bits .and .i64 x 63 = x % 64 :=
  bits_mask .i64 62 (by decide) wrap62 6 (by decide) x h0 (by have : (2 : Int) ^ 62 = 4611686018427387904 := by decide
                                                              omega)
theorem or256 (x y : Int) (h0 : 0 ≤ x) (h1 : x < 16777216) (hy0 : 0 ≤ y) (hy1 : y < 256) : Go.bits .or .i64 (x * 256) y = x * 256 + y := by
  have e62 : (2 : Int) ^ 62 = 4611686018427387904 := by decide
  have e8 : (2 : Int) ^ 8 = 256 := by decide
  exact bits_join .i64 62 (by decide) wrap62 8 _ _ (by omega) (by rw [e8]; omega) (by rw [e62]; omega) hy0 (by rw [e8]; omega) (by rw [e62]; omega)
theorem sig_bits (n k : Nat) (hn : n < 16777216) (hk : k < 4) : Go.bits .and .i64 (shr .i64 (n : Int) (wrap64 (18 - wrap64 (6 * (k : Int))))) 63 = ((n / 2 ^ (18 - 6 * k) % 64 : Nat) : Int) := by
  rw [w64 (n := 6 * (k : Int)) (by omega) (by omega), w64 (by omega) (by omega)]
  unfold shr
  have e : min (18 - 6 * (k : Int)).toNat IntKind.i64.bits = 18 - 6 * k := by
    rw [show IntKind.i64.bits = 64 from rfl]; omega
  rw [e]
  have e2 : (n : Int) / 2 ^ (18 - 6 * k) = ((n / 2 ^ (18 - 6 * k) : Nat) : Int) := by push_cast; rfl
  have h3 : n / 2 ^ (18 - 6 * k) ≤ n := Nat.div_le_self _ _
  generalize n / 2 ^ (18 - 6 * k) = m at *
  rw [e2, and63 _ (by omega) (by omega)]
  omega

theorem zero_byte (n : Nat) : ((n * 256 + (0 : UInt8).toNat : Nat) : Int) = (n : Int) * 256 := by
  have : (0 : UInt8).toNat = 0 := rfl
  omega
theorem val_lt (l : B) : val l < 16777216 := by
  unfold val
  have := (at_ l 0).toNat_lt; have := (at_ l 1).toNat_lt; have := (at_ l 2).toNat_lt
  omega
theorem sig_S : (⟨#[65, 66, 67, 68, 69, 70, 71, 72, 73, 74, 75, 76, 77, 78, 79, 80, 81, 82, 83, 84, 85, 86, 87, 88, 89, 90, 97, 98, 99, 100, 101, 102, 103, 104, 105, 106, 107, 108, 109, 110, 111, 112, 113, 114, 115, 116, 117, 118, 119, 120, 121, 122, 48, 49, 50, 51, 52, 53, 54, 55, 56, 57, 43, 47]⟩ : ByteArray) = S sig := rfl
theorem sig_size : (S sig).size = 64 := rfl
theorem four_len (n m : Nat) : (four n m).length = 4 := rfl

theorem spec_PutBase64_ev (s : ByteArray) (hs : s.size ≤ 1099511627776) : Ev (fun k => spec_PutBase64.f k s) (S (b64 (L s))) := by
  have hsz := size_L s
  have key : ∀ (d i : Nat) (acc : B), (L s).length - i ≤ d → acc.length ≤ 2 * i → i ≤ (L s).length + 3 → Ev (fun k => spec_PutBase64.l0 k s (I acc) (S sig) (i : Int)) (S (acc ++ b64 ((L s).drop i))) := by
    intro d
    induction d with
    | zero =>
      intro i acc hd ha hi
      refine Ev.step (f := fun k => some (S acc)) (fun k => by rw [spec_PutBase64.l0, if_neg (by omega), str_I]) (ev_use (Ev.now _) ?_)
      rw [List.drop_of_length_le (by omega), b64_nil, List.append_nil]
    | succ d ih =>
      intro i acc hd ha hi
      by_cases hlt : i < (L s).length
      · have hlen : ((L s).drop i).length = (L s).length - i := by simp
        have hv := val_lt ((L s).drop i)
        have hve : val ((L s).drop i) = (at_ (L s) i).toNat * 65536 + (at_ (L s) (i + 1)).toNat * 256 + (at_ (L s) (i + 2)).toNat := by unfold val; rw [at_drop, at_drop, at_drop]; rfl
        rw [b64_step _ (by omega), hlen]
        refine Ev.step (f := fun k => spec_PutBase64.l1 k s (I acc) (S sig) (i : Int) 0 0 (i : Int)) (fun k => by rw [spec_PutBase64.l0, if_pos (by omega)]) ?_
        -- the four signs
        have emit : ∀ (n m : Nat), n < 16777216 → Ev (fun k => spec_PutBase64.l0 k s (I (acc ++ four n m)) (S sig) ((i + 3 : Nat) : Int)) (S ((acc ++ four n m) ++ b64 ((L s).drop (i + 3)))) → Ev (fun k => spec_PutBase64.l2 k s (I acc) (S sig) (i : Int) (n : Int) (m : Int) 0) (S ((acc ++ four n m) ++ b64 ((L s).drop (i + 3)))) := by
          intro n m hn hcont
          have one : ∀ (j : Nat) (q : B) (r : ByteArray), j < 4 → q.length = j → Ev (fun k => spec_PutBase64.l2 k s (I (acc ++ (q ++ [sign n m j]))) (S sig) (i : Int) (n : Int) (m : Int) ((j + 1 : Nat) : Int)) r → Ev (fun k => spec_PutBase64.l2 k s (I (acc ++ q)) (S sig) (i : Int) (n : Int) (m : Int) (j : Int)) r := by
            intro j q r hj hq h
            have hb := sig_bits n j hn hj
            refine Ev.step (f := fun k => spec_PutBase64.l2 k s (I (acc ++ (q ++ [sign n m j]))) (S sig) (i : Int) (n : Int) (m : Int) ((j + 1 : Nat) : Int)) (fun k => ?_) h
            rw [spec_PutBase64.l2, if_pos (by omega), wa1 j (by omega)]
            by_cases hm : m < j
            · rw [if_pos (by omega), if_pos (by simp; omega)]
              rw [sign, if_pos hm, ← List.append_assoc acc q, I_append (acc ++ q)]; rfl
            · rw [if_neg (by omega), hb, if_pos ?_, if_pos (by omega), if_pos (by rw [sig_size]; omega), if_pos (by simp; omega)]
              · rw [sign, if_neg hm, ← List.append_assoc acc q, I_append (acc ++ q), bt_nat, L_S]; rfl
              · rw [w64 (n := 6 * (j : Int)) (by omega) (by omega), w64 (by omega) (by omega)]; omega
          have fin : Ev (fun k => spec_PutBase64.l2 k s (I (acc ++ four n m)) (S sig) (i : Int) (n : Int) (m : Int) ((4 : Nat) : Int)) (S ((acc ++ four n m) ++ b64 ((L s).drop (i + 3)))) := by
            refine Ev.step (f := fun k => spec_PutBase64.l0 k s (I (acc ++ four n m)) (S sig) ((i + 3 : Nat) : Int)) (fun k => ?_) hcont
            rw [spec_PutBase64.l2, if_neg (by omega), wa3 i (by omega)]
          have h := one 0 [] _ (by omega) rfl (one 1 [sign n m 0] _ (by omega) rfl (one 2 [sign n m 0, sign n m 1] _ (by omega) rfl (one 3 [sign n m 0, sign n m 1, sign n m 2] _ (by omega) rfl fin)))
          rw [List.append_nil] at h
          exact h
        -- the three bytes
        have take : ∀ (j n m : Nat) (r : ByteArray), j < 3 → n < 65536 → m ≤ j → Ev (fun k => spec_PutBase64.l1 k s (I acc) (S sig) (i : Int) ((n * 256 + (at_ (L s) (i + j)).toNat : Nat) : Int) ((m + (if i + j < (L s).length then 1 else 0) : Nat) : Int) ((i + j + 1 : Nat) : Int)) r → Ev (fun k => spec_PutBase64.l1 k s (I acc) (S sig) (i : Int) (n : Int) (m : Int) ((i + j : Nat) : Int)) r := by
          intro j n m r hj hn hm h
          have hb := byte_lt (at_ (L s) (i + j))
          refine Ev.step (f := fun k => spec_PutBase64.l1 k s (I acc) (S sig) (i : Int) ((n * 256 + (at_ (L s) (i + j)).toNat : Nat) : Int) ((m + (if i + j < (L s).length then 1 else 0) : Nat) : Int) ((i + j + 1 : Nat) : Int)) (fun k => ?_) h
          rw [spec_PutBase64.l1, wa3 i (by omega), if_pos (by omega), wa1 (i + j) (by omega)]
          by_cases hl : i + j < (L s).length
          · rw [if_pos (by omega), if_pos (by omega), bt_nat, w64 (n := (n : Int) * 256) (by omega) (by omega), w64 (n := ((at_ (L s) (i + j)).toNat : Int)) (by omega) (by omega), w64 (by omega) (by omega), wa1 m (by omega), if_pos hl]
            rw [show ((n * 256 + (at_ (L s) (i + j)).toNat : Nat) : Int) = (n : Int) * 256 + ((at_ (L s) (i + j)).toNat : Int) by omega]
          · rw [if_neg (by omega), w64 (by omega) (by omega), if_neg hl, at_behind _ _ (by omega)]
            rw [show ((n * 256 + (0 : UInt8).toNat : Nat) : Int) = (n : Int) * 256 from zero_byte n]
            simp only [Nat.add_zero]
        have e0 : ∀ (j : Nat), (at_ (L s) j).toNat < 256 := fun j => (at_ (L s) j).toNat_lt
        have a0 := e0 i; have a1 := e0 (i + 1); have a2 := e0 (i + 2)
        refine take 0 0 0 _ (by omega) (by omega) (by omega) ?_
        refine take 1 _ _ _ (by omega) (by simp only [Nat.add_zero]; omega) (by split <;> omega) ?_
        refine take 2 _ _ _ (by omega) (by simp only [Nat.add_zero]; omega) (by split <;> split <;> omega) ?_
        have hnn : ((0 * 256 + (at_ (L s) (i + 0)).toNat) * 256 + (at_ (L s) (i + 1)).toNat) * 256 + (at_ (L s) (i + 2)).toNat = val ((L s).drop i) := by
          have hve' := hve
          simp only [Nat.add_zero, Nat.zero_mul, Nat.zero_add]
          generalize (at_ (L s) i).toNat = x0 at *
          generalize (at_ (L s) (i + 1)).toNat = x1 at *
          generalize (at_ (L s) (i + 2)).toNat = x2 at *
          omega
        have hmm : 0 + (if i + 0 < (L s).length then 1 else 0) + (if i + 1 < (L s).length then 1 else 0) + (if i + 2 < (L s).length then 1 else 0) = min 3 ((L s).length - i) := by
          rw [if_pos (by omega)]; split <;> split <;> omega
        rw [hnn, hmm]
        refine Ev.step (f := fun k => spec_PutBase64.l2 k s (I acc) (S sig) (i : Int) (val ((L s).drop i) : Int) ((min 3 ((L s).length - i) : Nat) : Int) 0) (fun k => by rw [spec_PutBase64.l1, wa3 i (by omega), if_neg (by omega)]) ?_
        refine ev_use (emit _ _ hv (ih (i + 3) _ (by omega) (by simp [four_len]; omega) (by omega))) ?_
        rw [List.append_assoc, List.drop_drop]
      · refine Ev.step (f := fun k => some (S acc)) (fun k => by rw [spec_PutBase64.l0, if_neg (by omega), str_I]) (ev_use (Ev.now _) ?_)
        rw [List.drop_of_length_le (by omega), b64_nil, List.append_nil]
  unfold spec_PutBase64.f spec_l01Signs.f
  refine ev_some ?_
  rw [sig_S]
  exact ev_use (key _ 0 [] (Nat.le_refl _) (by simp) (by omega)) (by simp)

theorem part_extract (s : ByteArray) (i : Nat) (h : i < (L s).length) (hs : s.size ≤ 1099511627776) : s.extract i (min (i + 3) s.size) = S (((L s).drop i).take 3) := L_inj (by
  rw [L_extract, L_S, size_L]
  by_cases h3 : i + 3 ≤ (L s).length
  · rw [show min (i + 3) (L s).length - i = 3 by omega]
  · rw [show min (i + 3) (L s).length - i = (L s).length - i by omega, List.take_of_length_le (by simp), List.take_of_length_le (by simp; omega)])
theorem impl_PutBase64_ev (s : ByteArray) (hs : s.size ≤ 1099511627776) : Ev (fun k => impl_PutBase64.f k s) (S (b64 (L s))) := by
  have hsz := size_L s
  have key : ∀ (d i : Nat) (acc : B), (L s).length - i ≤ d → acc.length ≤ 2 * i → i ≤ (L s).length + 3 → Ev (fun k => impl_PutBase64.l0 k s (I acc) (i : Int)) (S (acc ++ b64 ((L s).drop i))) := by
    intro d
    induction d with
    | zero =>
      intro i acc hd ha hi
      refine Ev.step (f := fun k => some (S acc)) (fun k => by rw [impl_PutBase64.l0, if_neg (by omega), str_I]) (ev_use (Ev.now _) ?_)
      rw [List.drop_of_length_le (by omega), b64_nil, List.append_nil]
    | succ d ih =>
      intro i acc hd ha hi
      by_cases hlt : i < (L s).length
      · have hlen : ((L s).drop i).length = (L s).length - i := by simp
        have hv := val_lt ((L s).drop i)
        have hve : val ((L s).drop i) = (at_ (L s) i).toNat * 65536 + (at_ (L s) (i + 1)).toNat * 256 + (at_ (L s) (i + 2)).toNat := by unfold val; rw [at_drop, at_drop, at_drop]; rfl
        rw [b64_step _ (by omega), hlen]
        have hmn : mn (wrap64 ((i : Int) + 3)) (s.size : Int) = ((min (i + 3) s.size : Nat) : Int) := by
          rw [wa3 i (by omega)]; unfold mn; split <;> omega
        have hpl : (((L s).drop i).take 3).length = min 3 ((L s).length - i) := by rw [List.length_take, hlen]
        have hpa : ∀ j, j < 3 → at_ (((L s).drop i).take 3) j = at_ (L s) (i + j) := by
          intro j hj
          rw [← at_drop]
          simp [at_, List.getD_eq_getElem?_getD, List.getElem?_take, hj]
        refine Ev.step (f := fun k => impl_PutBase64.l1 k s (I acc) (i : Int) (S (((L s).drop i).take 3)) 0 0) (fun k => by rw [impl_PutBase64.l0, if_pos (by omega), if_pos (by omega), hmn, if_pos (by omega), if_pos (by omega), Int.toNat_natCast, Int.toNat_natCast, part_extract s i hlt hs]) ?_
        generalize hp : ((L s).drop i).take 3 = p at *
        have emit : ∀ (n m : Nat), n < 16777216 → m = p.length → Ev (fun k => impl_PutBase64.l0 k s (I (acc ++ four n m)) ((i + 3 : Nat) : Int)) (S ((acc ++ four n m) ++ b64 ((L s).drop (i + 3)))) → Ev (fun k => impl_PutBase64.l2 k s (I acc) (i : Int) (S p) (n : Int) 0) (S ((acc ++ four n m) ++ b64 ((L s).drop (i + 3)))) := by
          intro n m hn hmp hcont
          have one : ∀ (j : Nat) (q : B) (r : ByteArray), j < 4 → q.length = j → Ev (fun k => impl_PutBase64.l2 k s (I (acc ++ (q ++ [sign n m j]))) (i : Int) (S p) (n : Int) ((j + 1 : Nat) : Int)) r → Ev (fun k => impl_PutBase64.l2 k s (I (acc ++ q)) (i : Int) (S p) (n : Int) (j : Int)) r := by
            intro j q r hj hq h
            have hb := sig_bits n j hn hj
            refine Ev.step (f := fun k => impl_PutBase64.l2 k s (I (acc ++ (q ++ [sign n m j]))) (i : Int) (S p) (n : Int) ((j + 1 : Nat) : Int)) (fun k => ?_) h
            rw [impl_PutBase64.l2, if_pos (by omega), wa1 j (by omega), size_S, sig_S]
            by_cases hm : m < j
            · rw [if_neg (by omega), if_pos (by simp; omega)]
              rw [sign, if_pos hm, ← List.append_assoc acc q, I_append (acc ++ q)]; rfl
            · rw [if_pos (by omega), hb, if_pos ?_, if_pos (by omega), if_pos (by omega), if_pos (by simp; omega)]
              · rw [sign, if_neg hm, ← List.append_assoc acc q, I_append (acc ++ q), bt_nat, L_S]; rfl
              · rw [w64 (n := 6 * (j : Int)) (by omega) (by omega), w64 (by omega) (by omega)]; omega
          have fin : Ev (fun k => impl_PutBase64.l2 k s (I (acc ++ four n m)) (i : Int) (S p) (n : Int) ((4 : Nat) : Int)) (S ((acc ++ four n m) ++ b64 ((L s).drop (i + 3)))) := by
            refine Ev.step (f := fun k => impl_PutBase64.l0 k s (I (acc ++ four n m)) ((i + 3 : Nat) : Int)) (fun k => ?_) hcont
            rw [impl_PutBase64.l2, if_neg (by omega), wa3 i (by omega)]
          have h := one 0 [] _ (by omega) rfl (one 1 [sign n m 0] _ (by omega) rfl (one 2 [sign n m 0, sign n m 1] _ (by omega) rfl (one 3 [sign n m 0, sign n m 1, sign n m 2] _ (by omega) rfl fin)))
          rw [List.append_nil] at h
          exact h
        have take : ∀ (j n : Nat) (r : ByteArray), j < 3 → n < 65536 → Ev (fun k => impl_PutBase64.l1 k s (I acc) (i : Int) (S p) ((n * 256 + (at_ (L s) (i + j)).toNat : Nat) : Int) ((j + 1 : Nat) : Int)) r → Ev (fun k => impl_PutBase64.l1 k s (I acc) (i : Int) (S p) (n : Int) (j : Int)) r := by
          intro j n r hj hn h
          have hb := byte_lt (at_ (L s) (i + j))
          refine Ev.step (f := fun k => impl_PutBase64.l1 k s (I acc) (i : Int) (S p) ((n * 256 + (at_ (L s) (i + j)).toNat : Nat) : Int) ((j + 1 : Nat) : Int)) (fun k => ?_) h
          rw [impl_PutBase64.l1, if_pos (by omega), wa1 j (by omega), size_S]
          by_cases hl : i + j < (L s).length
          · rw [if_pos (by omega), if_pos (by omega), bt_nat, L_S, hpa j hj, w64 (n := (n : Int) * 256) (by omega) (by omega), w64 (n := ((at_ (L s) (i + j)).toNat : Int)) (by omega) (by omega), or256 _ _ (by omega) (by omega) (by omega) hb]
            rw [show ((n * 256 + (at_ (L s) (i + j)).toNat : Nat) : Int) = (n : Int) * 256 + ((at_ (L s) (i + j)).toNat : Int) by omega]
          · rw [if_neg (by omega), w64 (by omega) (by omega), at_behind _ _ (by omega)]
            rw [show ((n * 256 + (0 : UInt8).toNat : Nat) : Int) = (n : Int) * 256 from zero_byte n]
        have e0 : ∀ (j : Nat), (at_ (L s) j).toNat < 256 := fun j => (at_ (L s) j).toNat_lt
        have a0 := e0 i; have a1 := e0 (i + 1); have a2 := e0 (i + 2)
        refine take 0 0 _ (by omega) (by omega) ?_
        refine take 1 _ _ (by omega) (by simp only [Nat.add_zero]; omega) ?_
        refine take 2 _ _ (by omega) (by simp only [Nat.add_zero]; omega) ?_
        have hnn : ((0 * 256 + (at_ (L s) (i + 0)).toNat) * 256 + (at_ (L s) (i + 1)).toNat) * 256 + (at_ (L s) (i + 2)).toNat = val ((L s).drop i) := by
          have hve' := hve
          simp only [Nat.add_zero, Nat.zero_mul, Nat.zero_add]
          generalize (at_ (L s) i).toNat = x0 at *
          generalize (at_ (L s) (i + 1)).toNat = x1 at *
          generalize (at_ (L s) (i + 2)).toNat = x2 at *
          omega
        rw [hnn]
        refine Ev.step (f := fun k => impl_PutBase64.l2 k s (I acc) (i : Int) (S p) (val ((L s).drop i) : Int) 0) (fun k => by rw [impl_PutBase64.l1, if_neg (by omega)]) ?_
        refine ev_use (emit _ _ hv hpl.symm (ih (i + 3) _ (by omega) (by simp [four_len]; omega) (by omega))) ?_
        rw [List.append_assoc, List.drop_drop]
      · refine Ev.step (f := fun k => some (S acc)) (fun k => by rw [impl_PutBase64.l0, if_neg (by omega), str_I]) (ev_use (Ev.now _) ?_)
        rw [List.drop_of_length_le (by omega), b64_nil, List.append_nil]
  exact ev_use (key _ 0 [] (Nat.le_refl _) (by simp) (by omega)) (by simp)
end Go.Proofs.YtgfaphlpkjikkaaDoor.U
end

section
namespace Go.Proofs.YtgfaphlpkjikkaaDoor.U
open Go Go.RowKit Go.Proofs.YtgfaphlpkjikkaaDoorW.PrintWords
set_option linter.unusedVariables false
set_option linter.unusedSimpArgs false

/-- What a size function answers: what is left, or -1. -/
def szOut (left w : Int) : Int := if w ≤ left then left - w else -1
theorem szOut_neg {left w : Int} (h : left < w) : szOut left w = -1 := by unfold szOut; rw [if_neg (by omega)]
theorem szOut_pos {left w : Int} (h : w ≤ left) : szOut left w = left - w := by unfold szOut; rw [if_pos h]
/-- A room that is left over. -/
def Room (x : Int) : Prop := 0 ≤ x ∧ x ≤ 1048576
theorem room_le {left w : Int} (hl : Room left) (hw : 0 ≤ w) (h : w ≤ left) : Room (left - w) := by unfold Room at *; omega
theorem room_sub {left : Int} {n : Nat} (hl : Room left) (hn : n ≤ maxLen) : wrap64 (left - (n : Int)) = left - n := by
  unfold Room at hl; exact w64 (by unfold maxLen at hn; omega) (by omega)
theorem szOut_add {left v w : Int} (hv : 0 ≤ v) (hw : 0 ≤ w) (h : v ≤ left) : szOut (left - v) w = szOut left (v + w) := by
  unfold szOut; by_cases h1 : w ≤ left - v
  · rw [if_pos h1, if_pos (by omega)]; omega
  · rw [if_neg h1, if_neg (by omega)]
/-- A size function's law. -/
def Sz (g : Nat → Int → Option Int) (w : Int) : Prop := 0 ≤ w ∧ ∀ left, Room left → Ev (fun k => g k left) (szOut left w)
/-- What is subtracted at once, and the rest. -/
theorem sz_cut {left : Int} {n : Nat} {w : Int} {f : Nat → Option Int} (hl : Room left) (hn : n ≤ maxLen) (hw : 0 ≤ w)
    (h : (n : Int) ≤ left → Room (left - n) → Ev f (szOut (left - n) w)) : Ev (fun k => if wrap64 (left - (n : Int)) < 0 then some (-1) else f k) (szOut left (n + w)) := by
  rw [room_sub hl hn]
  by_cases h0 : left - (n : Int) < 0
  · rw [szOut_neg (by omega)]; exact ev_pos h0 (Ev.now _)
  · refine ev_neg h0 ?_; rw [← szOut_add (by omega) hw (by omega)]; exact h (by omega) (room_le hl (by omega) (by omega))
theorem sz_last {left : Int} {n : Nat} (hl : Room left) (hn : n ≤ maxLen) : Ev (fun _ => if wrap64 (left - (n : Int)) < 0 then some (-1) else some (wrap64 (left - (n : Int)))) (szOut left n) := by
  rw [room_sub hl hn]
  by_cases h0 : left - (n : Int) < 0
  · rw [szOut_neg (by omega)]; exact ev_pos h0 (Ev.now _)
  · refine ev_neg h0 ?_; rw [szOut_pos (by omega)]; exact Ev.now _
/-- What a function subtracts, and the rest. -/
theorem sz_call {left v w : Int} {g : Nat → Int → Option Int} {f : Nat → Int → Option Int} (hg : Sz g v) (hl : Room left) (hw : 0 ≤ w)
    (h : v ≤ left → Room (left - v) → Ev (fun k => f k (left - v)) (szOut (left - v) w)) : Ev (fun k => (g k left).bind fun t => if t < 0 then some (-1) else f k t) (szOut left (v + w)) := by
  refine Ev.bind (hg.2 left hl) ?_
  by_cases h0 : v ≤ left
  · rw [szOut_pos h0]; refine ev_neg (by omega) ?_; rw [← szOut_add hg.1 hw h0]; exact h h0 (room_le hl hg.1 h0)
  · rw [szOut_neg (by omega), szOut_neg (by omega)]; exact ev_pos (by omega) (Ev.now _)
theorem sz_end {left : Int} : Ev (fun _ => some left) (szOut left 0) ∨ left < 0 := by
  by_cases h : left < 0
  · exact Or.inr h
  · left; rw [szOut_pos (by omega)]; simpa using Ev.now left
theorem sz_done {left : Int} (h : Room left) : Ev (fun _ => some left) (szOut left 0) := by
  rw [szOut_pos (by unfold Room at h; omega)]; simpa using Ev.now left
/-- The sizes of a list's members, summed. -/
def sumW {α : Type} (w : α → Int) : List α → Int
  | [] => 0
  | x :: l => w x + sumW w l
theorem sumW_nonneg {α : Type} {w : α → Int} {l : List α} (h : ∀ x ∈ l, 0 ≤ w x) : 0 ≤ sumW w l := by
  induction l with
  | nil => simp [sumW]
  | cons x l ih => have := h x (by simp); have := ih fun y hy => h y (by simp [hy]); simp only [sumW]; omega
theorem sumW_mem {α : Type} {w : α → Int} {l : List α} (h : ∀ x ∈ l, 0 ≤ w x) {x : α} (hx : x ∈ l) : w x ≤ sumW w l := by
  induction l with
  | nil => simp at hx
  | cons y l ih =>
    have h1 := h y (by simp); have h2 : 0 ≤ sumW w l := sumW_nonneg fun z hz => h z (by simp [hz])
    simp only [sumW]
    rcases List.mem_cons.1 hx with rfl | hx
    · omega
    · have := ih (fun z hz => h z (by simp [hz])) hx; omega
/-- A list's weight: its length and its members' weights. -/
def wList {α : Type} (w : α → Int) (l : List α) : Int := l.length + sumW w l
theorem wList_nonneg {α : Type} {w : α → Int} {l : List α} (h : ∀ x ∈ l, 0 ≤ w x) : 0 ≤ wList w l := by
  have := sumW_nonneg h; unfold wList; omega
theorem wList_len {α : Type} {w : α → Int} {l : List α} (h : ∀ x ∈ l, 0 ≤ w x) : (l.length : Int) ≤ wList w l := by
  have := sumW_nonneg h; unfold wList; omega
theorem wList_mem {α : Type} {w : α → Int} {l : List α} (h : ∀ x ∈ l, 0 ≤ w x) {x : α} (hx : x ∈ l) : w x ≤ wList w l := by
  have := sumW_mem h hx; unfold wList; omega
theorem getD_mem {α : Type} (l : List α) (i : Nat) (z : α) (h : i < l.length) : l.getD i z ∈ l := by
  rw [List.getD_eq_getElem?_getD, List.getElem?_eq_getElem h]; exact List.getElem_mem h
theorem drop_getD {α : Type} (l : List α) (i : Nat) (z : α) (h : i < l.length) : l.drop i = l.getD i z :: l.drop (i + 1) := by
  rw [List.getD_eq_getElem?_getD, List.getElem?_eq_getElem h]; exact List.drop_eq_getElem_cons h
/-- The loop of a size function over a list. -/
theorem sz_loop {α : Type} (l : List α) (z : α) (w : α → Int) (g : Nat → Int → Int → Option Int) (s : Nat → α → Int → Option Int) (hlen : l.length ≤ maxLen)
    (hin : ∀ k (i : Nat) st, i < l.length → g (k + 1) (i : Int) st = (s k (l.getD i z) st).bind fun t => if t < 0 then some (-1) else g k (wrap64 ((i : Int) + 1)) t)
    (hend : ∀ k st, g (k + 1) (l.length : Int) st = some st)
    (hs : ∀ x ∈ l, Sz (fun k left => s k x left) (w x)) :
    ∀ left, Room left → Ev (fun k => g k 0 left) (szOut left (sumW w l)) := by
  have hw : ∀ x ∈ l, 0 ≤ w x := fun x hx => (hs x hx).1
  have key : ∀ d i st, i + d = l.length → Room st → Ev (fun k => g k (i : Int) st) (szOut st (sumW w (l.drop i))) := by
    intro d
    induction d with
    | zero =>
      intro i st hi hr
      have e : i = l.length := by omega
      subst e
      rw [List.drop_length]
      exact Ev.step (by intro k; rw [hend]) (sz_done hr)
    | succ d ih =>
      intro i st hi hr
      have h : i < l.length := by omega
      rw [drop_getD l i z h]
      refine Ev.step (fun k => hin k i st h) ?_
      refine sz_call (g := fun k left => s k (l.getD i z) left) (hs _ (getD_mem l i z h)) hr (sumW_nonneg fun x hx => hw x (List.mem_of_mem_drop hx)) fun _ hr' => ?_
      rw [inc i (by unfold maxLen at hlen; omega)]
      exact ih (i + 1) _ (by omega) hr'
  intro left hl
  exact key l.length 0 left (by omega) hl

/-- The loop of a copy: each member's picture, one place after the other. -/
theorem to_loop {α β : Type} (l : List α) (z : α) (y : β) (f : α → β) (g : Nat → Int → List β → Option (List β)) (hlen : l.length ≤ maxLen)
    (hin : ∀ k (i : Nat) st, i < l.length → st.length = l.length → g (k + 1) (i : Int) st = g k (wrap64 ((i : Int) + 1)) (st.set i (f (l.getD i z))))
    (hend : ∀ k st, g (k + 1) (l.length : Int) st = some st) :
    Ev (fun k => g k 0 (List.replicate l.length y)) (l.map f) := by
  have key : ∀ d i st, i + d = l.length → st.length = l.length → Ev (fun k => g k (i : Int) st) (st.take i ++ (l.drop i).map f) := by
    intro d
    induction d with
    | zero =>
      intro i st hi hs
      have e : i = l.length := by omega
      subst e
      rw [List.drop_length]
      exact Ev.step (by intro k; rw [hend]) (ev_use (Ev.now _) (by rw [← hs, List.take_length]; simp))
    | succ d ih =>
      intro i st hi hs
      have h : i < l.length := by omega
      rw [drop_getD l i z h]
      refine Ev.step (fun k => hin k i st h hs) ?_
      rw [inc i (by unfold maxLen at hlen; omega)]
      refine ev_use (ih (i + 1) _ (by omega) (by simpa using hs)) ?_
      have h2 : i < st.length := by omega
      rw [List.take_succ_eq_append_getElem (by simpa using h2)]
      simp [List.take_set_of_le]
  have := key l.length 0 (List.replicate l.length y) (by omega) (by simp)
  simpa using this

/-- The loop of a copy, where a member's picture is made by a call. -/
theorem to_loop2 {α β : Type} (l : List α) (z : α) (y : β) (f : α → β) (g : Nat → Int → List β → Option (List β)) (p : Nat → α → Option β) (hlen : l.length ≤ maxLen)
    (hin : ∀ k (i : Nat) st, i < l.length → st.length = l.length → g (k + 1) (i : Int) st = (p k (l.getD i z)).bind fun b => g k (wrap64 ((i : Int) + 1)) (st.set i b))
    (hend : ∀ k st, g (k + 1) (l.length : Int) st = some st)
    (hp : ∀ x ∈ l, Ev (fun k => p k x) (f x)) :
    Ev (fun k => g k 0 (List.replicate l.length y)) (l.map f) := by
  have key : ∀ d i st, i + d = l.length → st.length = l.length → Ev (fun k => g k (i : Int) st) (st.take i ++ (l.drop i).map f) := by
    intro d
    induction d with
    | zero =>
      intro i st hi hs
      have e : i = l.length := by omega
      subst e
      rw [List.drop_length]
      exact Ev.step (by intro k; rw [hend]) (ev_use (Ev.now _) (by rw [← hs, List.take_length]; simp))
    | succ d ih =>
      intro i st hi hs
      have h : i < l.length := by omega
      rw [drop_getD l i z h]
      refine Ev.step (fun k => hin k i st h hs) ?_
      refine Ev.bind (hp _ (getD_mem l i z h)) ?_
      rw [inc i (by unfold maxLen at hlen; omega)]
      refine ev_use (ih (i + 1) _ (by omega) (by simpa using hs)) ?_
      have h2 : i < st.length := by omega
      rw [List.take_succ_eq_append_getElem (by simpa using h2)]
      simp [List.take_set_of_le]
  have := key l.length 0 (List.replicate l.length y) (by omega) (by simp)
  simpa using this

/-- The loop of an equality of a list with itself. -/
theorem eq_loop {α : Type} (l : List α) (z : α) (g : Nat → Int → Option Bool) (e : Nat → α → Option Bool) (hlen : l.length ≤ maxLen)
    (hin : ∀ k (i : Nat), i < l.length → g (k + 1) (i : Int) = (e k (l.getD i z)).bind fun t => if t = true then g k (wrap64 ((i : Int) + 1)) else some false)
    (hend : ∀ k, g (k + 1) (l.length : Int) = some true)
    (he : ∀ x ∈ l, Ev (fun k => e k x) true) : Ev (fun k => g k 0) true := by
  have key : ∀ d i, i + d = l.length → Ev (fun k => g k (i : Int)) true := by
    intro d
    induction d with
    | zero =>
      intro i hi
      have e : i = l.length := by omega
      subst e
      exact Ev.step (by intro k; rw [hend]) (Ev.now true)
    | succ d ih =>
      intro i hi
      have h : i < l.length := by omega
      refine Ev.step (fun k => hin k i h) ?_
      refine Ev.bind (he _ (getD_mem l i z h)) ?_
      refine ev_pos rfl ?_
      rw [inc i (by unfold maxLen at hlen; omega)]
      exact ih (i + 1) (by omega)
  exact key l.length 0 (by omega)

theorem sz_cut' {left : Int} {n : Nat} {w : Int} {f : Nat → Option Int} (hl : Room left) (hw : 0 ≤ w)
    (h : (n : Int) ≤ left → Room (left - n) → Ev f (szOut (left - n) w)) : Ev (fun k => if left - (n : Int) < 0 then some (-1) else f k) (szOut left (n + w)) := by
  by_cases h0 : left - (n : Int) < 0
  · rw [szOut_neg (by omega)]; exact ev_pos h0 (Ev.now _)
  · refine ev_neg h0 ?_; rw [← szOut_add (by omega) hw (by omega)]; exact h (by omega) (room_le hl (by omega) (by omega))
theorem room_all : Room 1048576 := by unfold Room; omega
/-- A law's first question: too big is true at once. -/
theorem law_sz {w : Int} {g : Nat → Int → Option Int} {f : Nat → Option Bool} (hg : Sz g w) (h : w ≤ 1048576 → Ev f true) : Ev (fun k => (g k 1048576).bind fun t => if t < 0 then some true else f k) true := by
  refine Ev.bind (hg.2 1048576 room_all) ?_
  by_cases h0 : w ≤ 1048576
  · rw [szOut_pos h0]; exact ev_neg (by omega) (h h0)
  · rw [szOut_neg (by omega)]; exact ev_pos (by omega) (Ev.now _)
/-- The weight of a list of strings. -/
def w_StringS (l : List ByteArray) : Int := wList (fun s => (s.size : Int)) l
theorem w_StringS_nonneg (l : List ByteArray) : 0 ≤ w_StringS l := wList_nonneg fun x _ => by omega
theorem w_StringS_len (l : List ByteArray) : (l.length : Int) ≤ w_StringS l := wList_len fun x _ => by omega
theorem w_StringS_mem {l : List ByteArray} {x : ByteArray} (hx : x ∈ l) : (x.size : Int) ≤ w_StringS l := wList_mem (w := fun s : ByteArray => (s.size : Int)) (fun x _ => by omega) hx

end Go.Proofs.YtgfaphlpkjikkaaDoor.U
end

section
namespace Go.Proofs.YtgfaphlpkjikkaaDoor.U
open Go Go.RowKit Go.Proofs.YtgfaphlpkjikkaaDoorW.PrintWords Go.Proofs.YtgfaphlpkjikkaaDoorW.PrintMore Go.Proofs.YtgfaphlpkjikkaaDoor.G
set_option linter.unusedVariables false
set_option linter.unusedSimpArgs false

/-- A sign's number. -/
def dg (c : UInt8) : Nat := (idx sig c).toNat
/-- One more digit: the last four digits as a number. -/
def nx (n : Nat) (c : UInt8) : Nat := n * 64 % 16777216 + dg c
/-- The bytes that the signs at a text's head make: n the last four digits, m how many there were. -/
def dec64 : Nat → Nat → B → B → B
  | _, _, acc, [] => acc
  | n, m, acc, c :: l => if idx sig c < 0 then acc else dec64 (nx n c) (m + 1) (if (m + 1) % 4 = 1 then acc else acc ++ [UInt8.ofNat (nx n c / 2 ^ (2 * (3 - m % 4)) % 256)]) l
/-- What both answer at the end. -/
def fin64 (s : ByteArray) (out : B) : ByteArray × Bool := if b64 out = L s then (S out, true) else (S [], false)
theorem dg_lt (c : UInt8) : dg c < 64 := by
  have h := idx_lt sig c
  have e : sig.length = 64 := rfl
  unfold dg; omega
theorem nx_lt (n : Nat) (c : UInt8) : nx n c < 16777216 := by have := dg_lt c; unfold nx; omega
theorem fin_ev (s : ByteArray) (out : B) {g : Nat → Option ByteArray} (h : Ev g (S (b64 out))) :
    Ev (fun k => (g k).bind fun t => if t.toList = s.toList then some (S out, true) else some (S [], false)) (fin64 s out) := by
  refine Ev.bind h ?_
  unfold fin64
  by_cases hc : b64 out = L s
  · rw [if_pos hc]; exact ev_pos (by rw [toList_S, toList_L, hc]) (Ev.now _)
  · rw [if_neg hc]; exact ev_neg (by rw [toList_S, toList_L]; exact hc) (Ev.now _)
theorem and24 (x : Int) (h0 : 0 ≤ x) (h1 : x < 4611686018427387904) : Go.bits .and .i64 x 16777215 = x % 16777216 :=
  bits_mask .i64 62 (by decide) wrap62 24 (by decide) x h0 (by have : (2 : Int) ^ 62 = 4611686018427387904 := by decide
                                                               omega)
theorem spec_num (n : Nat) (c : UInt8) (hn : n < 16777216) (hc : 0 ≤ idx sig c) : wrap64 (Go.bits .and .i64 (wrap64 ((n : Int) * 64)) 16777215 + idx sig c) = (nx n c : Int) := by
  have := dg_lt c
  have e : idx sig c = (dg c : Int) := by unfold dg; omega
  rw [w64 (n := (n : Int) * 64) (by omega) (by omega), and24 _ (by omega) (by omega), e, w64 (by omega) (by omega)]
  unfold nx; omega
theorem shr_nat (n j : Nat) (hj : j ≤ 64) : shr .i64 (n : Int) (j : Int) = ((n / 2 ^ j : Nat) : Int) := by
  unfold shr
  have e : min ((j : Nat) : Int).toNat IntKind.i64.bits = j := by rw [show IntKind.i64.bits = 64 from rfl]; omega
  rw [e]; push_cast; rfl

theorem tm_eq (m : Nat) : Int.tmod (m : Int) 4 = ((m % 4 : Nat) : Int) := by rw [Int.tmod_eq_emod_of_nonneg (by omega)]; rfl
theorem sh_eq (m : Nat) (h : m ≤ 1048576) : wrap64 (2 * wrap64 (3 - Int.tmod (wrap64 (((m + 1 : Nat) : Int) - 1)) 4)) = ((2 * (3 - m % 4) : Nat) : Int) := by
  have e : wrap64 (((m + 1 : Nat) : Int) - 1) = (m : Int) := by rw [w64 (by omega) (by omega)]; omega
  rw [e, tm_eq]
  clear e
  generalize hq : m % 4 = q
  have : q < 4 := by omega
  rw [w64 (n := 3 - (q : Int)) (by omega) (by omega), w64 (by omega) (by omega)]; omega
theorem byte_app (acc : B) (x : Nat) : I acc ++ [((x : Nat) : Int) % 256] = I (acc ++ [UInt8.ofNat (x % 256)]) := by
  rw [I_append]; congr 1
  show _ = [((UInt8.ofNat _).toNat : Int)]
  rw [UInt8.toNat_ofNat']
  congr 1; omega
theorem spec_GetBase64_ev (s : ByteArray) (hs : s.size ≤ 1048576) : Ev (fun k => spec_GetBase64.f k s) (fin64 s (dec64 0 0 [] (L s))) := by
  have hsz := size_L s
  have put : ∀ out : B, out.length ≤ 1048576 → Ev (fun k => (spec_PutBase64.f k (strOfNums (I out))).bind fun t => if t.toList = s.toList then some (strOfNums (I out), true) else some ((⟨#[]⟩ : ByteArray), false)) (fin64 s out) := by
    intro out ho
    rw [str_I]
    have h := spec_PutBase64_ev (S out) (by rw [size_S]; omega)
    rw [L_S] at h
    exact fin_ev s out h
  have key : ∀ (d i n m : Nat) (acc : B), i + d = (L s).length → n < 16777216 → m ≤ i → acc.length ≤ i → Ev (fun k => spec_GetBase64.l0 k s (I acc) (n : Int) (m : Int) (i : Int)) (fin64 s (dec64 n m acc ((L s).drop i))) := by
    intro d
    induction d with
    | zero =>
      intro i n m acc hi hn hm ha
      rw [List.drop_of_length_le (by omega)]
      exact Ev.step (fun k => by rw [spec_GetBase64.l0, if_neg (by omega)]) (put acc (by omega))
    | succ d ih =>
      intro i n m acc hi hn hm ha
      have hlt : i < (L s).length := by omega
      rw [drop_at (L s) i hlt]
      have hat := spec_l01At_ev (S sig) (at_ (L s) i) (by rw [sig_size]; omega)
      rw [L_S] at hat
      unfold dec64
      have hb : bt s (i : Int) = ((at_ (L s) i).toNat : Int) := bt_nat s i
      refine Ev.step (fun k => (by rw [spec_GetBase64.l0, if_pos (by omega), spec_l01Signs.f, Option.bind_some, if_pos (by omega), hb, sig_S])) ?_
      refine Ev.bind hat ?_
      by_cases hc : idx sig (at_ (L s) i) < 0
      · rw [if_pos hc]
        exact ev_pos hc (put acc (by omega))
      · rw [if_neg hc]
        refine ev_neg hc ?_
        rw [spec_num n _ hn (Int.not_lt.1 hc), wa1 m (by omega), wa1 i (by omega), tm_eq (m + 1)]
        by_cases h1 : (m + 1) % 4 = 1
        · rw [if_pos h1]
          refine ev_pos (by omega) ?_
          exact ih (i + 1) _ _ _ (by omega) (nx_lt _ _) (by omega) (by omega)
        · rw [if_neg h1]
          refine ev_neg (by omega) ?_
          rw [sh_eq m (by omega), shr_nat _ _ (by omega)]
          refine ev_pos (by omega) (ev_pos (by rw [I_length]; omega) ?_)
          rw [byte_app]
          exact ih (i + 1) _ _ _ (by omega) (nx_lt _ _) (by omega) (by rw [List.length_append]; simp; omega)
  exact ev_use (key (L s).length 0 0 0 [] (by omega) (by omega) (by omega) (by simp)) (by rw [List.drop_zero])
end Go.Proofs.YtgfaphlpkjikkaaDoor.U
end

section
namespace Go.Proofs.YtgfaphlpkjikkaaDoor.U
open Go Go.RowKit Go.Proofs.YtgfaphlpkjikkaaDoorW.PrintWords Go.Proofs.YtgfaphlpkjikkaaDoorW.PrintMore Go.Proofs.YtgfaphlpkjikkaaDoor.G
set_option linter.unusedVariables false
set_option linter.unusedSimpArgs false

/-- A sign of base64. -/
def ok64 (c : UInt8) : Bool := decide (0 ≤ idx sig c)
/-- What is encoded is signs and then at most two '='. -/
theorem sign_ok (n m k : Nat) (h : ¬ m < k) : ok64 (sign n m k) = true := by
  unfold sign
  rw [if_neg h]
  have hlt : n / 2 ^ (18 - 6 * k) % 64 < 64 := Nat.mod_lt _ (by decide)
  generalize n / 2 ^ (18 - 6 * k) % 64 = j at *
  have : ∀ j : Fin 64, ok64 (at_ sig j.1) = true := by decide +kernel
  exact this ⟨j, hlt⟩
theorem b64_form : ∀ (d : Nat) (l : B), l.length ≤ d → ∃ v k, b64 l = v ++ List.replicate k 61 ∧ v.all ok64 = true := by
  intro d
  induction d with
  | zero =>
    intro l hl
    have : l = [] := List.eq_nil_of_length_eq_zero (by omega)
    subst this
    exact ⟨[], 0, by rw [b64_nil]; rfl, rfl⟩
  | succ d ih =>
    intro l hl
    by_cases h0 : 0 < l.length
    · rw [b64_step l h0]
      by_cases h3 : 3 ≤ l.length
      · obtain ⟨v, k, e, hv⟩ := ih (l.drop 3) (by rw [List.length_drop]; omega)
        refine ⟨four (val l) (min 3 l.length) ++ v, k, by rw [e, List.append_assoc], ?_⟩
        rw [Nat.min_eq_left h3, List.all_append, hv, Bool.and_true]
        unfold four
        simp [sign_ok]
      · have hd : l.drop 3 = [] := List.drop_eq_nil_of_le (by omega)
        rw [hd, b64_nil, List.append_nil, Nat.min_eq_right (by omega)]
        by_cases h1 : l.length = 1
        · rw [h1]
          refine ⟨[sign (val l) 1 0, sign (val l) 1 1], 2, ?_, by simp [sign_ok]⟩
          unfold four
          rw [show sign (val l) 1 2 = 61 from if_pos (by decide), show sign (val l) 1 3 = 61 from if_pos (by decide)]; rfl
        · have h2 : l.length = 2 := by omega
          rw [h2]
          refine ⟨[sign (val l) 2 0, sign (val l) 2 1, sign (val l) 2 2], 1, ?_, by simp [sign_ok]⟩
          unfold four
          rw [show sign (val l) 2 3 = 61 from if_pos (by decide)]; rfl
    · have : l = [] := List.eq_nil_of_length_eq_zero (by omega)
      subst this
      exact ⟨[], 0, by rw [b64_nil]; rfl, rfl⟩
/-- A text without its last '='. -/
def trim64 (l : B) : B := (l.reverse.dropWhile (· == 61)).reverse
theorem trim64_split (l : B) : ∃ k, l = trim64 l ++ List.replicate k 61 := by
  have h := List.takeWhile_append_dropWhile (p := (· == (61 : UInt8))) (l := l.reverse)
  have h2 := congrArg List.reverse h
  rw [List.reverse_append, List.reverse_reverse] at h2
  refine ⟨(l.reverse.takeWhile (· == 61)).length, ?_⟩
  have e : (l.reverse.takeWhile (· == 61)).reverse = List.replicate (l.reverse.takeWhile (· == 61)).length 61 := by
    rw [List.eq_replicate_iff]
    refine ⟨by simp, fun b hb => ?_⟩
    have := List.all_eq_true.1 List.all_takeWhile b (List.mem_reverse.1 hb)
    simpa using this
  rw [← e]; unfold trim64; exact h2.symm
theorem dropWhile_rep (k : Nat) (l : B) : (List.replicate k (61 : UInt8) ++ l).dropWhile (· == 61) = l.dropWhile (· == 61) := by
  induction k with
  | zero => rfl
  | succ k ih => rw [List.replicate_succ, List.cons_append, List.dropWhile_cons_of_pos (by simp), ih]
theorem trim64_b64 (l : B) : (trim64 (b64 l)).all ok64 = true := by
  obtain ⟨v, k, e, hv⟩ := b64_form l.length l (Nat.le_refl _)
  rw [e]
  unfold trim64
  rw [List.reverse_append, List.reverse_replicate, dropWhile_rep, List.all_reverse]
  rw [List.all_eq_true] at hv ⊢
  intro x hx
  exact hv x (List.mem_reverse.1 ((List.dropWhile_sublist _).mem hx))
/-- The decoder stops at what is no sign. -/
theorem dec64_app : ∀ (t r : B) (n m : Nat) (acc : B), t.all ok64 = true → (∀ c r', r = c :: r' → idx sig c < 0) → dec64 n m acc (t ++ r) = dec64 n m acc t := by
  intro t
  induction t with
  | nil =>
    intro r n m acc _ hr
    cases r with
    | nil => rfl
    | cons c r' => rw [List.nil_append]; unfold dec64; rw [if_pos (hr c r' rfl)]
  | cons x t ih =>
    intro r n m acc ht hr
    rw [List.all_cons, Bool.and_eq_true] at ht
    rw [List.cons_append]
    unfold dec64
    have hx : ¬ idx sig x < 0 := by have := ht.1; unfold ok64 at this; simpa using this
    rw [if_neg hx, if_neg hx, ih r _ _ _ ht.2 hr]

theorem or64 (x y : Int) (h0 : 0 ≤ x) (h1 : x < 16777216) (hy0 : 0 ≤ y) (hy1 : y < 64) : Go.bits .or .i64 (x * 64) y = x * 64 + y := by
  have e62 : (2 : Int) ^ 62 = 4611686018427387904 := by decide
  have e6 : (2 : Int) ^ 6 = 64 := by decide
  exact bits_join .i64 62 (by decide) wrap62 6 _ _ (by omega) (by rw [e6]; omega) (by rw [e62]; omega) hy0 (by rw [e6]; omega) (by rw [e62]; omega)
theorem or_num (x : Nat) (c : UInt8) (hx : x < 64) (hc : 0 ≤ idx sig c) : Go.bits .or .i64 (wrap64 ((x : Int) * 64)) (idx sig c) = ((x * 64 + dg c : Nat) : Int) := by
  have := dg_lt c
  have e : idx sig c = (dg c : Int) := by unfold dg; omega
  rw [w64 (n := (x : Int) * 64) (by omega) (by omega), e, or64 _ _ (by omega) (by omega) (by omega) (by omega)]; omega
theorem mask4 (x : Nat) (h : x < 65536) : Go.bits .and .i64 (x : Int) (wrap64 (shl .i64 1 (4 : Nat) - 1)) = ((x % 16 : Nat) : Int) := by
  have e : wrap64 (shl .i64 1 (4 : Nat) - 1) = 15 := by decide +kernel
  have e62 : (2 : Int) ^ 62 = 4611686018427387904 := by decide
  rw [e]
  have := bits_mask .i64 62 (by decide) wrap62 4 (by decide) (x : Int) (by omega) (by rw [e62]; omega)
  exact this.trans (by show (x : Int) % 16 = _; omega)
theorem mask2 (x : Nat) (h : x < 65536) : Go.bits .and .i64 (x : Int) (wrap64 (shl .i64 1 (2 : Nat) - 1)) = ((x % 4 : Nat) : Int) := by
  have e : wrap64 (shl .i64 1 (2 : Nat) - 1) = 3 := by decide +kernel
  have e62 : (2 : Int) ^ 62 = 4611686018427387904 := by decide
  rw [e]
  have := bits_mask .i64 62 (by decide) wrap62 2 (by decide) (x : Int) (by omega) (by rw [e62]; omega)
  exact this.trans (by show (x : Int) % 4 = _; omega)
theorem mask0 (x : Nat) (h : x < 65536) : Go.bits .and .i64 (x : Int) (wrap64 (shl .i64 1 (0 : Nat) - 1)) = ((0 : Nat) : Int) := by
  have e : wrap64 (shl .i64 1 (0 : Nat) - 1) = 0 := by decide +kernel
  have e62 : (2 : Int) ^ 62 = 4611686018427387904 := by decide
  rw [e]
  have := bits_mask .i64 62 (by decide) wrap62 0 (by decide) (x : Int) (by omega) (by rw [e62]; omega)
  exact this.trans (by show (x : Int) % 1 = _; omega)
theorem impl_GetBase64_l (s : ByteArray) (hs : s.size ≤ 1048576) (t r : B) (ht : L s = t ++ r) : ∀ (d i n m x h : Nat) (acc : B), i + d = t.length → n < 16777216 → m ≤ i → acc.length ≤ i → x = n % 2 ^ h → h = 6 * m % 8 →
    Ev (fun k => impl_GetBase64.l0 k s (I acc) (x : Int) (h : Int) (t.length : Int) (i : Int)) (if (t.drop i).all ok64 = true then fin64 s (dec64 n m acc (t.drop i)) else (S [], false)) := by
  have hsz : s.size = t.length + r.length := by rw [size_L, ht, List.length_append]
  have put : ∀ out : B, out.length ≤ 1048576 → Ev (fun k => (impl_PutBase64.f k (strOfNums (I out))).bind fun t => if t.toList = s.toList then some (strOfNums (I out), true) else some ((⟨#[]⟩ : ByteArray), false)) (fin64 s out) := by
    intro out ho
    rw [str_I]
    have h := impl_PutBase64_ev (S out) (by rw [size_S]; omega)
    rw [L_S] at h
    exact fin_ev s out h
  intro d
  induction d with
  | zero =>
    intro i n m x h acc hi hn hm ha _ _
    rw [List.drop_of_length_le (by omega), if_pos (show (List.all ([] : B) ok64) = true from rfl)]
    exact Ev.step (fun k => by rw [impl_GetBase64.l0, if_neg (by omega)]) (put acc (by omega))
  | succ d ih =>
    intro i n m x h acc hi hn hm ha hx hh
    have hlt : i < t.length := by omega
    rw [drop_at t i hlt]
    have hb : bt s (i : Int) = ((at_ t i).toNat : Int) := by
      rw [bt_nat, ht]; congr 2
      simp only [at_, List.getD_eq_getElem?_getD, List.getElem?_append_left hlt]
    have hat : strings_IndexByte.f (S sig) ((at_ t i).toNat : Int) = some (idx sig (at_ t i)) := by
      have := strings_IndexByte_eq (S sig) (at_ t i); rwa [L_S] at this
    refine Ev.step (fun k => (by rw [impl_GetBase64.l0, if_pos (by omega), if_pos (by omega), if_pos (by omega), hb, sig_S, hat, Option.bind_some])) ?_
    by_cases hc : idx sig (at_ t i) < 0
    · have hk : ok64 (at_ t i) = false := by unfold ok64; simpa using hc
      rw [List.all_cons, hk, Bool.false_and, if_neg (by decide)]
      exact ev_pos hc (Ev.now _)
    · have hk : ok64 (at_ t i) = true := by unfold ok64; simpa using hc
      rw [List.all_cons, hk, Bool.true_and]
      refine ev_neg hc ?_
      unfold dec64
      rw [if_neg hc]
      have hq : m % 4 = 0 ∨ m % 4 = 1 ∨ m % 4 = 2 ∨ m % 4 = 3 := by omega
      clear hat hb
      rcases hq with q | q | q | q
      · have e1 : 6 * m % 8 = 0 := by omega
        have e2 : 6 * (m + 1) % 8 = 6 := by omega
        have e3 : (m + 1) % 4 = 1 := by omega
        rw [e1] at hh
        subst hh
        have w1 : wrap64 (((0 : Nat) : Int) + 6) = ((6 : Nat) : Int) := by decide +kernel
        have hx0 : x = 0 := by rw [hx, Nat.pow_zero, Nat.mod_one]
        rw [or_num x _ (by omega) (Int.not_lt.1 hc), w1, wa1 i (by omega)]
        refine ev_neg (by decide) ?_
        rw [if_pos e3]
        refine ih (i + 1) _ (m + 1) _ _ _ (by omega) (nx_lt _ _) (by omega) (by omega) ?_ e2.symm
        have := dg_lt (at_ t i); unfold nx; generalize dg (at_ t i) = dd at *; rw [hx0]; simp only [Nat.reducePow]; omega
      · have e1 : 6 * m % 8 = 6 := by omega
        have e2 : 6 * (m + 1) % 8 = 4 := by omega
        have e3 : (m + 1) % 4 ≠ 1 := by omega
        have e4 : 2 * (3 - m % 4) = 4 := by omega
        rw [e1] at hh
        subst hh
        have w1 : wrap64 (((6 : Nat) : Int) + 6) = 12 := by decide +kernel
        have w2 : wrap64 (12 - 8) = ((4 : Nat) : Int) := by decide +kernel
        have hxl : x < 64 := by rw [hx]; exact Nat.mod_lt _ (by decide)
        rw [or_num x _ (by omega) (Int.not_lt.1 hc), w1, w2, wa1 i (by omega), shr_nat _ _ (by omega), mask4 _ (by have := dg_lt (at_ t i); omega)]
        refine ev_pos (by decide) (ev_pos (by omega) (ev_pos (by rw [I_length]; omega) ?_))
        rw [byte_app, show (x * 64 + dg (at_ t i)) / 2 ^ 4 % 256 = nx n (at_ t i) / 2 ^ (2 * (3 - m % 4)) % 256 from by
          rw [e4, hx]; have := dg_lt (at_ t i); unfold nx; generalize dg (at_ t i) = dd at *; simp only [Nat.reducePow]; omega, if_neg e3]
        refine ih (i + 1) _ (m + 1) _ _ _ (by omega) (nx_lt _ _) (by omega) (by rw [List.length_append]; simp; omega) ?_ e2.symm
        have := dg_lt (at_ t i); unfold nx; generalize dg (at_ t i) = dd at *; rw [hx]; simp only [Nat.reducePow]; omega
      · have e1 : 6 * m % 8 = 4 := by omega
        have e2 : 6 * (m + 1) % 8 = 2 := by omega
        have e3 : (m + 1) % 4 ≠ 1 := by omega
        have e4 : 2 * (3 - m % 4) = 2 := by omega
        rw [e1] at hh
        subst hh
        have w1 : wrap64 (((4 : Nat) : Int) + 6) = 10 := by decide +kernel
        have w2 : wrap64 (10 - 8) = ((2 : Nat) : Int) := by decide +kernel
        have hxl : x < 16 := by rw [hx]; exact Nat.mod_lt _ (by decide)
        rw [or_num x _ (by omega) (Int.not_lt.1 hc), w1, w2, wa1 i (by omega), shr_nat _ _ (by omega), mask2 _ (by have := dg_lt (at_ t i); omega)]
        refine ev_pos (by decide) (ev_pos (by omega) (ev_pos (by rw [I_length]; omega) ?_))
        rw [byte_app, show (x * 64 + dg (at_ t i)) / 2 ^ 2 % 256 = nx n (at_ t i) / 2 ^ (2 * (3 - m % 4)) % 256 from by
          rw [e4, hx]; have := dg_lt (at_ t i); unfold nx; generalize dg (at_ t i) = dd at *; simp only [Nat.reducePow]; omega, if_neg e3]
        refine ih (i + 1) _ (m + 1) _ _ _ (by omega) (nx_lt _ _) (by omega) (by rw [List.length_append]; simp; omega) ?_ e2.symm
        have := dg_lt (at_ t i); unfold nx; generalize dg (at_ t i) = dd at *; rw [hx]; simp only [Nat.reducePow]; omega
      · have e1 : 6 * m % 8 = 2 := by omega
        have e2 : 6 * (m + 1) % 8 = 0 := by omega
        have e3 : (m + 1) % 4 ≠ 1 := by omega
        have e4 : 2 * (3 - m % 4) = 0 := by omega
        rw [e1] at hh
        subst hh
        have w1 : wrap64 (((2 : Nat) : Int) + 6) = 8 := by decide +kernel
        have w2 : wrap64 (8 - 8) = ((0 : Nat) : Int) := by decide +kernel
        have hxl : x < 4 := by rw [hx]; exact Nat.mod_lt _ (by decide)
        rw [or_num x _ (by omega) (Int.not_lt.1 hc), w1, w2, wa1 i (by omega), shr_nat _ _ (by omega), mask0 _ (by have := dg_lt (at_ t i); omega)]
        refine ev_pos (by decide) (ev_pos (by omega) (ev_pos (by rw [I_length]; omega) ?_))
        rw [byte_app, show (x * 64 + dg (at_ t i)) / 2 ^ 0 % 256 = nx n (at_ t i) / 2 ^ (2 * (3 - m % 4)) % 256 from by
          rw [e4, hx]; have := dg_lt (at_ t i); unfold nx; generalize dg (at_ t i) = dd at *; simp only [Nat.reducePow]; omega, if_neg e3]
        refine ih (i + 1) _ (m + 1) _ _ _ (by omega) (nx_lt _ _) (by omega) (by rw [List.length_append]; simp; omega) ?_ e2.symm
        rw [Nat.pow_zero, Nat.mod_one]
theorem impl_GetBase64_ev (s : ByteArray) (hs : s.size ≤ 1048576) : Ev (fun k => impl_GetBase64.f k s) (fin64 s (dec64 0 0 [] (L s))) := by
  obtain ⟨k, hk⟩ := trim64_split (L s)
  have h2 : strings_TrimRight.f s ⟨#[61]⟩ = some (S (trim64 (L s))) := by
    unfold strings_TrimRight.f Lib.trimRightB
    rw [dif_pos (show (⟨#[61]⟩ : ByteArray).size = 1 from rfl), if_pos ⟨by decide, by omega⟩]
    rfl
  unfold impl_GetBase64.f
  refine ev_const h2 ?_
  rw [size_S]
  refine ev_use (impl_GetBase64_l s hs (trim64 (L s)) _ hk (trim64 (L s)).length 0 0 0 0 0 [] (by omega) (by omega) (by omega) (by simp) rfl rfl) ?_
  rw [List.drop_zero]
  by_cases hv : (trim64 (L s)).all ok64 = true
  · rw [if_pos hv]
    have := dec64_app (trim64 (L s)) (List.replicate k 61) 0 0 [] hv (fun c r' e => by
      cases k with
      | zero => simp at e
      | succ k => rw [List.replicate_succ] at e; injection e with e _; rw [← e]; decide +kernel)
    rw [← hk] at this
    rw [this]
  · rw [if_neg hv]
    unfold fin64
    rw [if_neg]
    intro e
    rw [← e] at hv
    exact hv (trim64_b64 _)
end Go.Proofs.YtgfaphlpkjikkaaDoor.U
end

section
namespace Go.Proofs.YtgfaphlpkjikkaaDoor.U
open Go Go.RowKit Go.Proofs.YtgfaphlpkjikkaaDoorW.PrintWords Go.Proofs.YtgfaphlpkjikkaaDoor.G

theorem spec_l01In_eq (a b c : Int) : spec_l01In.f a b c = some (decide (b ≤ a ∧ a ≤ c)) := by
  unfold spec_l01In.f
  by_cases h : a ≥ b
  · rw [if_pos h]; by_cases h2 : a ≤ c <;> simp [h2] <;> omega
  · rw [if_neg h]; simp; omega
theorem impl_within_eq (a b c : Int) : impl_within.f a b c = some (decide (b ≤ a ∧ a ≤ c)) := by
  unfold impl_within.f
  by_cases h : b ≤ a
  · rw [if_pos h]; by_cases h2 : a ≤ c <;> simp [h2, h]
  · rw [if_neg h]; simp [h]

end Go.Proofs.YtgfaphlpkjikkaaDoor.U
end

section
namespace Go.Proofs.YtgfaphlpkjikkaaDoor.U
open Go Go.RowKit Go.Proofs.YtgfaphlpkjikkaaDoorW.PrintWords Go.Proofs.YtgfaphlpkjikkaaDoor.G
set_option linter.unusedVariables false
set_option linter.unusedSimpArgs false

def hexD : B := [48, 49, 50, 51, 52, 53, 54, 55, 56, 57, 65, 66, 67, 68, 69, 70]
def safe (c : UInt8) : Bool := decide (97 ≤ c.toNat ∧ c.toNat ≤ 122) || decide (65 ≤ c.toNat ∧ c.toNat ≤ 90) || decide (48 ≤ c.toNat ∧ c.toNat ≤ 57) || c == 46 || c == 95 || c == 45 || c == 126
def pct1 (c : UInt8) : B := if safe c then [c] else [37, at_ hexD (c.toNat / 16), at_ hexD (c.toNat % 16)]
def pct (l : B) : B := l.flatMap pct1
theorem pct_cons (c : UInt8) (l : B) : pct (c :: l) = pct1 c ++ pct l := rfl
theorem pct1_len (c : UInt8) : (pct1 c).length ≤ 3 := by unfold pct1; split <;> simp
theorem pct_len (l : B) : (pct l).length ≤ 3 * l.length := by
  induction l with
  | nil => simp [pct]
  | cons c l ih => have := pct1_len c; rw [pct_cons, List.length_append, List.length_cons]; omega
theorem spec_safe (c : UInt8) : spec_l01Safe.f (c.toNat : Int) = some (safe c) := by
  revert c
  refine all_bytes ?_
  decide +kernel
/-- The program's own question of a byte. -/
theorem impl_safe {α : Type} (c : UInt8) (J : Bool → Option α) : ((impl_isLetter.f (c.toNat : Int)).bind fun t245 => if t245 = true then J true else (impl_isDigit.f (c.toNat : Int)).bind fun t246 => if t246 = true then J true else if (c.toNat : Int) = 46 then J true else if (c.toNat : Int) = 95 then J true else if (c.toNat : Int) = 45 then J true else J ((c.toNat : Int) == 126)) = J (safe c) := by
  have h : ∀ c : UInt8, ∃ a b, impl_isLetter.f (c.toNat : Int) = some a ∧ impl_isDigit.f (c.toNat : Int) = some b ∧ safe c = (a || b || decide ((c.toNat : Int) = 46) || decide ((c.toNat : Int) = 95) || decide ((c.toNat : Int) = 45) || ((c.toNat : Int) == 126)) := by
    intro c
    have ha : impl_isLetter.f (c.toNat : Int) = some (decide (97 ≤ c.toNat ∧ c.toNat ≤ 122) || decide (65 ≤ c.toNat ∧ c.toNat ≤ 90)) := by
      revert c; refine all_bytes ?_; decide +kernel
    have hb : impl_isDigit.f (c.toNat : Int) = some (decide (48 ≤ c.toNat ∧ c.toNat ≤ 57)) := by
      revert c; refine all_bytes ?_; decide +kernel
    refine ⟨_, _, ha, hb, ?_⟩
    revert c; intro c _ _
    revert c; refine all_bytes ?_; decide +kernel
  obtain ⟨a, b, ha, hb, hs⟩ := h c
  rw [ha, hb, hs, Option.bind_some, Option.bind_some]
  cases a <;> cases b <;> simp only [Bool.true_or, Bool.false_or, if_true, if_false, Bool.false_eq_true, Bool.or_true, if_pos] <;> (repeat' split) <;> simp_all

theorem spec_PutPercent_ev (s : ByteArray) (hs : s.size ≤ 1099511627776) : Ev (fun k => spec_PutPercent.f k s) (S (pct (L s))) := by
  have hsz := size_L s
  have key : ∀ (d i : Nat) (acc : B), i + d = (L s).length → acc.length + 3 * d ≤ 4398046511104 → Ev (fun k => spec_PutPercent.l0 k s (I acc) (i : Int)) (S (acc ++ pct ((L s).drop i))) := by
    intro d
    induction d with
    | zero =>
      intro i acc hi ha
      refine Ev.step (f := fun k => some (S acc)) (fun k => by rw [spec_PutPercent.l0, if_neg (by omega), str_I]) (ev_use (Ev.now _) ?_)
      rw [List.drop_of_length_le (by omega)]; simp [pct]
    | succ d ih =>
      intro i acc hi ha
      have hlt : i < (L s).length := by omega
      rw [drop_at (L s) i hlt, pct_cons, ← List.append_assoc]
      have hb : bt s (i : Int) = ((at_ (L s) i).toNat : Int) := bt_nat s i
      have hc := byte_lt (at_ (L s) i)
      have go := ih (i + 1) (acc ++ pct1 (at_ (L s) i)) (by omega) (by have := pct1_len (at_ (L s) i); rw [List.length_append]; omega)
      refine Ev.step (fun k => ?_) go
      rw [spec_PutPercent.l0, if_pos (by omega), if_pos (by omega), hb, spec_safe, Option.bind_some, wa1 i (by omega)]
      unfold pct1
      by_cases h : safe (at_ (L s) i) = true
      · rw [if_pos h, if_pos h, if_pos (by rw [I_length]; omega), I_append]; rfl
      · have h1 : Int.tdiv ((at_ (L s) i).toNat : Int) 16 % 256 = (((at_ (L s) i).toNat / 16 : Nat) : Int) := by
          rw [Int.tdiv_eq_ediv_of_nonneg (by omega)]; omega
        have h2 : Int.tmod ((at_ (L s) i).toNat : Int) 16 = (((at_ (L s) i).toNat % 16 : Nat) : Int) := by
          rw [Int.tmod_eq_emod_of_nonneg (by omega)]; omega
        rw [if_neg h, if_neg h, h1, h2, if_pos (by omega), if_pos (by omega), if_pos (by omega), if_pos (by omega), Option.bind_some, if_pos (by rw [I_length]; simp; omega)]
        have e : I (acc ++ [37, at_ hexD ((at_ (L s) i).toNat / 16), at_ hexD ((at_ (L s) i).toNat % 16)]) = I acc ++ [37, bt (S hexD) (((at_ (L s) i).toNat / 16 : Nat) : Int), bt (S hexD) (((at_ (L s) i).toNat % 16 : Nat) : Int)] := by
          rw [I_append, bt_nat, bt_nat, L_S]; rfl
        rw [e]; rfl
  exact ev_use (key (L s).length 0 [] (by omega) (by simp; omega)) (by simp)
theorem up_hex (c : UInt8) : Lib.toUpperA (hexOf c) = [at_ hexD (c.toNat / 16), at_ hexD (c.toNat % 16)] := by
  revert c; refine all_bytes ?_; decide +kernel
theorem hex_ascii (c : UInt8) : ((hexOf c).all fun x => decide (x.toNat < 128)) = true := by
  revert c; refine all_bytes ?_; decide +kernel
theorem impl_PutPercent_ev (s : ByteArray) (hs : s.size ≤ 1099511627776) : Ev (fun k => impl_PutPercent.f k s) (S (pct (L s))) := by
  have hsz := size_L s
  have key : ∀ (d i : Nat) (acc : B), i + d = (L s).length → acc.length + 3 * d ≤ 4398046511104 → Ev (fun k => impl_PutPercent.l0 k s (S acc) (s.size : Int) (i : Int)) (S (acc ++ pct ((L s).drop i))) := by
    intro d
    induction d with
    | zero =>
      intro i acc hi ha
      refine Ev.step (f := fun k => some (S acc)) (fun k => by rw [impl_PutPercent.l0, if_neg (by omega)]) (ev_use (Ev.now _) ?_)
      rw [List.drop_of_length_le (by omega)]; simp [pct]
    | succ d ih =>
      intro i acc hi ha
      have hlt : i < (L s).length := by omega
      rw [drop_at (L s) i hlt, pct_cons, ← List.append_assoc]
      have hb : bt s (i : Int) = ((at_ (L s) i).toNat : Int) := bt_nat s i
      have go := ih (i + 1) (acc ++ pct1 (at_ (L s) i)) (by omega) (by have := pct1_len (at_ (L s) i); rw [List.length_append]; omega)
      have ex : s.extract ((i : Int)).toNat (((i + 1 : Nat) : Int)).toNat = S [at_ (L s) i] := by
        apply L_inj; rw [L_extract, L_S, Int.toNat_natCast, Int.toNat_natCast, drop_at (L s) i hlt, show i + 1 - i = 1 by omega]; rfl
      refine Ev.step (f := fun k => impl_PutPercent.j1 k s (S acc) (i : Int) (s.size : Int) (i : Int) (safe (at_ (L s) i))) (fun k => ?_) ?_
      · rw [impl_PutPercent.l0, if_pos (by omega), if_pos (by omega), if_pos (by omega), hb]
        exact impl_safe (at_ (L s) i) (fun b => impl_PutPercent.j1 k s (S acc) (i : Int) (s.size : Int) (i : Int) b)
      · unfold pct1 at go ⊢
        by_cases h : safe (at_ (L s) i) = true
        · rw [if_pos h] at go ⊢
          refine Ev.step (fun k => ?_) go
          rw [impl_PutPercent.j1, if_pos h, wa1 i (by omega), if_pos (by omega), if_pos (by omega), if_pos (by omega), ex, if_pos (by rw [size_S, size_S]; simp; omega), S_append]
        · rw [if_neg h] at go ⊢
          have hp := impl_PutHex_ev (S [at_ (L s) i]) (by rw [size_S]; simp)
          rw [L_S] at hp
          have hh : putHex [at_ (L s) i] = hexOf (at_ (L s) i) := by simp [putHex]
          rw [hh] at hp
          have hu : strings_ToUpper.f (S (hexOf (at_ (L s) i))) = some (S [at_ hexD ((at_ (L s) i).toNat / 16), at_ hexD ((at_ (L s) i).toNat % 16)]) := by
            unfold strings_ToUpper.f
            have e : (S (hexOf (at_ (L s) i))).data.toList = hexOf (at_ (L s) i) := L_S _
            rw [e, if_pos ⟨by rw [size_S]; show 2 ≤ _; omega, hex_ascii _⟩, up_hex]; rfl
          refine Ev.step (f := fun k => (impl_PutHex.f k (S [at_ (L s) i])).bind fun t247 => (strings_ToUpper.f t247).bind fun t248 => if 1 + t248.size ≤ 9223372036854775807 then (if (S acc).size + ((⟨#[37]⟩ : ByteArray) ++ t248).size ≤ 9223372036854775807 then impl_PutPercent.l0 k s (S acc ++ ((⟨#[37]⟩ : ByteArray) ++ t248)) (s.size : Int) ((i + 1 : Nat) : Int) else none) else none) (fun k => ?_) ?_
          · rw [impl_PutPercent.j1, if_neg h, wa1 i (by omega), if_pos (by omega), if_pos (by omega), if_pos (by omega), ex]
          · refine Ev.bind hp (ev_const hu ?_)
            refine ev_pos (by rw [size_S]; simp) (ev_pos (by rw [ByteArray.size_append, size_S, size_S, show (⟨#[37]⟩ : ByteArray).size = 1 from rfl]; simp; omega) ?_)
            have e2 : S acc ++ ((⟨#[37]⟩ : ByteArray) ++ S [at_ hexD ((at_ (L s) i).toNat / 16), at_ hexD ((at_ (L s) i).toNat % 16)]) = S (acc ++ [37, at_ hexD ((at_ (L s) i).toNat / 16), at_ hexD ((at_ (L s) i).toNat % 16)]) := by
              apply L_inj; simp [L_append]; rfl
            rw [e2]; exact go
  exact ev_use (key (L s).length 0 [] (by omega) (by simp; omega)) (by simp)
end Go.Proofs.YtgfaphlpkjikkaaDoor.U
end

section
namespace Go.Proofs.YtgfaphlpkjikkaaDoor.U
open Go Go.RowKit Go.Proofs.YtgfaphlpkjikkaaDoorW.PrintWords Go.Proofs.YtgfaphlpkjikkaaDoor.G
set_option linter.unusedVariables false
set_option linter.unusedSimpArgs false

/-- The text whose PutPercent is l, and whether there is one. -/
noncomputable def gpct (l : B) : B × Bool := @dite _ (∃ x, pct x = l) (Classical.propDecidable _) (fun h => (h.choose, true)) (fun _ => ([], false))
theorem gpct_no {l : B} (h : ¬ ∃ x, pct x = l) : gpct l = ([], false) := by unfold gpct; rw [dif_neg h]
/-- Whatever text has l as its PutPercent begins with acc, and the rest of it stands behind i. -/
def Known (l acc : B) (i : Nat) : Prop := ∀ x, pct x = l → ∃ y, x = acc ++ y ∧ pct y = l.drop i
theorem pct1_ne (c : UInt8) : pct1 c ≠ [] := by unfold pct1; split <;> simp
theorem pct_nil {y : B} (h : pct y = []) : y = [] := by
  cases y with
  | nil => rfl
  | cons c y => rw [pct_cons, List.append_eq_nil_iff] at h; exact absurd h.1 (pct1_ne c)
theorem gpct_end {l acc : B} {i : Nat} (hi : l.length ≤ i) (hk : Known l acc i) : gpct l = if pct acc = l then (acc, true) else ([], false) := by
  have h1 : ∀ x, pct x = l → x = acc := by
    intro x hx
    obtain ⟨y, e, hy⟩ := hk x hx
    rw [List.drop_of_length_le hi] at hy
    rw [e, pct_nil hy, List.append_nil]
  by_cases h : pct acc = l
  · rw [if_pos h]
    have hex : ∃ x, pct x = l := ⟨acc, h⟩
    unfold gpct
    rw [dif_pos hex, h1 _ hex.choose_spec]
  · rw [if_neg h]
    exact gpct_no fun ⟨x, hx⟩ => h (by rw [← h1 x hx]; exact hx)
theorem safe_pct : safe 37 = false := by decide
theorem pct_other {y r : B} {c : UInt8} (h : pct y = c :: r) (hc : c ≠ 37) : ∃ y', y = c :: y' ∧ pct y' = r := by
  cases y with
  | nil => simp [pct] at h
  | cons d y =>
    rw [pct_cons] at h
    unfold pct1 at h
    by_cases hs : safe d = true
    · rw [if_pos hs] at h
      injection h with h1 h2
      exact ⟨y, by rw [h1], h2⟩
    · rw [if_neg hs] at h
      injection h with h1 h2
      exact absurd h1.symm hc
theorem pct_sign {y r : B} (h : pct y = 37 :: r) : ∃ d y', y = d :: y' ∧ r = at_ hexD (d.toNat / 16) :: at_ hexD (d.toNat % 16) :: pct y' := by
  cases y with
  | nil => simp [pct] at h
  | cons d y =>
    rw [pct_cons] at h
    unfold pct1 at h
    by_cases hs : safe d = true
    · rw [if_pos hs] at h
      injection h with h1 h2
      rw [h1] at hs; rw [safe_pct] at hs; cases hs
    · rw [if_neg hs] at h
      injection h with h1 h2
      exact ⟨d, y, rfl, h2.symm⟩
theorem pairs_hexD (d : UInt8) : pairs hexD [] [at_ hexD (d.toNat / 16), at_ hexD (d.toNat % 16)] = ([d], true) := by
  revert d; refine all_bytes ?_; decide +kernel
theorem pairs_two (dg : B) (a b : UInt8) : (pairs dg [] [a, b]).1.length ≤ 1 := by
  unfold pairs
  split
  · simp
  · unfold pairs; simp
theorem known_other {l acc : B} {i : Nat} (hi : i < l.length) (hc : at_ l i ≠ 37) (hk : Known l acc i) : Known l (acc ++ [at_ l i]) (i + 1) := by
  intro x hx
  obtain ⟨y, e, hy⟩ := hk x hx
  rw [drop_at l i hi] at hy
  obtain ⟨y', e2, h2⟩ := pct_other hy hc
  exact ⟨y', by rw [e, e2, List.append_assoc]; rfl, h2⟩
theorem known_sign {l acc o : B} {i : Nat} (hi : i + 2 < l.length) (hc : at_ l i = 37) (hk : Known l acc i) (ho : ∀ d, at_ l (i + 1) = at_ hexD (d.toNat / 16) → at_ l (i + 2) = at_ hexD (d.toNat % 16) → o = [d]) : Known l (acc ++ o) (i + 3) := by
  intro x hx
  obtain ⟨y, e, hy⟩ := hk x hx
  rw [drop_at l i (by omega), drop_at l (i + 1) (by omega), drop_at l (i + 2) (by omega), hc] at hy
  obtain ⟨d, y', e2, h2⟩ := pct_sign hy
  injection h2 with a1 h2
  injection h2 with a2 h2
  refine ⟨y', ?_, h2.symm⟩
  rw [e, e2, ho d a1 a2, List.append_assoc]; rfl
theorem no_sign {l acc : B} {i : Nat} (hi : i < l.length) (hc : at_ l i = 37) (hk : Known l acc i) (h : ∀ d : UInt8, ¬ (i + 2 < l.length ∧ at_ l (i + 1) = at_ hexD (d.toNat / 16) ∧ at_ l (i + 2) = at_ hexD (d.toNat % 16))) : ¬ ∃ x, pct x = l := by
  rintro ⟨x, hx⟩
  obtain ⟨y, e, hy⟩ := hk x hx
  rw [drop_at l i hi, hc] at hy
  obtain ⟨d, y', e2, h2⟩ := pct_sign hy
  have hl : i + 2 < l.length := by
    have := congrArg List.length h2
    simp at this; omega
  rw [drop_at l (i + 1) (by omega), drop_at l (i + 2) hl] at h2
  injection h2 with a1 h2
  injection h2 with a2 h2
  exact h d ⟨hl, a1, a2⟩
theorem hexD_S : (⟨#[48, 49, 50, 51, 52, 53, 54, 55, 56, 57, 65, 66, 67, 68, 69, 70]⟩ : ByteArray) = S hexD := rfl
theorem two_at (s : ByteArray) (i : Nat) (hi : i + 2 < (L s).length) : s.extract (i + 1) (i + 3) = S [at_ (L s) (i + 1), at_ (L s) (i + 2)] := by
  apply L_inj
  rw [L_extract, L_S, show i + 3 - (i + 1) = 2 by omega, drop_at (L s) (i + 1) (by omega), drop_at (L s) (i + 2) (by omega)]; rfl
theorem one_at (s : ByteArray) (i : Nat) (hi : i < (L s).length) : s.extract i (i + 1) = S [at_ (L s) i] := by
  apply L_inj
  rw [L_extract, L_S, show i + 1 - i = 1 by omega, drop_at (L s) i hi]; rfl
theorem is37 (c : UInt8) : ((c.toNat : Int) = 37) ↔ c = 37 := byte_is c 37 37 rfl
theorem wi3 (i : Nat) (h : i ≤ 1099511627776) : wrap64 (wrap64 ((i : Int) + 2) + 1) = ((i + 3 : Nat) : Int) := by rw [wa2 i (by omega), wa1 (i + 2) (by omega)]
theorem spec_GetPercent_ev (s : ByteArray) (hs : s.size ≤ 1048576) : Ev (fun k => spec_GetPercent.f k s) (S (gpct (L s)).1, (gpct (L s)).2) := by
  have hsz := size_L s
  have key : ∀ (d i : Nat) (acc : B), i + d = (L s).length → acc.length ≤ i → Known (L s) acc i → Ev (fun k => spec_GetPercent.l0 k s (S acc) (i : Int)) (S (gpct (L s)).1, (gpct (L s)).2) := by
    intro d
    induction d using Nat.strongRecOn with
    | _ d ih =>
    intro i acc hi ha hk
    by_cases hlt : i < (L s).length
    · have hb : bt s (i : Int) = ((at_ (L s) i).toNat : Int) := bt_nat s i
      by_cases hc : at_ (L s) i = 37
      · by_cases h3 : i + 2 < (L s).length
        · have hp := spec_l01Pairs_ev (S [at_ (L s) (i + 1), at_ (L s) (i + 2)]) (S hexD) (by rw [size_S]; simp) rfl
          rw [L_S, L_S] at hp
          refine Ev.step (f := fun k => (spec_l01Pairs.f k (S [at_ (L s) (i + 1), at_ (L s) (i + 2)]) (S hexD)).bind fun bt => if bt.2 = true then (if (S acc).size + bt.1.size ≤ 9223372036854775807 then spec_GetPercent.l0 k s (S acc ++ bt.1) ((i + 3 : Nat) : Int) else none) else some ((⟨#[]⟩ : ByteArray), false)) (fun k => ?_) (Ev.bind hp ?_)
          · rw [spec_GetPercent.l0, if_pos (by omega), if_pos (by omega), hb, if_pos ((is37 _).2 hc), w64 (n := (s.size : Int) - 3) (by omega) (by omega), if_neg (by omega), wi3 i (by omega), wa1 i (by omega), wa3 i (by omega), if_pos (by omega), if_pos (by omega), if_pos (by omega), Int.toNat_natCast, Int.toNat_natCast, two_at s i h3, hexD_S]
          · have hl := pairs_two hexD (at_ (L s) (i + 1)) (at_ (L s) (i + 2))
            by_cases ho : (pairs hexD [] [at_ (L s) (i + 1), at_ (L s) (i + 2)]).2 = true
            · refine ev_pos ho (ev_pos (by rw [size_S, size_S]; omega) ?_)
              rw [S_append]
              refine ih (d - 3) (by omega) (i + 3) _ (by omega) (by rw [List.length_append]; omega) (known_sign h3 hc hk fun dd a1 a2 => ?_)
              rw [a1, a2, pairs_hexD]
            · refine ev_neg ho (ev_use (Ev.now _) ?_)
              rw [gpct_no (no_sign hlt hc hk fun dd ⟨_, a1, a2⟩ => ho (by rw [a1, a2, pairs_hexD]))]; rfl
        · refine Ev.step (f := fun k => some ((⟨#[]⟩ : ByteArray), false)) (fun k => ?_) (ev_use (Ev.now _) ?_)
          · rw [spec_GetPercent.l0, if_pos (by omega), if_pos (by omega), hb, if_pos ((is37 _).2 hc), w64 (n := (s.size : Int) - 3) (by omega) (by omega), if_pos (by omega)]
          · rw [gpct_no (no_sign hlt hc hk fun dd h => h3 h.1)]; rfl
      · refine Ev.step (f := fun k => spec_GetPercent.l0 k s (S (acc ++ [at_ (L s) i])) ((i + 1 : Nat) : Int)) (fun k => ?_) (ih (d - 1) (by omega) (i + 1) _ (by omega) (by rw [List.length_append]; simp; omega) (known_other hlt hc hk))
        rw [spec_GetPercent.l0, if_pos (by omega), if_pos (by omega), hb, if_neg (fun h => hc ((is37 _).1 h)), wa1 i (by omega), if_pos (by omega), if_pos (by omega), Int.toNat_natCast, Int.toNat_natCast, one_at s i hlt, if_pos (by rw [size_S, size_S]; simp; omega), S_append]
    · have hp := spec_PutPercent_ev (S acc) (by rw [size_S]; omega)
      rw [L_S] at hp
      refine Ev.step (f := fun k => (spec_PutPercent.f k (S acc)).bind fun t => if t.toList = s.toList then some (S acc, true) else some ((⟨#[]⟩ : ByteArray), false)) (fun k => by rw [spec_GetPercent.l0, if_neg (by omega)]) (Ev.bind hp ?_)
      rw [toList_S, toList_L, gpct_end (by omega) hk]
      by_cases h : pct acc = L s
      · exact ev_use (ev_pos h (Ev.now _)) (by rw [if_pos h])
      · exact ev_use (ev_neg h (Ev.now _)) (by rw [if_neg h]; rfl)
  exact key (L s).length 0 [] (by omega) (by simp) (fun x hx => ⟨x, rfl, hx⟩)

theorem encode_le4 (z : Int) : (Lib.encodeRune z).length ≤ 4 := by
  unfold Lib.encodeRune Lib.encodeRuneZ
  rw [List.length_map]
  repeat' split
  all_goals simp
theorem mapGo_len (f : Int → Int) : ∀ (n : Nat) (l : B), (Lib.mapGoD f n l).length ≤ 4 * n
  | 0, l => by simp [Lib.mapGoD]
  | n + 1, l => by
    unfold Lib.mapGoD
    split
    · simp
    · rw [List.length_append]
      have h1 := mapGo_len f n (l.drop (Lib.decodeL l).2)
      have h2 : (if 0 ≤ f (Lib.decodeL l).1 then Lib.encodeRune (f (Lib.decodeL l).1) else []).length ≤ 4 := by
        split
        · exact encode_le4 _
        · simp
      omega
theorem lower_len (a b : UInt8) : (Lib.toLowerD [a, b]).length ≤ 8 := mapGo_len Lib.toLowerU 2 [a, b]
theorem lower_hex (d : UInt8) : getHex (Lib.toLowerD [at_ hexD (d.toNat / 16), at_ hexD (d.toNat % 16)]) = ([d], true) := by
  rw [Lib.toLowerD_ascii]
  · revert d; refine all_bytes ?_; decide +kernel
  · have : ∀ d : UInt8, ([at_ hexD (d.toNat / 16), at_ hexD (d.toNat % 16)].all fun x => decide (x.toNat < 128)) = true := by refine all_bytes ?_; decide +kernel
    intro x hx
    simpa using List.all_eq_true.1 (this d) x hx
theorem pairs_len (dg : B) : ∀ (n : Nat) (l acc : B), l.length ≤ n → (pairs dg acc l).1.length ≤ acc.length + l.length := by
  intro n
  induction n using Nat.strongRecOn with
  | _ n ih =>
  intro l acc hl
  match l, hl with
  | [], _ => unfold pairs; simp
  | [_], _ => unfold pairs; simp
  | a :: b :: r, hl =>
    unfold pairs
    split
    · simp
    · have := ih (n - 2) (by simp at hl; omega) r (acc ++ [UInt8.ofNat (16 * (idx dg a).toNat + (idx dg b).toNat)]) (by simp at hl; omega)
      rw [List.length_append] at this
      simp at *; omega
theorem getHex_len (l : B) : (getHex l).1.length ≤ l.length := by
  unfold getHex
  split
  · have := pairs_len hexd l.length l [] (Nat.le_refl _); simpa using this
  · simp
theorem impl_GetPercent_ev (s : ByteArray) (hs : s.size ≤ 1048576) : Ev (fun k => impl_GetPercent.f k s) (S (gpct (L s)).1, (gpct (L s)).2) := by
  have hsz := size_L s
  have key : ∀ (d i : Nat) (acc : B), i + d = (L s).length → acc.length ≤ 8 * i → Known (L s) acc i → Ev (fun k => impl_GetPercent.l0 k s (S acc) (i : Int)) (S (gpct (L s)).1, (gpct (L s)).2) := by
    intro d
    induction d using Nat.strongRecOn with
    | _ d ih =>
    intro i acc hi ha hk
    by_cases hlt : i < (L s).length
    · have hb : bt s (i : Int) = ((at_ (L s) i).toNat : Int) := bt_nat s i
      by_cases hc : at_ (L s) i = 37
      · by_cases h3 : i + 2 < (L s).length
        · have hll := lower_len (at_ (L s) (i + 1)) (at_ (L s) (i + 2))
          have hgl := getHex_len (Lib.toLowerD [at_ (L s) (i + 1), at_ (L s) (i + 2)])
          have hp := impl_GetHex_ev (S (Lib.toLowerD [at_ (L s) (i + 1), at_ (L s) (i + 2)])) (by rw [size_S]; omega)
          rw [L_S] at hp
          have hlow : strings_ToLower.f (S [at_ (L s) (i + 1), at_ (L s) (i + 2)]) = some (S (Lib.toLowerD [at_ (L s) (i + 1), at_ (L s) (i + 2)])) := by
            unfold strings_ToLower.f
            rw [if_pos (by rw [size_S]; simp)]; rfl
          refine Ev.step (f := fun k => (impl_GetHex.f k (S (Lib.toLowerD [at_ (L s) (i + 1), at_ (L s) (i + 2)]))).bind fun bt => if (S acc).size + bt.1.size ≤ 9223372036854775807 then impl_GetPercent.l0 k s (S acc ++ bt.1) ((i + 3 : Nat) : Int) else none) (fun k => ?_) (Ev.bind hp ?_)
          · rw [impl_GetPercent.l0, if_pos (by omega), if_pos (by omega), hb, if_pos ((is37 _).2 hc), wi3 i (by omega), wa1 i (by omega), wa3 i (by omega), if_neg (by omega), if_pos (by omega), if_pos (by omega), if_pos (by omega), Int.toNat_natCast, Int.toNat_natCast, two_at s i h3, hlow, Option.bind_some]
          · refine ev_pos (by rw [size_S, size_S]; omega) ?_
            rw [S_append]
            refine ih (d - 3) (by omega) (i + 3) _ (by omega) (by rw [List.length_append]; omega) (known_sign h3 hc hk fun dd a1 a2 => ?_)
            rw [a1, a2, lower_hex]
        · refine Ev.step (f := fun k => some ((⟨#[]⟩ : ByteArray), false)) (fun k => ?_) (ev_use (Ev.now _) ?_)
          · rw [impl_GetPercent.l0, if_pos (by omega), if_pos (by omega), hb, if_pos ((is37 _).2 hc), wa3 i (by omega), if_pos (by omega)]
          · rw [gpct_no (no_sign hlt hc hk fun dd h => h3 h.1)]; rfl
      · refine Ev.step (f := fun k => impl_GetPercent.l0 k s (S (acc ++ [at_ (L s) i])) ((i + 1 : Nat) : Int)) (fun k => ?_) (ih (d - 1) (by omega) (i + 1) _ (by omega) (by rw [List.length_append]; simp; omega) (known_other hlt hc hk))
        rw [impl_GetPercent.l0, if_pos (by omega), if_pos (by omega), hb, if_neg (fun h => hc ((is37 _).1 h)), wa1 i (by omega), if_pos (by omega), if_pos (by omega), Int.toNat_natCast, Int.toNat_natCast, one_at s i hlt, if_pos (by rw [size_S, size_S]; simp; omega), S_append]
    · have hp := impl_PutPercent_ev (S acc) (by rw [size_S]; omega)
      rw [L_S] at hp
      refine Ev.step (f := fun k => (impl_PutPercent.f k (S acc)).bind fun t => if t.toList = s.toList then some (S acc, true) else some ((⟨#[]⟩ : ByteArray), false)) (fun k => by rw [impl_GetPercent.l0, if_neg (by omega)]) (Ev.bind hp ?_)
      rw [toList_S, toList_L, gpct_end (by omega) hk]
      by_cases h : pct acc = L s
      · exact ev_use (ev_pos h (Ev.now _)) (by rw [if_pos h])
      · exact ev_use (ev_neg h (Ev.now _)) (by rw [if_neg h]; rfl)
  exact key (L s).length 0 [] (by omega) (by simp) (fun x hx => ⟨x, rfl, hx⟩)
end Go.Proofs.YtgfaphlpkjikkaaDoor.U
end

section
namespace Go.Proofs.YtgfaphlpkjikkaaDoor.U
open Go Go.RowKit
set_option linter.unusedVariables false
set_option linter.unusedSimpArgs false

theorem idx_at (d : Nat) (h : d < 16) : idx hexd (at_ hexd d) = (d : Int) := by
  have : ∀ d : Fin 16, idx hexd (at_ hexd d.val) = (d.val : Int) := by decide
  exact this ⟨d, h⟩
theorem at_idx (c : UInt8) (h : 0 ≤ idx hexd c) : at_ hexd (idx hexd c).toNat = c ∧ (idx hexd c).toNat < 16 := by
  have : ∀ c : UInt8, 0 ≤ idx hexd c → at_ hexd (idx hexd c).toNat = c ∧ (idx hexd c).toNat < 16 := by
    intro c
    have hc : c = UInt8.ofNat c.toNat := by simp
    have hl : c.toNat < 256 := c.toNat_lt
    have key : ∀ n : Fin 256, 0 ≤ idx hexd (UInt8.ofNat n.val) → at_ hexd (idx hexd (UInt8.ofNat n.val)).toNat = UInt8.ofNat n.val ∧ (idx hexd (UInt8.ofNat n.val)).toNat < 16 := by decide +kernel
    rw [hc]; exact key ⟨c.toNat, hl⟩
  exact this c h
theorem pairs_put : ∀ (l acc : B), pairs hexd acc (putHex l) = (acc ++ l, true)
  | [], acc => by rw [putHex_nil, pairs, List.append_nil]
  | c :: l, acc => by
    have hc : c.toNat < 256 := c.toNat_lt
    rw [putHex_cons]
    show pairs hexd acc (at_ hexd (c.toNat / 16) :: at_ hexd (c.toNat % 16) :: putHex l) = _
    rw [pairs, idx_at _ (by omega), idx_at _ (by omega), if_neg (by omega), pairs_put l, Int.toNat_natCast, Int.toNat_natCast, show 16 * (c.toNat / 16) + c.toNat % 16 = c.toNat by omega]
    simp
theorem getHex_put (l : B) : getHex (putHex l) = (l, true) := by
  unfold getHex; rw [pairs_put, if_pos rfl]; rfl
theorem pairs_back : ∀ (n : Nat) (l acc : B), l.length ≤ n → (pairs hexd acc l).2 = true → putHex (pairs hexd acc l).1 = putHex acc ++ l
  | _, [], acc, _, _ => by rw [pairs, List.append_nil]
  | _, [a], acc, _, h => by rw [pairs] at h; simp at h
  | 0, a :: b :: r, acc, hn, h => by simp at hn
  | n + 1, a :: b :: r, acc, hn, h => by
    rw [pairs] at h ⊢
    by_cases hi : idx hexd a < 0 ∨ idx hexd b < 0
    · rw [if_pos hi] at h; simp at h
    · rw [if_neg hi] at h ⊢
      have ha := at_idx a (by omega)
      have hb := at_idx b (by omega)
      rw [pairs_back n r _ (by simp at hn; omega) h]
      have e : (UInt8.ofNat (16 * (idx hexd a).toNat + (idx hexd b).toNat)).toNat = 16 * (idx hexd a).toNat + (idx hexd b).toNat := by
        rw [UInt8.toNat_ofNat']; omega
      have : putHex [UInt8.ofNat (16 * (idx hexd a).toNat + (idx hexd b).toNat)] = [a, b] := by
        show hexOf _ ++ [] = _
        unfold hexOf
        rw [e, show (16 * (idx hexd a).toNat + (idx hexd b).toNat) / 16 = (idx hexd a).toNat by omega, show (16 * (idx hexd a).toNat + (idx hexd b).toNat) % 16 = (idx hexd b).toNat by omega, ha.1, hb.1]
        rfl
      unfold putHex at *
      rw [List.flatMap_append, this, List.append_assoc]
      rfl
theorem getHex_back (l : B) (h : (getHex l).2 = true) : putHex (getHex l).1 = l := by
  unfold getHex at *
  by_cases hp : (pairs hexd [] l).2 = true
  · rw [if_pos hp]; exact pairs_back l.length l [] (by omega) hp
  · rw [if_neg hp] at h; simp at h
theorem pct_inj : ∀ (x y : B), pct x = pct y → x = y
  | [], y, h => by rw [pct_nil (y := y) h.symm]
  | c :: x, y, h => by
    by_cases hs : safe c = true
    · have e : pct (c :: x) = c :: pct x := by rw [pct_cons]; unfold pct1; rw [if_pos hs]; rfl
      rw [e] at h
      obtain ⟨y', ey, e2⟩ := pct_other h.symm (fun e => by rw [e, safe_pct] at hs; exact absurd hs (by decide))
      rw [ey, pct_inj x y' e2.symm]
    · have e : pct (c :: x) = 37 :: at_ hexD (c.toNat / 16) :: at_ hexD (c.toNat % 16) :: pct x := by rw [pct_cons]; unfold pct1; rw [if_neg hs]; rfl
      rw [e] at h
      obtain ⟨d, y', ey, e2⟩ := pct_sign h.symm
      simp only [List.cons.injEq] at e2
      have p1 := pairs_hexD c
      rw [e2.1, e2.2.1, pairs_hexD d] at p1
      simp only [Prod.mk.injEq, List.cons.injEq] at p1
      rw [ey, pct_inj x y' e2.2.2, p1.1.1]
theorem gpct_pct (l : B) : gpct (pct l) = (l, true) := by
  have hex : ∃ x, pct x = pct l := ⟨l, rfl⟩
  unfold gpct
  rw [dif_pos hex, pct_inj _ _ hex.choose_spec]
theorem gpct_back (l : B) (h : (gpct l).2 = true) : pct (gpct l).1 = l := by
  unfold gpct at *
  by_cases hex : ∃ x, pct x = l
  · rw [dif_pos hex]; exact hex.choose_spec
  · rw [dif_neg hex] at h; simp at h
theorem b64_len4 : ∀ (n : Nat) (l : B), l.length ≤ n → (b64 l).length % 4 = 0 ∧ (b64 l).length ≤ 4 * l.length
  | n, [], _ => by rw [b64_nil]; simp
  | 0, a :: l, h => by simp at h
  | n + 1, a :: l, h => by
    rw [b64_step _ (by simp), List.length_append, four_len]
    have := b64_len4 n ((a :: l).drop 3) (by simp at h ⊢; omega)
    simp at this ⊢
    omega
end Go.Proofs.YtgfaphlpkjikkaaDoor.U
end

section
namespace Go.Proofs.YtgfaphlpkjikkaaDoor.U
open Go Go.RowKit Go.Proofs.YtgfaphlpkjikkaaDoorW.PrintWords Go.Proofs.YtgfaphlpkjikkaaDoor.G
set_option linter.unusedVariables false
set_option linter.unusedSimpArgs false

theorem ext_size (s : ByteArray) (a b : Nat) : (s.extract a b).size ≤ s.size := by rw [size_L, size_L, L_extract]; simp; omega
theorem app_size (s t : ByteArray) : (s ++ t).size = s.size + t.size := by rw [size_L, size_L, size_L, L_append, List.length_append]
theorem raw_any (l : List Int) (i h : Int) (hl : l.length ≤ 1099511627776) (h0 : 0 ≤ i) (hi : i ≤ l.length) :
    ∃ t i' h', Ev (fun k => spec_l01Raw.f k l i h) (t, i', h') ∧ t.size ≤ 20 ∧ 0 ≤ i' ∧ i' ≤ l.length := by
  obtain ⟨r, i1, h1, e1, r0, r1, _, p0, p1⟩ := below_any l i h 12 hl h0 hi (by omega)
  obtain ⟨t, i2, h2, e2, ht, q0, q1⟩ := text_any l i1 h1 r hl p0 p1 r0 (by omega)
  obtain ⟨u, i3, h3, e3, hu, s0, s1⟩ := pick_any l i2 h2 [(⟨#[]⟩), (⟨#[34]⟩), (⟨#[92]⟩), (⟨#[10]⟩), (⟨#[32]⟩), (⟨#[37]⟩), (⟨#[127]⟩)] hl q0 q1 (by simp) (by simp)
  have hu1 : u.size ≤ 1 := by
    have : ∀ x ∈ ([(⟨#[]⟩), (⟨#[34]⟩), (⟨#[92]⟩), (⟨#[10]⟩), (⟨#[32]⟩), (⟨#[37]⟩), (⟨#[127]⟩)] : List ByteArray), x.size ≤ 1 := by decide
    exact this u hu
  have hb := r1 (by omega)
  refine ⟨t ++ u, i3, h3, ?_, by rw [app_size]; omega, s0, s1⟩
  unfold spec_l01Raw.f
  refine ev_const e1 (Ev.bind e2 (ev_const e3 (ev_pos ?_ (Ev.now _))))
  show t.size + u.size ≤ _
  omega
theorem bent_any (l : List Int) (i h : Int) (s : ByteArray) (hs : s.size ≤ 1000) (hl : l.length ≤ 1099511627776) (h0 : 0 ≤ i) (hi : i ≤ l.length) :
    ∃ t i' h', spec_l01Bent.f l i h s = some (t, i', h') ∧ t.size ≤ 3000 := by
  obtain ⟨r, i1, h1, e1, r0, r1, _, p0, p1⟩ := below_any l i h ((s.size : Int) + 1) hl h0 hi (by omega)
  have hr := r1 (by omega)
  obtain ⟨q, i2, h2, e2, q0, q1, _, t0, t1⟩ := below_any l i1 h1 8 hl p0 p1 (by omega)
  unfold spec_l01Bent.f
  rw [w64 (n := (s.size : Int) + 1) (by omega) (by omega), e1, Option.bind_some, e2, Option.bind_some]
  by_cases c0 : q = 0
  · rw [if_pos c0, if_pos r0, if_pos (by show r ≤ _; omega)]
    exact ⟨_, _, _, rfl, Nat.le_trans (ext_size _ _ _) (by omega)⟩
  · by_cases c1 : q = 1
    · obtain ⟨u, i3, h3, e3, hu, s0, s1⟩ := pick_any l i2 h2 [(⟨#[48]⟩), (⟨#[32]⟩), (⟨#[255]⟩), (⟨#[34]⟩), (⟨#[10]⟩), (⟨#[97]⟩), (⟨#[44]⟩), (⟨#[61]⟩)] hl t0 t1 (by simp) (by simp)
      have hu1 : u.size ≤ 1 := by
        have : ∀ x ∈ ([(⟨#[48]⟩), (⟨#[32]⟩), (⟨#[255]⟩), (⟨#[34]⟩), (⟨#[10]⟩), (⟨#[97]⟩), (⟨#[44]⟩), (⟨#[61]⟩)] : List ByteArray), x.size ≤ 1 := by decide
        exact this u hu
      have x1 := ext_size s 0 r.toNat
      have x2 := ext_size s r.toNat s.size
      rw [if_neg c0, if_pos c1, if_pos r0, if_pos (by show r ≤ _; omega), e3, Option.bind_some, if_pos (by show (s.extract 0 r.toNat).size + u.size ≤ _; omega), if_pos (by show ((s.extract 0 r.toNat) ++ u).size + (s.extract r.toNat s.size).size ≤ _; rw [app_size]; omega)]
      refine ⟨_, _, _, rfl, ?_⟩
      show (s.extract 0 r.toNat ++ u ++ s.extract r.toNat s.size).size ≤ _
      rw [app_size, app_size]; omega
    · by_cases c2 : q = 2
      · by_cases c3 : r < (s.size : Int)
        · obtain ⟨u, i3, h3, e3, hu, s0, s1⟩ := pick_any l i2 h2 [(⟨#[48]⟩), (⟨#[65]⟩), (⟨#[0]⟩), (⟨#[57]⟩), (⟨#[93]⟩), (⟨#[92]⟩)] hl t0 t1 (by simp) (by simp)
          have hu1 : u.size ≤ 1 := by
            have : ∀ x ∈ ([(⟨#[48]⟩), (⟨#[65]⟩), (⟨#[0]⟩), (⟨#[57]⟩), (⟨#[93]⟩), (⟨#[92]⟩)] : List ByteArray), x.size ≤ 1 := by decide
            exact this u hu
          have x1 := ext_size s 0 r.toNat
          have x2 := ext_size s (r + 1).toNat s.size
          rw [if_neg c0, if_neg c1, if_pos c2, if_pos c3, if_pos r0, if_pos (by show r ≤ _; omega), e3, Option.bind_some, if_pos (by show (s.extract 0 r.toNat).size + u.size ≤ _; omega), w64 (n := r + 1) (by omega) (by omega), if_pos (by omega), if_pos (by omega), if_pos (by show ((s.extract 0 r.toNat) ++ u).size + (s.extract (r + 1).toNat s.size).size ≤ _; rw [app_size]; omega)]
          refine ⟨_, _, _, rfl, ?_⟩
          show (s.extract 0 r.toNat ++ u ++ s.extract (r + 1).toNat s.size).size ≤ _
          rw [app_size, app_size]; omega
        · rw [if_neg c0, if_neg c1, if_pos c2, if_neg c3]
          exact ⟨_, _, _, rfl, by omega⟩
      · rw [if_neg c0, if_neg c1, if_neg c2]
        exact ⟨_, _, _, rfl, by omega⟩
theorem drawPutHex (l : List Int) (hl : l.length ≤ 1048576) : ∃ t, Ev (fun k => spec_DrawPutHex.f k l) t ∧ t.size ≤ 3000 := by
  obtain ⟨h, e⟩ := new_any l hl
  obtain ⟨t, i', h', e2, ht, _⟩ := raw_any l 0 h (by omega) (by omega) (by omega)
  refine ⟨t, ?_, by omega⟩
  unfold spec_DrawPutHex.f
  exact Ev.bind e (Ev.bind e2 (Ev.now _))
theorem drawPutBase64 (l : List Int) (hl : l.length ≤ 1048576) : ∃ t, Ev (fun k => spec_DrawPutBase64.f k l) t ∧ t.size ≤ 3000 := by
  obtain ⟨h, e⟩ := new_any l hl
  obtain ⟨t, i', h', e2, ht, _⟩ := raw_any l 0 h (by omega) (by omega) (by omega)
  refine ⟨t, ?_, by omega⟩
  unfold spec_DrawPutBase64.f
  exact Ev.bind e (Ev.bind e2 (Ev.now _))
theorem drawPutPercent (l : List Int) (hl : l.length ≤ 1048576) : ∃ t, Ev (fun k => spec_DrawPutPercent.f k l) t ∧ t.size ≤ 3000 := by
  obtain ⟨h, e⟩ := new_any l hl
  obtain ⟨t, i', h', e2, ht, _⟩ := raw_any l 0 h (by omega) (by omega) (by omega)
  refine ⟨t, ?_, by omega⟩
  unfold spec_DrawPutPercent.f
  exact Ev.bind e (Ev.bind e2 (Ev.now _))
theorem drawGetHex (l : List Int) (hl : l.length ≤ 1048576) : ∃ t, Ev (fun k => spec_DrawGetHex.f k l) t ∧ t.size ≤ 3000 := by
  obtain ⟨h, e⟩ := new_any l hl
  obtain ⟨t, i', h', e2, ht, q0, q1⟩ := raw_any l 0 h (by omega) (by omega) (by omega)
  have hz : (S (putHex (L t))).size ≤ 1000 := by rw [size_S, putHex_length, ← size_L]; omega
  obtain ⟨u, i3, h3, e3, hu⟩ := bent_any l i' h' (S (putHex (L t))) hz (by omega) q0 q1
  refine ⟨u, ?_, hu⟩
  unfold spec_DrawGetHex.f
  exact Ev.bind e (Ev.bind e2 (Ev.bind (spec_PutHex_ev t (by omega)) (ev_const e3 (Ev.now _))))
theorem drawGetBase64 (l : List Int) (hl : l.length ≤ 1048576) : ∃ t, Ev (fun k => spec_DrawGetBase64.f k l) t ∧ t.size ≤ 3000 := by
  obtain ⟨h, e⟩ := new_any l hl
  obtain ⟨b, i1, h1, e1, p0, p1⟩ := once_any l 0 h 4 (by omega) (by omega) (by omega) (by omega)
  by_cases hb : b = true
  · obtain ⟨u, i3, h3, e3, hu, s0, s1⟩ := pick_any l i1 h1 [(⟨#[]⟩), (⟨#[61]⟩), (⟨#[81, 81, 61, 61]⟩), (⟨#[81, 81, 61]⟩), (⟨#[81, 82, 61, 61]⟩), (⟨#[81, 85, 73, 61]⟩), (⟨#[81, 85, 74, 61]⟩), (⟨#[81, 85, 74, 68]⟩), (⟨#[81, 85, 74, 68, 82]⟩), (⟨#[61, 61, 61, 61]⟩), (⟨#[81, 81, 61, 61, 81, 81, 61, 61]⟩)] (by omega) p0 p1 (by simp) (by simp)
    have hu1 : u.size ≤ 8 := by
      have : ∀ x ∈ ([(⟨#[]⟩), (⟨#[61]⟩), (⟨#[81, 81, 61, 61]⟩), (⟨#[81, 81, 61]⟩), (⟨#[81, 82, 61, 61]⟩), (⟨#[81, 85, 73, 61]⟩), (⟨#[81, 85, 74, 61]⟩), (⟨#[81, 85, 74, 68]⟩), (⟨#[81, 85, 74, 68, 82]⟩), (⟨#[61, 61, 61, 61]⟩), (⟨#[81, 81, 61, 61, 81, 81, 61, 61]⟩)] : List ByteArray), x.size ≤ 8 := by decide
      exact this u hu
    refine ⟨u, ?_, by omega⟩
    unfold spec_DrawGetBase64.f
    exact Ev.bind e (ev_const e1 (ev_pos hb (ev_const e3 (Ev.now _))))
  · obtain ⟨t, i', h', e2, ht, q0, q1⟩ := raw_any l i1 h1 (by omega) p0 p1
    have hz : (S (b64 (L t))).size ≤ 1000 := by
      have := (b64_len4 _ (L t) (Nat.le_refl _)).2
      rw [← size_L] at this
      rw [size_S]; omega
    obtain ⟨u, i3, h3, e3, hu⟩ := bent_any l i' h' (S (b64 (L t))) hz (by omega) q0 q1
    refine ⟨u, ?_, hu⟩
    unfold spec_DrawGetBase64.f
    exact Ev.bind e (ev_const e1 (ev_neg hb (Ev.bind e2 (Ev.bind (spec_PutBase64_ev t (by omega)) (ev_const e3 (Ev.now _))))))
theorem drawGetPercent (l : List Int) (hl : l.length ≤ 1048576) : ∃ t, Ev (fun k => spec_DrawGetPercent.f k l) t ∧ t.size ≤ 3000 := by
  obtain ⟨h, e⟩ := new_any l hl
  obtain ⟨b, i1, h1, e1, p0, p1⟩ := once_any l 0 h 4 (by omega) (by omega) (by omega) (by omega)
  by_cases hb : b = true
  · obtain ⟨u, i3, h3, e3, hu, s0, s1⟩ := pick_any l i1 h1 [(⟨#[37]⟩), (⟨#[37, 52]⟩), (⟨#[37, 52, 49]⟩), (⟨#[37, 50, 70]⟩), (⟨#[37, 50, 102]⟩), (⟨#[97, 47, 98]⟩), (⟨#[37, 122, 122]⟩), (⟨#[97, 37, 50, 48, 98]⟩)] (by omega) p0 p1 (by simp) (by simp)
    have hu1 : u.size ≤ 8 := by
      have : ∀ x ∈ ([(⟨#[37]⟩), (⟨#[37, 52]⟩), (⟨#[37, 52, 49]⟩), (⟨#[37, 50, 70]⟩), (⟨#[37, 50, 102]⟩), (⟨#[97, 47, 98]⟩), (⟨#[37, 122, 122]⟩), (⟨#[97, 37, 50, 48, 98]⟩)] : List ByteArray), x.size ≤ 8 := by decide
      exact this u hu
    refine ⟨u, ?_, by omega⟩
    unfold spec_DrawGetPercent.f
    exact Ev.bind e (ev_const e1 (ev_pos hb (ev_const e3 (Ev.now _))))
  · obtain ⟨t, i', h', e2, ht, q0, q1⟩ := raw_any l i1 h1 (by omega) p0 p1
    have hz : (S (pct (L t))).size ≤ 1000 := by
      have := pct_len (L t)
      rw [← size_L] at this
      rw [size_S]; omega
    obtain ⟨u, i3, h3, e3, hu⟩ := bent_any l i' h' (S (pct (L t))) hz (by omega) q0 q1
    refine ⟨u, ?_, hu⟩
    unfold spec_DrawGetPercent.f
    exact Ev.bind e (ev_const e1 (ev_neg hb (Ev.bind e2 (Ev.bind (spec_PutPercent_ev t (by omega)) (ev_const e3 (Ev.now _))))))
end Go.Proofs.YtgfaphlpkjikkaaDoor.U
end

section
namespace Go.Proofs.YtgfaphlpkjikkaaDoor.U
open Go Go.RowKit
set_option linter.unusedVariables false
set_option linter.unusedSimpArgs false

theorem idx_sig (d : Nat) (h : d < 64) : idx sig (at_ sig d) = (d : Int) := by
  have : ∀ d : Fin 64, idx sig (at_ sig d.val) = (d.val : Int) := by decide +kernel
  exact this ⟨d, h⟩
theorem dg_sig (d : Nat) (h : d < 64) : dg (at_ sig d) = d := by unfold dg; rw [idx_sig d h]; rfl
theorem dec_one (n m d : Nat) (acc r : B) (h : d < 64) : dec64 n m acc (at_ sig d :: r) = dec64 (n * 64 % 16777216 + d) (m + 1) (if (m + 1) % 4 = 1 then acc else acc ++ [UInt8.ofNat ((n * 64 % 16777216 + d) / 2 ^ (2 * (3 - m % 4)) % 256)]) r := by
  rw [dec64, if_neg (by rw [idx_sig d h]; omega)]
  unfold nx
  rw [dg_sig d h]
theorem dec_0 (n m d : Nat) (acc r : B) (h : d < 64) (hm : m % 4 = 0) : dec64 n m acc (at_ sig d :: r) = dec64 (n * 64 % 16777216 + d) (m + 1) acc r := by
  rw [dec_one n m d acc r h, if_pos (by omega)]
theorem dec_1 (n m d : Nat) (acc r : B) (h : d < 64) (hm : m % 4 = 1) : dec64 n m acc (at_ sig d :: r) = dec64 (n * 64 % 16777216 + d) (m + 1) (acc ++ [UInt8.ofNat ((n * 64 % 16777216 + d) / 16 % 256)]) r := by
  rw [dec_one n m d acc r h, if_neg (by omega), hm]
theorem dec_2 (n m d : Nat) (acc r : B) (h : d < 64) (hm : m % 4 = 2) : dec64 n m acc (at_ sig d :: r) = dec64 (n * 64 % 16777216 + d) (m + 1) (acc ++ [UInt8.ofNat ((n * 64 % 16777216 + d) / 4 % 256)]) r := by
  rw [dec_one n m d acc r h, if_neg (by omega), hm]
theorem dec_3 (n m d : Nat) (acc r : B) (h : d < 64) (hm : m % 4 = 3) : dec64 n m acc (at_ sig d :: r) = dec64 (n * 64 % 16777216 + d) (m + 1) (acc ++ [UInt8.ofNat ((n * 64 % 16777216 + d) / 1 % 256)]) r := by
  rw [dec_one n m d acc r h, if_neg (by omega), hm]
theorem dec_stop (n m : Nat) (acc r : B) : dec64 n m acc (61 :: r) = acc := by
  have h61 : idx sig 61 < 0 := by decide +kernel
  unfold dec64
  exact if_pos h61
theorem num1 (n v : Nat) : ((n * 64 % 16777216 + v / 2 ^ (18 - 6 * 0) % 64) * 64 % 16777216 + v / 2 ^ (18 - 6 * 1) % 64) / 16 % 256 = v / 65536 % 256 := by
  rw [show 2 ^ (18 - 6 * 0) = 262144 from rfl, show 2 ^ (18 - 6 * 1) = 4096 from rfl]; omega
theorem num2 (n v : Nat) : (n * 64 % 16777216 + v / 2 ^ (18 - 6 * 2) % 64) / 4 % 256 = (n % 16 * 64 + v / 64 % 64) / 4 % 256 := by
  rw [show 2 ^ (18 - 6 * 2) = 64 from rfl]; omega
theorem num3 (n v : Nat) : (n * 64 % 16777216 + v / 2 ^ (18 - 6 * 3) % 64) / 1 % 256 = (n % 4 * 64 + v % 64) % 256 := by
  rw [show 2 ^ (18 - 6 * 3) = 1 from rfl]; omega
theorem ofNat_of (x : Nat) (c : UInt8) (h : x = c.toNat) : UInt8.ofNat x = c := by rw [h]; simp
theorem sign_lt (n m k : Nat) (h : k ≤ m) : sign n m k = at_ sig (n / 2 ^ (18 - 6 * k) % 64) := by unfold sign; rw [if_neg (by omega)]
theorem sign_eq (n m k : Nat) (h : m < k) : sign n m k = 61 := by unfold sign; rw [if_pos h]
theorem dec_b64 : ∀ (d : Nat) (l : B) (n m : Nat) (acc : B), l.length ≤ d → m % 4 = 0 → dec64 n m acc (b64 l) = acc ++ l
  | d, [], n, m, acc, _, _ => by rw [b64_nil, dec64, List.append_nil]
  | 0, a :: l, n, m, acc, h, _ => by simp at h
  | d + 1, [a], n, m, acc, h, hm => by
    have ha : a.toNat < 256 := a.toNat_lt
    have hv : val [a] = a.toNat * 65536 := by simp [val, at_]
    rw [b64_step _ (by simp)]
    show dec64 n m acc (sign (val [a]) 1 0 :: sign (val [a]) 1 1 :: sign (val [a]) 1 2 :: _) = _
    rw [sign_lt _ _ 0 (by omega), sign_lt _ _ 1 (by omega), sign_eq _ _ 2 (by omega)]
    rw [dec_0 _ _ _ _ _ (by omega) hm, dec_1 _ _ _ _ _ (by omega) (by omega), dec_stop, num1, ofNat_of _ a (by rw [hv]; omega)]
  | d + 1, [a, b], n, m, acc, h, hm => by
    have ha : a.toNat < 256 := a.toNat_lt
    have hb : b.toNat < 256 := b.toNat_lt
    have hv : val [a, b] = a.toNat * 65536 + b.toNat * 256 := by simp [val, at_]
    rw [b64_step _ (by simp)]
    show dec64 n m acc (sign (val [a, b]) 2 0 :: sign (val [a, b]) 2 1 :: sign (val [a, b]) 2 2 :: sign (val [a, b]) 2 3 :: _) = _
    rw [sign_lt _ _ 0 (by omega), sign_lt _ _ 1 (by omega), sign_lt _ _ 2 (by omega), sign_eq _ _ 3 (by omega)]
    rw [dec_0 _ _ _ _ _ (by omega) hm, dec_1 _ _ _ _ _ (by omega) (by omega), num1, dec_2 _ _ _ _ _ (by omega) (by omega), dec_stop, num2, ofNat_of _ a (by rw [hv]; omega), ofNat_of _ b (by rw [hv, show 2 ^ (18 - 6 * 1) = 4096 from rfl]; omega)]
    simp
  | d + 1, a :: b :: c :: l, n, m, acc, h, hm => by
    have ha : a.toNat < 256 := a.toNat_lt
    have hb : b.toNat < 256 := b.toNat_lt
    have hc : c.toNat < 256 := c.toNat_lt
    have hv : val (a :: b :: c :: l) = a.toNat * 65536 + b.toNat * 256 + c.toNat := by simp [val, at_]
    rw [b64_step _ (by simp), show min 3 (a :: b :: c :: l).length = 3 by simp]
    show dec64 n m acc (sign (val (a :: b :: c :: l)) 3 0 :: sign (val (a :: b :: c :: l)) 3 1 :: sign (val (a :: b :: c :: l)) 3 2 :: sign (val (a :: b :: c :: l)) 3 3 :: b64 l) = _
    rw [sign_lt _ _ 0 (by omega), sign_lt _ _ 1 (by omega), sign_lt _ _ 2 (by omega), sign_lt _ _ 3 (by omega)]
    rw [dec_0 _ _ _ _ _ (by omega) hm, dec_1 _ _ _ _ _ (by omega) (by omega), num1, dec_2 _ _ _ _ _ (by omega) (by omega), num2, dec_3 _ _ _ _ _ (by omega) (by omega), num3]
    rw [dec_b64 d l _ _ _ (by simp at h; omega) (by omega), ofNat_of _ a (by rw [hv]; omega), ofNat_of _ b (by rw [hv, show 2 ^ (18 - 6 * 1) = 4096 from rfl]; omega), ofNat_of _ c (by rw [hv, show 2 ^ (18 - 6 * 2) = 64 from rfl]; omega)]
    simp
theorem fin_b64 (l : B) : fin64 (S (b64 l)) (dec64 0 0 [] (L (S (b64 l)))) = (S l, true) := by
  rw [L_S, dec_b64 l.length l 0 0 [] (by omega) rfl]
  unfold fin64
  rw [L_S, List.nil_append, if_pos rfl]
theorem fin_back (s : ByteArray) (o : B) (h : (fin64 s o).2 = true) : S (b64 (L (fin64 s o).1)) = s := by
  unfold fin64 at *
  by_cases he : b64 o = L s
  · rw [if_pos he, L_S, he, S_L]
  · rw [if_neg he] at h; simp at h
end Go.Proofs.YtgfaphlpkjikkaaDoor.U
end

section
namespace Go.Proofs.YtgfaphlpkjikkaaDoor.Pure
open Go Go.RowKit Go.Proofs.YtgfaphlpkjikkaaDoorW.PrintWords Go.Proofs.YtgfaphlpkjikkaaDoor.G Go.Proofs.YtgfaphlpkjikkaaDoor.U
set_option linter.unusedVariables false
set_option linter.unusedSimpArgs false

theorem b64_ge : ∀ (n : Nat) (l : B), l.length ≤ n → l.length ≤ (b64 l).length
  | n, [], _ => by simp
  | 0, a :: l, h => by simp at h
  | n + 1, a :: l, h => by
    rw [b64_step _ (by simp), List.length_append, four_len]
    have := b64_ge n ((a :: l).drop 3) (by simp at h ⊢; omega)
    simp at this ⊢
    omega
theorem pct_ge : ∀ l : B, l.length ≤ (pct l).length
  | [] => by simp
  | c :: l => by
    have h1 := pct_ge l
    have h2 : 0 < (pct1 c).length := List.length_pos_iff.2 (pct1_ne c)
    rw [pct_cons, List.length_append, List.length_cons]; omega
theorem S_len {l : B} {s : ByteArray} (h : S l = s) : l.length = s.size := by rw [← h, size_S]
theorem codes_j1 (a b c : ByteArray) (ha : a.size ≤ 3000) (hb : b.size ≤ 3000) (hc : c.size ≤ 3000) :
    Ev (fun k => laws_FnCodes.j1 k a b c (S (putHex (L a))) (S (b64 (L b))) (S (pct (L c))) false) true := by
  have z1 : (S (putHex (L a))).size ≤ 1048576 := by rw [size_S, putHex_length, ← size_L]; omega
  have z2 : (S (b64 (L b))).size ≤ 1048576 := by
    have := (b64_len4 _ (L b) (Nat.le_refl _)).2
    rw [← size_L] at this
    rw [size_S]; omega
  have z3 : (S (pct (L c))).size ≤ 1048576 := by
    have := pct_len (L c)
    rw [← size_L] at this
    rw [size_S]; omega
  have g1 := impl_GetHex_ev (S (putHex (L a))) (by omega)
  have g2 := impl_GetBase64_ev (S (b64 (L b))) z2
  have g3 := impl_GetPercent_ev (S (pct (L c))) z3
  rw [L_S, getHex_put, S_L] at g1
  rw [fin_b64, S_L] at g2
  rw [L_S, gpct_pct, S_L] at g3
  refine Ev.step (f := fun k => (impl_GetHex.f k (S (putHex (L a)))).bind fun bt688 => (impl_GetBase64.f k (S (b64 (L b)))).bind fun bt690 => (impl_GetPercent.f k (S (pct (L c)))).bind fun bt692 => (if bt688.2 = true then (if bt690.2 = true then (if bt692.2 = true then (if bt688.1.toList = a.toList then (if bt690.1.toList = b.toList then (if bt692.1.toList = c.toList then (some ((Int.tmod ((S (b64 (L b))).size : Int) 4) == 0)) else (some false)) else (some false)) else (some false)) else (some false)) else (some false)) else (some false))) (fun k => by rw [laws_FnCodes.j1, if_neg (by decide)]; rfl) ?_
  refine Ev.bind g1 (Ev.bind g2 (Ev.bind g3 (ev_pos rfl (ev_pos rfl (ev_pos rfl (ev_pos rfl (ev_pos rfl (ev_pos rfl ?_))))))))
  have e : (Int.tmod ((S (b64 (L b))).size : Int) 4 == 0) = true := by
    have := (b64_len4 _ (L b) (Nat.le_refl _)).1
    rw [size_S, Int.tmod_eq_emod_of_nonneg (by omega), beq_iff_eq]; omega
  rw [e]
  exact Ev.now _
theorem codes_j0 (a b c d e f : ByteArray) (ha : a.size ≤ 3000) (hb : b.size ≤ 3000) (hc : c.size ≤ 3000) (x12 x16 x20 : ByteArray) (x13 x17 x21 z : Bool)
    (h12 : x13 = true → x12.size ≤ 3000 ∧ S (putHex (L x12)) = d) (h16 : x17 = true → x16.size ≤ 3000 ∧ S (b64 (L x16)) = e) (h20 : x21 = true → x20.size ≤ 3000 ∧ S (pct (L x20)) = f) (hz : z = false) :
    Ev (fun k => laws_FnCodes.j0 k a b c (S (putHex (L a))) (S (b64 (L b))) (S (pct (L c))) d e f x12 x13 x16 x17 x20 x21 z) true := by
  subst hz
  have J := codes_j1 a b c ha hb hc
  have J2 : x21 = true → Ev (fun k => laws_FnCodes.j1 k a b c (S (putHex (L a))) (S (b64 (L b))) (S (pct (L c))) ((S (pct (L x20))).toList != f.toList)) true := by
    intro r
    rw [show ((S (pct (L x20))).toList != f.toList) = false by rw [(h20 r).2]; simp]
    exact J
  by_cases p : x13 = true
  · by_cases q : x17 = true
    · by_cases r : x21 = true
      · refine Ev.step (fun k => by rw [laws_FnCodes.j0, if_neg (by decide), if_pos p, if_pos q, if_pos r]) (Ev.bind (impl_PutHex_ev x12 (by have := (h12 p).1; omega)) (ev_pos (congrArg ByteArray.toList (h12 p).2) (Ev.bind (impl_PutBase64_ev x16 (by have := (h16 q).1; omega)) (ev_pos (congrArg ByteArray.toList (h16 q).2) (Ev.bind (impl_PutPercent_ev x20 (by have := (h20 r).1; omega)) (J2 r))))))
      · refine Ev.step (fun k => by rw [laws_FnCodes.j0, if_neg (by decide), if_pos p, if_pos q, if_neg r]) (Ev.bind (impl_PutHex_ev x12 (by have := (h12 p).1; omega)) (ev_pos (congrArg ByteArray.toList (h12 p).2) (Ev.bind (impl_PutBase64_ev x16 (by have := (h16 q).1; omega)) (ev_pos (congrArg ByteArray.toList (h16 q).2) J))))
    · by_cases r : x21 = true
      · refine Ev.step (fun k => by rw [laws_FnCodes.j0, if_neg (by decide), if_pos p, if_neg q, if_pos r]) (Ev.bind (impl_PutHex_ev x12 (by have := (h12 p).1; omega)) (ev_pos (congrArg ByteArray.toList (h12 p).2) (Ev.bind (impl_PutPercent_ev x20 (by have := (h20 r).1; omega)) (J2 r))))
      · refine Ev.step (fun k => by rw [laws_FnCodes.j0, if_neg (by decide), if_pos p, if_neg q, if_neg r]) (Ev.bind (impl_PutHex_ev x12 (by have := (h12 p).1; omega)) (ev_pos (congrArg ByteArray.toList (h12 p).2) J))
  · by_cases q : x17 = true
    · by_cases r : x21 = true
      · refine Ev.step (fun k => by rw [laws_FnCodes.j0, if_neg (by decide), if_neg p, if_pos q, if_pos r]) (Ev.bind (impl_PutBase64_ev x16 (by have := (h16 q).1; omega)) (ev_pos (congrArg ByteArray.toList (h16 q).2) (Ev.bind (impl_PutPercent_ev x20 (by have := (h20 r).1; omega)) (J2 r))))
      · refine Ev.step (fun k => by rw [laws_FnCodes.j0, if_neg (by decide), if_neg p, if_pos q, if_neg r]) (Ev.bind (impl_PutBase64_ev x16 (by have := (h16 q).1; omega)) (ev_pos (congrArg ByteArray.toList (h16 q).2) J))
    · by_cases r : x21 = true
      · refine Ev.step (fun k => by rw [laws_FnCodes.j0, if_neg (by decide), if_neg p, if_neg q, if_pos r]) (Ev.bind (impl_PutPercent_ev x20 (by have := (h20 r).1; omega)) (J2 r))
      · refine Ev.step (fun k => by rw [laws_FnCodes.j0, if_neg (by decide), if_neg p, if_neg q, if_neg r]) J
theorem FnCodes : laws_FnCodes.Pure := by
  intro l hl
  refine Ev.rounds (r := true) ?_
  unfold laws_FnCodes.f
  refine ev_const (show laws_big.f l = some (decide ((l.length : Int) > 1048576)) from rfl) ?_
  by_cases h : (l.length : Int) > 1048576
  · exact ev_pos (by simpa using h) (Ev.now _)
  · refine ev_neg (by simpa using h) ?_
    have hs : l.length ≤ 1048576 := by omega
    obtain ⟨a, ea, ha⟩ := drawPutHex l hs
    obtain ⟨b, eb, hb⟩ := drawPutBase64 l hs
    obtain ⟨c, ec, hc⟩ := drawPutPercent l hs
    obtain ⟨d, ed, hd⟩ := drawGetHex l hs
    obtain ⟨e, ee, he⟩ := drawGetBase64 l hs
    obtain ⟨f, ef, hf⟩ := drawGetPercent l hs
    refine Ev.bind ea (Ev.bind eb (Ev.bind ec (Ev.bind (impl_PutHex_ev a (by omega)) (Ev.bind (impl_PutBase64_ev b (by omega)) (Ev.bind (impl_PutPercent_ev c (by omega)) (Ev.bind ed (Ev.bind ee (Ev.bind ef ?_))))))))
    refine Ev.bind (impl_GetHex_ev d (by omega)) (Ev.bind (spec_GetHex_ev d (by omega)) (Ev.bind (impl_GetBase64_ev e (by omega)) (Ev.bind (spec_GetBase64_ev e (by omega)) (Ev.bind (impl_GetPercent_ev f (by omega)) (Ev.bind (spec_GetPercent_ev f (by omega)) ?_)))))
    refine Ev.bind (spec_PutHex_ev a (by omega)) (ev_pos rfl (Ev.bind (spec_PutBase64_ev b (by omega)) (ev_pos rfl (Ev.bind (spec_PutPercent_ev c (by omega)) (ev_pos rfl (ev_pos rfl (ev_neg (by simp) (ev_pos rfl (ev_neg (by simp) (ev_pos rfl ?_))))))))))
    refine codes_j0 a b c d e f ha hb hc _ _ _ _ _ _ _ ?_ ?_ ?_ (by simp)
    · intro ht
      have hq := getHex_back (L d) ht
      have hx : (getHex (L d)).1.length ≤ (L d).length := getHex_len (L d)
      rw [← size_L] at hx
      refine ⟨by rw [size_S]; omega, ?_⟩
      rw [L_S, hq, S_L]
    · intro ht
      have hq := fin_back e _ ht
      refine ⟨?_, hq⟩
      have h1 := b64_ge _ _ (Nat.le_refl (L (fin64 e (dec64 0 0 [] (L e))).1).length)
      have h2 := S_len hq
      rw [size_L]; omega
    · intro ht
      have hq := gpct_back (L f) ht
      have h1 := pct_ge (gpct (L f)).1
      rw [hq, ← size_L] at h1
      refine ⟨by rw [size_S]; omega, ?_⟩
      rw [L_S, hq, S_L]
end Go.Proofs.YtgfaphlpkjikkaaDoor.Pure
end

section
namespace Go.Proofs.YtgfaphlpkjikkaaDoor.fnCodes
open Go.ChangeShapes Go.WideShapes Go.ChangeAt Go.RowKit Go.Proofs.YtgfaphlpkjikkaaDoor Go.Proofs.YtgfaphlpkjikkaaDoor.G Go.Proofs.YtgfaphlpkjikkaaDoorW.PrintWords
open Go.ChangeMaps (open_string shut_string)
set_option linter.unusedVariables false
set_option linter.unusedSimpArgs false
theorem own : ownKnob Tryd.prog.godebug = none := by kernel_rfl
theorem laidOut : laidOutB Tryd.prog = true := by kernel_rfl
set_option maxRecDepth 100000 in
theorem contract (H : Type) (enc : TypeId × Value → H) (W : World) (base : Nat) (args : Array Value) (ds gs : List (DataW H)) (before : List MemPlace)
    (hval : ∀ (j : Nat) t v, Tryd.f14.params[j]? = some t → args[j]? = some v → Value.okWide Tryd.prog W .any base t v)
    (hW : DataW.Whole enc Tryd.prog Tryd.f14.params.toList Rows.fnCodesSpec.vars false W args.toList ds gs before) (hFC : Glob FactC W) :
    Calls Tryd.prog 14 args W fun e W' => ∃ v, e = .returned v ∧ Rows.fnCodesSpec.post enc Tryd.prog Tryd.f14 false true false false W args v W' := by
  have hW' := hW
  obtain ⟨p, q, hA0, hV, rfl, hfz, hnd⟩ := hW
  have hA : DataW.TrodAll enc Tryd.prog W 0 (fun _ => true) true Tryd.f14.params.toList args.toList ds p := hA0
  rw [Tryd.params14] at hA hval
  obtain ⟨v0, vs0, d0, ds0, p0, q0, hargs, rfl, rfl, h0, r0⟩ := trodAll_cons hA
  obtain ⟨rfl, rfl, rfl⟩ := trodAll_nil r0
  obtain rfl : args = #[v0] := by cases args; simp_all
  obtain ⟨rfl, rfl⟩ := trodVars_none hV
  obtain ⟨A0, len0, c0, rfl⟩ := okWide_slice Tryd.underlying45 (hval 0 45 v0 rfl rfl)
  have k0 := h0
  have lt0 : ∀ x ∈ p0, x.block < W.heap.size := by obtain ⟨m, hm⟩ := k0; exact DataW.trod_lt m _ _ _ hm
  obtain ⟨l0, rfl, hc0, hr0, z0⟩ := Op.arg_slice (Op.opens_slice (by kernel_rfl) Tryd.underlying45 (Op.opens_int (by kernel_rfl) Tryd.underlying5)) h0
  clear hA0
  obtain ⟨k, h⟩ := Pure.FnCodes l0 z0
  refine (laws_FnCodes.calls k A0 c0 l0 true W hr0 hc0 hFC rfl h).mono fun e W' ⟨he, bel0⟩ => ?_
  have bel : Below W.heap.size W W' := bel0
  subst he
  exact ⟨_, rfl, _, _, _, [], _, [], hW', trodAll_mk1 (shut_bool Tryd.underlying4 _), (trodAll_cons_mk (Below.trod laidOut (by kernel_rfl) (of_decide_eq_true (by kernel_rfl)) k0 bel lt0) trodAll_mk0), rfl, bel.frame _, fun h => by cases h⟩
set_option maxRecDepth 100000 in
theorem laid_met (os : Os) : laidMet Tryd.prog Rows.fnCodesRow.laid ((Laid.world os).forCall (fun _ _ => 0) ⟨#[], #[.slice none 0 0], []⟩).memory := by
  have h := Go.Proofs.laidMet_with_case (ρ := Tryd.lays159_ren) (show Go.Proofs.Lays.n274 Tryd.prog Tryd.lays159_ren from { Tryd.lays159 with }) (by kernel_rfl) Go.Proofs.YtgfaphlpkjikkaaDoor.G.caseExtra (w := ((Laid.world os).forCall (fun _ _ => 0) ⟨#[], #[.slice none 0 0], []⟩).memory) (l := [("unicode/utf8.acceptRanges", Rows.laid_unicode_utf8_acceptRanges)] ++ [("unicode/utf8.first", Rows.laid_unicode_utf8_first)]) Laid.fuel
    (by kernel_rfl) (by kernel_rfl) (by kernel_rfl) (Laid.R os) Laid.T (Laid.R_ne os) (by kernel_rfl) (by kernel_rfl) (by kernel_rfl)
  rw [← Pinned.caseRanges_eq] at h
  exact Laid.mid h
theorem reads (os : Os) {H : Type} (enc : TypeId × Value → H) : ∃ places, DataW.whole enc Tryd.prog ((Laid.world os).forCall (fun _ _ => 0) ⟨#[], #[.slice none 0 0], []⟩).memory Tryd.f14.params.toList Rows.fnCodesSpec.vars false (#[.slice none 0 0] : Array Value).toList 8 = some ([.nil], [], places) :=
  ⟨[], by kernel_rfl⟩
set_option maxRecDepth 100000 in
theorem lifted (os : Os) (started : os.Started) (H : Type) (enc : TypeId × Value → H) (F : Stop.Interp) :
    ReturnsInHanded {} Tryd.checked os 14 .any ((OpenSpec.ofChange Rows.fnCodesSpec).preRow enc Tryd.prog Tryd.f14 Rows.fnCodesRow.domain false Rows.fnCodesRow.laid) (((OpenSpec.ofChange Rows.fnCodesSpec).at F).post enc Tryd.prog Tryd.f14 false true false false) := by
  obtain ⟨places, hx⟩ := reads os enc
  refine returnsInHanded_of_row (C := Tryd.checked) (s := OpenSpec.ofChange Rows.fnCodesSpec) own started (by kernel_rfl) Tryd.func14
    (witness_row_atRef (enc := enc) (C := Tryd.checked) false (Laid.world os) #[.slice none 0 0] rfl (Laid.vars os _) (Laid.heap os _) (by kernel_rfl)
      (OpenSpec.preRow_of_cond 8 hx (by kernel_rfl) (fun k hk => by cases hk) (by kernel_rfl) (laid_met os))) ?_
  intro W base args ds gs before hval hW _ _ _ hL hS _
  exact contract H enc W base args ds gs before hval hW (FactC_of hS hL (fun h => h) (by repeat (first | exact List.Mem.head _ | apply List.Mem.tail)) (by repeat (first | exact List.Mem.head _ | apply List.Mem.tail)) (by repeat (first | exact List.Mem.head _ | apply List.Mem.tail)) rfl rfl (by kernel_rfl))
theorem j10 : (Rows.fnCodesRow.inPlace == Tryd.prog.inPlace 14) = true := by kernel_rfl
theorem j11 : (Rows.fnCodesRow.unfollowed == Tryd.prog.unfollowed 14) = true := by kernel_rfl
theorem j12 : (Rows.fnCodesRow.recurses == Tryd.prog.recurses 14) = true := by kernel_rfl
theorem j13 : (Rows.fnCodesRow.named == Tryd.prog.varsNamed 14) = true := by kernel_rfl
set_option maxRecDepth 100000 in
theorem closed : joinedFacts Tryd.prog 14 Tryd.f14 (OpenSpec.ofChange Rows.fnCodesSpec).bare Rows.fnCodesRow = true :=
  (Facts.and_mk (Facts.and_mk (Facts.and_mk (Facts.and_mk (Facts.and_mk (Facts.and_mk (Facts.and_mk (Facts.and_mk (Facts.and_mk (Facts.and_mk (Facts.and_mk (Facts.and_mk (Facts.and_mk (Facts.and_mk (Facts.and_mk (Facts.and_mk (Facts.and_mk (Facts.and_mk (Facts.and_mk (Facts.and_mk (Facts.and_mk (Facts.and_mk (Facts.and_mk (Facts.and_mk (Facts.and_mk (Facts.and_mk (Facts.and_mk (Facts.and_mk (Facts.and_mk (Facts.and_mk (Facts.and_mk (by kernel_rfl) Facts.laidOut) Facts.mapsRowed) (by kernel_rfl)) (by kernel_rfl)) (by kernel_rfl)) (by kernel_rfl)) (by kernel_rfl)) (by kernel_rfl)) j10) j11) j12) j13) (by kernel_rfl)) (by kernel_rfl)) (by kernel_rfl)) (by kernel_rfl)) (by kernel_rfl)) (by kernel_rfl)) (by kernel_rfl)) (by kernel_rfl)) (by kernel_rfl)) (Facts.plainKeys _ rfl)) (by kernel_rfl)) Facts.heard) Facts.mayEnter) (Facts.lifts _ rfl)) (Facts.make _ rfl)) (by kernel_rfl)) (by kernel_rfl)) (by kernel_rfl)) (by kernel_rfl))
theorem goes : false = Rows.fnCodesRow.goesBy Tryd.prog := by kernel_rfl
theorem said : Rows.FnCodesSaid :=
  OpenClaim.holds_of_cond 14 Tryd.f14 rfl rfl rfl rfl rfl rfl rfl ⟨rfl, rfl, rfl, rfl, rfl⟩ rfl rfl rfl rfl rfl (by kernel_rfl) Tryd.func14 closed
    (of_decide_eq_true (by kernel_rfl)) (by unfold Func.isWrapper; first | (rw [if_pos (by decide +kernel)]; kernel_rfl) | (rw [if_neg (by decide +kernel)]; exact ⟨rfl, rfl⟩))
    (fun os started H enc _ F => by rw [OpenClaim.pre_eq_preRow]; exact lifted os started H enc F)
theorem plain (f : FuncId) (fn : Func) (hf : Tryd.pinned.checked.prog.funcNamed "loop.example/g00445/laws.FnCodes" = some f) (hfn : Tryd.pinned.checked.prog.funcs[f]? = some fn) :
    true = Tryd.pinned.checked.prog.looks [] ∧ ∀ (j : Nat) t, fn.params[j]? = some t → Tryd.pinned.checked.prog.wantsStandIn t = false := by
  obtain rfl : f = 14 := Option.some.inj ((show Tryd.prog.funcNamed "loop.example/g00445/laws.FnCodes" = some 14 by kernel_rfl).symm.trans hf) |>.symm
  obtain rfl : fn = Tryd.f14 := (Option.some.inj (Tryd.func14.symm.trans hfn)).symm
  refine ⟨Facts.looks, fun j t ht => ?_⟩
  rw [Tryd.params14] at ht
  have hm := Array.mem_of_getElem? ht
  have hall : (#[45] : Array TypeId).all (fun t => Tryd.prog.wantsStandIn t == false) = true := by kernel_rfl
  show Tryd.prog.wantsStandIn t = false
  have h1 := Array.all_eq_true'.1 hall t hm
  exact beq_iff_eq.1 h1
theorem proved : Rows.FnCodesCardSaid :=
  Claim7.holds_tied_plain_at .later [] _ _ _ _ said (fun _ h => by cases h) (by kernel_rfl) (fun _ h => by cases h) fnCodes_row_tie rfl ⟨rfl, rfl⟩ Facts.main rfl plain goes
end Go.Proofs.YtgfaphlpkjikkaaDoor.fnCodes
namespace Go.Proofs.YtgfaphlpkjikkaaDoor
/-- The statement, under a short name, for the claim. -/
theorem fnCodes_holds : Rows.FnCodesCardSaid := fnCodes.proved
end Go.Proofs.YtgfaphlpkjikkaaDoor
end
