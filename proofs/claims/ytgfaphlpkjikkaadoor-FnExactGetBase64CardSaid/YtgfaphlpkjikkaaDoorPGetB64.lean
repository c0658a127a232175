/- What GetBase64 answers, of the program and of the reference. -/
import Derived.Test.YtgfaphlpkjikkaaDoorPB64
import Derived.Test.YtgfaphlpkjikkaaDoorPIdx
import Derived.Test.YtgfaphlpkjikkaaDoorU1
import Derived.Test.YtgfaphlpkjikkaaDoorGspecGetBase64
import Derived.Test.YtgfaphlpkjikkaaDoorGimplGetBase64
namespace Go.Proofs.YtgfaphlpkjikkaaDoor.U
open Go Go.RowKit Go.Proofs.YtgfaphlpkjikkaaDoorW.PrintWords Go.Proofs.YtgfaphlpkjikkaaDoorW.PrintMore Go.Proofs.YtgfaphlpkjikkaaDoor.G
set_option linter.unusedVariables false
set_option linter.unusedSimpArgs false

/-- A sign's number. -/
def dg (c : UInt8) : Nat := (idx sig c).toNat
/-- One more digit: the last four digits as a number. -/
def nx (n : Nat) (c : UInt8) : Nat := n * 64 % 16777216 + dg c
/-- The bytes that the signs at a text's head make: n the last four digits, m how many there were. -/
def dec64 : Nat → Nat → B → B → B
  | _, _, acc, [] => acc
  | n, m, acc, c :: l => if idx sig c < 0 then acc else dec64 (nx n c) (m + 1) (if (m + 1) % 4 = 1 then acc else acc ++ [UInt8.ofNat (nx n c / 2 ^ (2 * (3 - m % 4)) % 256)]) l
/-- What both answer at the end. -/
def fin64 (s : ByteArray) (out : B) : ByteArray × Bool := if b64 out = L s then (S out, true) else (S [], false)
theorem dg_lt (c : UInt8) : dg c < 64 := by
  have h := idx_lt sig c
  have e : sig.length = 64 := rfl
  unfold dg; omega
theorem nx_lt (n : Nat) (c : UInt8) : nx n c < 16777216 := by have := dg_lt c; unfold nx; omega
theorem fin_ev (s : ByteArray) (out : B) {g : Nat → Option ByteArray} (h : Ev g (S (b64 out))) :
    Ev (fun k => (g k).bind fun t => if t.toList = s.toList then some (S out, true) else some (S [], false)) (fin64 s out) := by
  refine Ev.bind h ?_
  unfold fin64
  by_cases hc : b64 out = L s
  · rw [if_pos hc]; exact ev_pos (by rw [toList_S, toList_L, hc]) (Ev.now _)
  · rw [if_neg hc]; exact ev_neg (by rw [toList_S, toList_L]; exact hc) (Ev.now _)
theorem and24 (x : Int) (h0 : 0 ≤ x) (h1 : x < 4611686018427387904) : Go.bits .and .i64 x 16777215 = x % 16777216 :=
  bits_mask .i64 62 (by decide) wrap62 24 (by decide) x h0 (by have : (2 : Int) ^ 62 = 4611686018427387904 := by decide
                                                               omega)
theorem spec_num (n : Nat) (c : UInt8) (hn : n < 16777216) (hc : 0 ≤ idx sig c) : wrap64 (Go.bits .and .i64 (wrap64 ((n : Int) * 64)) 16777215 + idx sig c) = (nx n c : Int) := by
  have := dg_lt c
  have e : idx sig c = (dg c : Int) := by unfold dg; omega
  rw [w64 (n := (n : Int) * 64) (by omega) (by omega), and24 _ (by omega) (by omega), e, w64 (by omega) (by omega)]
  unfold nx; omega
theorem shr_nat (n j : Nat) (hj : j ≤ 64) : shr .i64 (n : Int) (j : Int) = ((n / 2 ^ j : Nat) : Int) := by
  unfold shr
  have e : min ((j : Nat) : Int).toNat IntKind.i64.bits = j := by rw [show IntKind.i64.bits = 64 from rfl]; omega
  rw [e]; push_cast; rfl

theorem tm_eq (m : Nat) : Int.tmod (m : Int) 4 = ((m % 4 : Nat) : Int) := by rw [Int.tmod_eq_emod_of_nonneg (by omega)]; rfl
theorem sh_eq (m : Nat) (h : m ≤ 1048576) : wrap64 (2 * wrap64 (3 - Int.tmod (wrap64 (((m + 1 : Nat) : Int) - 1)) 4)) = ((2 * (3 - m % 4) : Nat) : Int) := by
  have e : wrap64 (((m + 1 : Nat) : Int) - 1) = (m : Int) := by rw [w64 (by omega) (by omega)]; omega
  rw [e, tm_eq]
  clear e
  generalize hq : m % 4 = q
  have : q < 4 := by omega
  rw [w64 (n := 3 - (q : Int)) (by omega) (by omega), w64 (by omega) (by omega)]; omega
theorem byte_app (acc : B) (x : Nat) : I acc ++ [((x : Nat) : Int) % 256] = I (acc ++ [UInt8.ofNat (x % 256)]) := by
  rw [I_append]; congr 1
  show _ = [((UInt8.ofNat _).toNat : Int)]
  rw [UInt8.toNat_ofNat']
  congr 1; omega
theorem spec_GetBase64_ev (s : ByteArray) (hs : s.size ≤ 1048576) : Ev (fun k => spec_GetBase64.f k s) (fin64 s (dec64 0 0 [] (L s))) := by
  have hsz := size_L s
  have put : ∀ out : B, out.length ≤ 1048576 → Ev (fun k => (spec_PutBase64.f k (strOfNums (I out))).bind fun t => if t.toList = s.toList then some (strOfNums (I out), true) else some ((⟨#[]⟩ : ByteArray), false)) (fin64 s out) := by
    intro out ho
    rw [str_I]
    have h := spec_PutBase64_ev (S out) (by rw [size_S]; omega)
    rw [L_S] at h
    exact fin_ev s out h
  have key : ∀ (d i n m : Nat) (acc : B), i + d = (L s).length → n < 16777216 → m ≤ i → acc.length ≤ i → Ev (fun k => spec_GetBase64.l0 k s (I acc) (n : Int) (m : Int) (i : Int)) (fin64 s (dec64 n m acc ((L s).drop i))) := by
    intro d
    induction d with
    | zero =>
      intro i n m acc hi hn hm ha
      rw [List.drop_of_length_le (by omega)]
      exact Ev.step (fun k => by rw [spec_GetBase64.l0, if_neg (by omega)]) (put acc (by omega))
    | succ d ih =>
      intro i n m acc hi hn hm ha
      have hlt : i < (L s).length := by omega
      rw [drop_at (L s) i hlt]
      have hat := spec_l01At_ev (S sig) (at_ (L s) i) (by rw [sig_size]; omega)
      rw [L_S] at hat
      unfold dec64
      have hb : bt s (i : Int) = ((at_ (L s) i).toNat : Int) := bt_nat s i
      refine Ev.step (fun k => (by rw [spec_GetBase64.l0, if_pos (by omega), spec_l01Signs.f, Option.bind_some, if_pos (by omega), hb, sig_S])) ?_
      refine Ev.bind hat ?_
      by_cases hc : idx sig (at_ (L s) i) < 0
      · rw [if_pos hc]
        exact ev_pos hc (put acc (by omega))
      · rw [if_neg hc]
        refine ev_neg hc ?_
        rw [spec_num n _ hn (Int.not_lt.1 hc), wa1 m (by omega), wa1 i (by omega), tm_eq (m + 1)]
        by_cases h1 : (m + 1) % 4 = 1
        · rw [if_pos h1]
          refine ev_pos (by omega) ?_
          exact ih (i + 1) _ _ _ (by omega) (nx_lt _ _) (by omega) (by omega)
        · rw [if_neg h1]
          refine ev_neg (by omega) ?_
          rw [sh_eq m (by omega), shr_nat _ _ (by omega)]
          refine ev_pos (by omega) (ev_pos (by rw [I_length]; omega) ?_)
          rw [byte_app]
          exact ih (i + 1) _ _ _ (by omega) (nx_lt _ _) (by omega) (by rw [List.length_append]; simp; omega)
  exact ev_use (key (L s).length 0 0 0 [] (by omega) (by omega) (by omega) (by simp)) (by rw [List.drop_zero])
end Go.Proofs.YtgfaphlpkjikkaaDoor.U
