/- What PutBase64 answers, of the program and of the reference. -/
import Derived.Test.YtgfaphlpkjikkaaDoorU0
import Derived.Test.YtgfaphlpkjikkaaDoorGspecPutBase64
import Derived.Test.YtgfaphlpkjikkaaDoorGimplPutBase64
namespace Go.Proofs.YtgfaphlpkjikkaaDoor.U
open Go Go.RowKit Go.Proofs.YtgfaphlpkjikkaaDoorW.PrintWords Go.Proofs.YtgfaphlpkjikkaaDoorW.PrintMore Go.Proofs.YtgfaphlpkjikkaaDoor.G
set_option linter.unusedVariables false
set_option linter.unusedSimpArgs false

def sig : B := [65, 66, 67, 68, 69, 70, 71, 72, 73, 74, 75, 76, 77, 78, 79, 80, 81, 82, 83, 84, 85, 86, 87, 88, 89, 90, 97, 98, 99, 100, 101, 102, 103, 104, 105, 106, 107, 108, 109, 110, 111, 112, 113, 114, 115, 116, 117, 118, 119, 120, 121, 122, 48, 49, 50, 51, 52, 53, 54, 55, 56, 57, 43, 47]
/-- The number of the first three bytes, zeros behind the end. -/
def val (l : B) : Nat := (at_ l 0).toNat * 65536 + (at_ l 1).toNat * 256 + (at_ l 2).toNat
/-- Four signs of a number of which m bytes are there. -/
def sign (n m k : Nat) : UInt8 := if m < k then 61 else at_ sig (n / 2 ^ (18 - 6 * k) % 64)
def four (n m : Nat) : B := [sign n m 0, sign n m 1, sign n m 2, sign n m 3]
def b64 (l : B) : B := if l.length = 0 then [] else four (val l) (min 3 l.length) ++ b64 (l.drop 3)
termination_by l.length
decreasing_by simp; omega
theorem b64_nil : b64 [] = [] := by rw [b64]; rfl
theorem b64_step (l : B) (h : 0 < l.length) : b64 l = four (val l) (min 3 l.length) ++ b64 (l.drop 3) := by rw [b64, if_neg (by omega)]
theorem at_drop (l : B) (i j : Nat) : at_ (l.drop i) j = at_ l (i + j) := by simp [at_, List.getD_eq_getElem?_getD]
theorem at_behind (l : B) (i : Nat) (h : l.length ≤ i) : at_ l i = 0 := by simp [at_, List.getD_eq_getElem?_getD, List.getElem?_eq_none h]

theorem wrap62 (n : Int) (h0 : 0 ≤ n) (h1 : n < 2 ^ 62) : IntKind.i64.wrap n = n := by
  rw [IntKind.wrap_i64]
  have : (2 : Int) ^ 62 = 4611686018427387904 := by decide
  omega
theorem and63 (x : Int) (h0 : 0 ≤ x) (h1 : x < 4611686018427387904) : Go.bits .and .i64 x 63 = x % 64 :=
  bits_mask .i64 62 (by decide) wrap62 6 (by decide) x h0 (by have : (2 : Int) ^ 62 = 4611686018427387904 := by decide
                                                              omega)
theorem or256 (x y : Int) (h0 : 0 ≤ x) (h1 : x < 16777216) (hy0 : 0 ≤ y) (hy1 : y < 256) : Go.bits .or .i64 (x * 256) y = x * 256 + y := by
  have e62 : (2 : Int) ^ 62 = 4611686018427387904 := by decide
  have e8 : (2 : Int) ^ 8 = 256 := by decide
  exact bits_join .i64 62 (by decide) wrap62 8 _ _ (by omega) (by rw [e8]; omega) (by rw [e62]; omega) hy0 (by rw [e8]; omega) (by rw [e62]; omega)
theorem sig_bits (n k : Nat) (hn : n < 16777216) (hk : k < 4) : Go.bits .and .i64 (shr .i64 (n : Int) (wrap64 (18 - wrap64 (6 * (k : Int))))) 63 = ((n / 2 ^ (18 - 6 * k) % 64 : Nat) : Int) := by
  rw [w64 (n := 6 * (k : Int)) (by omega) (by omega), w64 (by omega) (by omega)]
  unfold shr
  have e : min (18 - 6 * (k : Int)).toNat IntKind.i64.bits = 18 - 6 * k := by
    rw [show IntKind.i64.bits = 64 from rfl]; omega
  rw [e]
  have e2 : (n : Int) / 2 ^ (18 - 6 * k) = ((n / 2 ^ (18 - 6 * k) : Nat) : Int) := by push_cast; rfl
  have h3 : n / 2 ^ (18 - 6 * k) ≤ n := Nat.div_le_self _ _
  generalize n / 2 ^ (18 - 6 * k) = m at *
  rw [e2, and63 _ (by omega) (by omega)]
  omega

theorem zero_byte (n : Nat) : ((n * 256 + (0 : UInt8).toNat : Nat) : Int) = (n : Int) * 256 := by
  have : (0 : UInt8).toNat = 0 := rfl
  omega
theorem val_lt (l : B) : val l < 16777216 := by
  unfold val
  have := (at_ l 0).toNat_lt; have := (at_ l 1).toNat_lt; have := (at_ l 2).toNat_lt
  omega
theorem sig_S : (⟨#[65, 66, 67, 68, 69, 70, 71, 72, 73, 74, 75, 76, 77, 78, 79, 80, 81, 82, 83, 84, 85, 86, 87, 88, 89, 90, 97, 98, 99, 100, 101, 102, 103, 104, 105, 106, 107, 108, 109, 110, 111, 112, 113, 114, 115, 116, 117, 118, 119, 120, 121, 122, 48, 49, 50, 51, 52, 53, 54, 55, 56, 57, 43, 47]⟩ : ByteArray) = S sig := rfl
theorem sig_size : (S sig).size = 64 := rfl
theorem four_len (n m : Nat) : (four n m).length = 4 := rfl

theorem spec_PutBase64_ev (s : ByteArray) (hs : s.size ≤ 1099511627776) : Ev (fun k => spec_PutBase64.f k s) (S (b64 (L s))) := by
  have hsz := size_L s
  have key : ∀ (d i : Nat) (acc : B), (L s).length - i ≤ d → acc.length ≤ 2 * i → i ≤ (L s).length + 3 → Ev (fun k => spec_PutBase64.l0 k s (I acc) (S sig) (i : Int)) (S (acc ++ b64 ((L s).drop i))) := by
    intro d
    induction d with
    | zero =>
      intro i acc hd ha hi
      refine Ev.step (f := fun k => some (S acc)) (fun k => by rw [spec_PutBase64.l0, if_neg (by omega), str_I]) (ev_use (Ev.now _) ?_)
      rw [List.drop_of_length_le (by omega), b64_nil, List.append_nil]
    | succ d ih =>
      intro i acc hd ha hi
      by_cases hlt : i < (L s).length
      · have hlen : ((L s).drop i).length = (L s).length - i := by simp
        have hv := val_lt ((L s).drop i)
        have hve : val ((L s).drop i) = (at_ (L s) i).toNat * 65536 + (at_ (L s) (i + 1)).toNat * 256 + (at_ (L s) (i + 2)).toNat := by unfold val; rw [at_drop, at_drop, at_drop]; rfl
        rw [b64_step _ (by omega), hlen]
        refine Ev.step (f := fun k => spec_PutBase64.l1 k s (I acc) (S sig) (i : Int) 0 0 (i : Int)) (fun k => by rw [spec_PutBase64.l0, if_pos (by omega)]) ?_
        -- the four signs
        have emit : ∀ (n m : Nat), n < 16777216 → Ev (fun k => spec_PutBase64.l0 k s (I (acc ++ four n m)) (S sig) ((i + 3 : Nat) : Int)) (S ((acc ++ four n m) ++ b64 ((L s).drop (i + 3)))) → Ev (fun k => spec_PutBase64.l2 k s (I acc) (S sig) (i : Int) (n : Int) (m : Int) 0) (S ((acc ++ four n m) ++ b64 ((L s).drop (i + 3)))) := by
          intro n m hn hcont
          have one : ∀ (j : Nat) (q : B) (r : ByteArray), j < 4 → q.length = j → Ev (fun k => spec_PutBase64.l2 k s (I (acc ++ (q ++ [sign n m j]))) (S sig) (i : Int) (n : Int) (m : Int) ((j + 1 : Nat) : Int)) r → Ev (fun k => spec_PutBase64.l2 k s (I (acc ++ q)) (S sig) (i : Int) (n : Int) (m : Int) (j : Int)) r := by
            intro j q r hj hq h
            have hb := sig_bits n j hn hj
            refine Ev.step (f := fun k => spec_PutBase64.l2 k s (I (acc ++ (q ++ [sign n m j]))) (S sig) (i : Int) (n : Int) (m : Int) ((j + 1 : Nat) : Int)) (fun k => ?_) h
            rw [spec_PutBase64.l2, if_pos (by omega), wa1 j (by omega)]
            by_cases hm : m < j
            · rw [if_pos (by omega), if_pos (by simp; omega)]
              rw [sign, if_pos hm, ← List.append_assoc acc q, I_append (acc ++ q)]; rfl
            · rw [if_neg (by omega), hb, if_pos ?_, if_pos (by omega), if_pos (by rw [sig_size]; omega), if_pos (by simp; omega)]
              · rw [sign, if_neg hm, ← List.append_assoc acc q, I_append (acc ++ q), bt_nat, L_S]; rfl
              · rw [w64 (n := 6 * (j : Int)) (by omega) (by omega), w64 (by omega) (by omega)]; omega
          have fin : Ev (fun k => spec_PutBase64.l2 k s (I (acc ++ four n m)) (S sig) (i : Int) (n : Int) (m : Int) ((4 : Nat) : Int)) (S ((acc ++ four n m) ++ b64 ((L s).drop (i + 3)))) := by
            refine Ev.step (f := fun k => spec_PutBase64.l0 k s (I (acc ++ four n m)) (S sig) ((i + 3 : Nat) : Int)) (fun k => ?_) hcont
            rw [spec_PutBase64.l2, if_neg (by omega), wa3 i (by omega)]
          have h := one 0 [] _ (by omega) rfl (one 1 [sign n m 0] _ (by omega) rfl (one 2 [sign n m 0, sign n m 1] _ (by omega) rfl (one 3 [sign n m 0, sign n m 1, sign n m 2] _ (by omega) rfl fin)))
          rw [List.append_nil] at h
          exact h
        -- the three bytes
        have take : ∀ (j n m : Nat) (r : ByteArray), j < 3 → n < 65536 → m ≤ j → Ev (fun k => spec_PutBase64.l1 k s (I acc) (S sig) (i : Int) ((n * 256 + (at_ (L s) (i + j)).toNat : Nat) : Int) ((m + (if i + j < (L s).length then 1 else 0) : Nat) : Int) ((i + j + 1 : Nat) : Int)) r → Ev (fun k => spec_PutBase64.l1 k s (I acc) (S sig) (i : Int) (n : Int) (m : Int) ((i + j : Nat) : Int)) r := by
          intro j n m r hj hn hm h
          have hb := byte_lt (at_ (L s) (i + j))
          refine Ev.step (f := fun k => spec_PutBase64.l1 k s (I acc) (S sig) (i : Int) ((n * 256 + (at_ (L s) (i + j)).toNat : Nat) : Int) ((m + (if i + j < (L s).length then 1 else 0) : Nat) : Int) ((i + j + 1 : Nat) : Int)) (fun k => ?_) h
          rw [spec_PutBase64.l1, wa3 i (by omega), if_pos (by omega), wa1 (i + j) (by omega)]
          by_cases hl : i + j < (L s).length
          · rw [if_pos (by omega), if_pos (by omega), bt_nat, w64 (n := (n : Int) * 256) (by omega) (by omega), w64 (n := ((at_ (L s) (i + j)).toNat : Int)) (by omega) (by omega), w64 (by omega) (by omega), wa1 m (by omega), if_pos hl]
            rw [show ((n * 256 + (at_ (L s) (i + j)).toNat : Nat) : Int) = (n : Int) * 256 + ((at_ (L s) (i + j)).toNat : Int) by omega]
          · rw [if_neg (by omega), w64 (by omega) (by omega), if_neg hl, at_behind _ _ (by omega)]
            rw [show ((n * 256 + (0 : UInt8).toNat : Nat) : Int) = (n : Int) * 256 from zero_byte n]
            simp only [Nat.add_zero]
        have e0 : ∀ (j : Nat), (at_ (L s) j).toNat < 256 := fun j => (at_ (L s) j).toNat_lt
        have a0 := e0 i; have a1 := e0 (i + 1); have a2 := e0 (i + 2)
        refine take 0 0 0 _ (by omega) (by omega) (by omega) ?_
        refine take 1 _ _ _ (by omega) (by simp only [Nat.add_zero]; omega) (by split <;> omega) ?_
        refine take 2 _ _ _ (by omega) (by simp only [Nat.add_zero]; omega) (by split <;> split <;> omega) ?_
        have hnn : ((0 * 256 + (at_ (L s) (i + 0)).toNat) * 256 + (at_ (L s) (i + 1)).toNat) * 256 + (at_ (L s) (i + 2)).toNat = val ((L s).drop i) := by
          have hve' := hve
          simp only [Nat.add_zero, Nat.zero_mul, Nat.zero_add]
          generalize (at_ (L s) i).toNat = x0 at *
          generalize (at_ (L s) (i + 1)).toNat = x1 at *
          generalize (at_ (L s) (i + 2)).toNat = x2 at *
          omega
        have hmm : 0 + (if i + 0 < (L s).length then 1 else 0) + (if i + 1 < (L s).length then 1 else 0) + (if i + 2 < (L s).length then 1 else 0) = min 3 ((L s).length - i) := by
          rw [if_pos (by omega)]; split <;> split <;> omega
        rw [hnn, hmm]
        refine Ev.step (f := fun k => spec_PutBase64.l2 k s (I acc) (S sig) (i : Int) (val ((L s).drop i) : Int) ((min 3 ((L s).length - i) : Nat) : Int) 0) (fun k => by rw [spec_PutBase64.l1, wa3 i (by omega), if_neg (by omega)]) ?_
        refine ev_use (emit _ _ hv (ih (i + 3) _ (by omega) (by simp [four_len]; omega) (by omega))) ?_
        rw [List.append_assoc, List.drop_drop]
      · refine Ev.step (f := fun k => some (S acc)) (fun k => by rw [spec_PutBase64.l0, if_neg (by omega), str_I]) (ev_use (Ev.now _) ?_)
        rw [List.drop_of_length_le (by omega), b64_nil, List.append_nil]
  unfold spec_PutBase64.f spec_l01Signs.f
  refine ev_some ?_
  rw [sig_S]
  exact ev_use (key _ 0 [] (Nat.le_refl _) (by simp) (by omega)) (by simp)

theorem part_extract (s : ByteArray) (i : Nat) (h : i < (L s).length) (hs : s.size ≤ 1099511627776) : s.extract i (min (i + 3) s.size) = S (((L s).drop i).take 3) := L_inj (by
  rw [L_extract, L_S, size_L]
  by_cases h3 : i + 3 ≤ (L s).length
  · rw [show min (i + 3) (L s).length - i = 3 by omega]
  · rw [show min (i + 3) (L s).length - i = (L s).length - i by omega, List.take_of_length_le (by simp), List.take_of_length_le (by simp; omega)])
theorem impl_PutBase64_ev (s : ByteArray) (hs : s.size ≤ 1099511627776) : Ev (fun k => impl_PutBase64.f k s) (S (b64 (L s))) := by
  have hsz := size_L s
  have key : ∀ (d i : Nat) (acc : B), (L s).length - i ≤ d → acc.length ≤ 2 * i → i ≤ (L s).length + 3 → Ev (fun k => impl_PutBase64.l0 k s (I acc) (i : Int)) (S (acc ++ b64 ((L s).drop i))) := by
    intro d
    induction d with
    | zero =>
      intro i acc hd ha hi
      refine Ev.step (f := fun k => some (S acc)) (fun k => by rw [impl_PutBase64.l0, if_neg (by omega), str_I]) (ev_use (Ev.now _) ?_)
      rw [List.drop_of_length_le (by omega), b64_nil, List.append_nil]
    | succ d ih =>
      intro i acc hd ha hi
      by_cases hlt : i < (L s).length
      · have hlen : ((L s).drop i).length = (L s).length - i := by simp
        have hv := val_lt ((L s).drop i)
        have hve : val ((L s).drop i) = (at_ (L s) i).toNat * 65536 + (at_ (L s) (i + 1)).toNat * 256 + (at_ (L s) (i + 2)).toNat := by unfold val; rw [at_drop, at_drop, at_drop]; rfl
        rw [b64_step _ (by omega), hlen]
        have hmn : mn (wrap64 ((i : Int) + 3)) (s.size : Int) = ((min (i + 3) s.size : Nat) : Int) := by
          rw [wa3 i (by omega)]; unfold mn; split <;> omega
        have hpl : (((L s).drop i).take 3).length = min 3 ((L s).length - i) := by rw [List.length_take, hlen]
        have hpa : ∀ j, j < 3 → at_ (((L s).drop i).take 3) j = at_ (L s) (i + j) := by
          intro j hj
          rw [← at_drop]
          simp [at_, List.getD_eq_getElem?_getD, List.getElem?_take, hj]
        refine Ev.step (f := fun k => impl_PutBase64.l1 k s (I acc) (i : Int) (S (((L s).drop i).take 3)) 0 0) (fun k => by rw [impl_PutBase64.l0, if_pos (by omega), if_pos (by omega), hmn, if_pos (by omega), if_pos (by omega), Int.toNat_natCast, Int.toNat_natCast, part_extract s i hlt hs]) ?_
        generalize hp : ((L s).drop i).take 3 = p at *
        have emit : ∀ (n m : Nat), n < 16777216 → m = p.length → Ev (fun k => impl_PutBase64.l0 k s (I (acc ++ four n m)) ((i + 3 : Nat) : Int)) (S ((acc ++ four n m) ++ b64 ((L s).drop (i + 3)))) → Ev (fun k => impl_PutBase64.l2 k s (I acc) (i : Int) (S p) (n : Int) 0) (S ((acc ++ four n m) ++ b64 ((L s).drop (i + 3)))) := by
          intro n m hn hmp hcont
          have one : ∀ (j : Nat) (q : B) (r : ByteArray), j < 4 → q.length = j → Ev (fun k => impl_PutBase64.l2 k s (I (acc ++ (q ++ [sign n m j]))) (i : Int) (S p) (n : Int) ((j + 1 : Nat) : Int)) r → Ev (fun k => impl_PutBase64.l2 k s (I (acc ++ q)) (i : Int) (S p) (n : Int) (j : Int)) r := by
            intro j q r hj hq h
            have hb := sig_bits n j hn hj
            refine Ev.step (f := fun k => impl_PutBase64.l2 k s (I (acc ++ (q ++ [sign n m j]))) (i : Int) (S p) (n : Int) ((j + 1 : Nat) : Int)) (fun k => ?_) h
            rw [impl_PutBase64.l2, if_pos (by omega), wa1 j (by omega), size_S, sig_S]
            by_cases hm : m < j
            · rw [if_neg (by omega), if_pos (by simp; omega)]
              rw [sign, if_pos hm, ← List.append_assoc acc q, I_append (acc ++ q)]; rfl
            · rw [if_pos (by omega), hb, if_pos ?_, if_pos (by omega), if_pos (by omega), if_pos (by simp; omega)]
              · rw [sign, if_neg hm, ← List.append_assoc acc q, I_append (acc ++ q), bt_nat, L_S]; rfl
              · rw [w64 (n := 6 * (j : Int)) (by omega) (by omega), w64 (by omega) (by omega)]; omega
          have fin : Ev (fun k => impl_PutBase64.l2 k s (I (acc ++ four n m)) (i : Int) (S p) (n : Int) ((4 : Nat) : Int)) (S ((acc ++ four n m) ++ b64 ((L s).drop (i + 3)))) := by
            refine Ev.step (f := fun k => impl_PutBase64.l0 k s (I (acc ++ four n m)) ((i + 3 : Nat) : Int)) (fun k => ?_) hcont
            rw [impl_PutBase64.l2, if_neg (by omega), wa3 i (by omega)]
          have h := one 0 [] _ (by omega) rfl (one 1 [sign n m 0] _ (by omega) rfl (one 2 [sign n m 0, sign n m 1] _ (by omega) rfl (one 3 [sign n m 0, sign n m 1, sign n m 2] _ (by omega) rfl fin)))
          rw [List.append_nil] at h
          exact h
        have take : ∀ (j n : Nat) (r : ByteArray), j < 3 → n < 65536 → Ev (fun k => impl_PutBase64.l1 k s (I acc) (i : Int) (S p) ((n * 256 + (at_ (L s) (i + j)).toNat : Nat) : Int) ((j + 1 : Nat) : Int)) r → Ev (fun k => impl_PutBase64.l1 k s (I acc) (i : Int) (S p) (n : Int) (j : Int)) r := by
          intro j n r hj hn h
          have hb := byte_lt (at_ (L s) (i + j))
          refine Ev.step (f := fun k => impl_PutBase64.l1 k s (I acc) (i : Int) (S p) ((n * 256 + (at_ (L s) (i + j)).toNat : Nat) : Int) ((j + 1 : Nat) : Int)) (fun k => ?_) h
          rw [impl_PutBase64.l1, if_pos (by omega), wa1 j (by omega), size_S]
          by_cases hl : i + j < (L s).length
          · rw [if_pos (by omega), if_pos (by omega), bt_nat, L_S, hpa j hj, w64 (n := (n : Int) * 256) (by omega) (by omega), w64 (n := ((at_ (L s) (i + j)).toNat : Int)) (by omega) (by omega), or256 _ _ (by omega) (by omega) (by omega) hb]
            rw [show ((n * 256 + (at_ (L s) (i + j)).toNat : Nat) : Int) = (n : Int) * 256 + ((at_ (L s) (i + j)).toNat : Int) by omega]
          · rw [if_neg (by omega), w64 (by omega) (by omega), at_behind _ _ (by omega)]
            rw [show ((n * 256 + (0 : UInt8).toNat : Nat) : Int) = (n : Int) * 256 from zero_byte n]
        have e0 : ∀ (j : Nat), (at_ (L s) j).toNat < 256 := fun j => (at_ (L s) j).toNat_lt
        have a0 := e0 i; have a1 := e0 (i + 1); have a2 := e0 (i + 2)
        refine take 0 0 _ (by omega) (by omega) ?_
        refine take 1 _ _ (by omega) (by simp only [Nat.add_zero]; omega) ?_
        refine take 2 _ _ (by omega) (by simp only [Nat.add_zero]; omega) ?_
        have hnn : ((0 * 256 + (at_ (L s) (i + 0)).toNat) * 256 + (at_ (L s) (i + 1)).toNat) * 256 + (at_ (L s) (i + 2)).toNat = val ((L s).drop i) := by
          have hve' := hve
          simp only [Nat.add_zero, Nat.zero_mul, Nat.zero_add]
          generalize (at_ (L s) i).toNat = x0 at *
          generalize (at_ (L s) (i + 1)).toNat = x1 at *
          generalize (at_ (L s) (i + 2)).toNat = x2 at *
          omega
        rw [hnn]
        refine Ev.step (f := fun k => impl_PutBase64.l2 k s (I acc) (i : Int) (S p) (val ((L s).drop i) : Int) 0) (fun k => by rw [impl_PutBase64.l1, if_neg (by omega)]) ?_
        refine ev_use (emit _ _ hv hpl.symm (ih (i + 3) _ (by omega) (by simp [four_len]; omega) (by omega))) ?_
        rw [List.append_assoc, List.drop_drop]
      · refine Ev.step (f := fun k => some (S acc)) (fun k => by rw [impl_PutBase64.l0, if_neg (by omega), str_I]) (ev_use (Ev.now _) ?_)
        rw [List.drop_of_length_le (by omega), b64_nil, List.append_nil]
  exact ev_use (key _ 0 [] (Nat.le_refl _) (by simp) (by omega)) (by simp)
end Go.Proofs.YtgfaphlpkjikkaaDoor.U
