/- A part of the proof that the law FnRange answers true at every input that its row speaks of. Conditions: the row's own. -/
import Derived.Test.YtieohddolkeegaaGreatDoorMFnRange3
import Derived.Test.YtieohddolkeegaaGreatDoorVMore
import Derived.Test.YtieohddolkeegaaGreatDoorMFnRange2
import Derived.KernelRfl
import Derived.Laws.Strings
import Derived.Test.YtieohddolkeegaaGreatDoorProg
import Derived.Test.YtieohddolkeegaaGreatDoorKFnRange0
import Derived.Test.YtieohddolkeegaaGreatDoorKFnRange1
import Derived.Test.YtieohddolkeegaaGreatDoorMFnRange1
section
namespace Go.Proofs.YtieohddolkeegaaGreatDoor.VI
open Go Go.RowKit
set_option linter.unusedVariables false
set_option linter.unusedSimpArgs false
theorem PT : ∀ (l : List Oper) (acc : List Nat), (ja l acc).length = acc.length + l.length
 | [], acc => rfl
 | o :: r, acc => by rw [ja, PT r]; simp; omega
theorem zt : ∀ (l : List Oper) (acc : List Nat) (i : Nat), i < acc.length → (ja l acc)[i]? = acc[i]?
 | [], acc, i, h => rfl
 | o :: r, acc, i, h => by rw [ja, zt r _ i (by simp; omega), List.getElem?_append_left h]
def xU (acc : List Nat) (o : Oper) : Nat := o.after.toList.foldl (fun s e => match Region.binds .any e with
  | true => s ||| (1 <<< e.on) ||| acc.getD e.on 0
  | false => s) 0
theorem LP (acc : List Nat) (j : Nat) : ∀ (es : List Edge) (s : Nat), (es.foldl (fun s e => match Region.binds .any e with
  | true => s ||| (1 <<< e.on) ||| acc.getD e.on 0
  | false => s) s).testBit j = true → s.testBit j = true ∨ ∃ e ∈ es, Region.binds .any e = true ∧ (e.on = j ∨ (acc.getD e.on 0).testBit j = true)
 | [], s, h => .inl h
 | e :: es, s, h => by
  rw [List.foldl_cons] at h
  rcases LP acc j es _ h with h | ⟨e', he, h1, h2⟩
  ·split at h
   ·rename_i hb
    rw [Nat.testBit_or, Nat.testBit_or, Bool.or_eq_true, Bool.or_eq_true] at h
    rcases h with (h | h) | h
    ·exact .inl h
    ·refine .inr ⟨e, by simp, hb, .inl ?_⟩
     rw [Nat.one_shiftLeft, Nat.testBit_two_pow] at h
     simpa using h
    ·exact .inr ⟨e, by simp, hb, .inr h⟩
   ·exact .inl h
  ·exact .inr ⟨e', by simp [he], h1, h2⟩
theorem Ir : ∀ (l : List Oper) (acc : List Nat) (i : Nat) (o : Oper), l[i]? = some o → (ja l acc)[acc.length + i]? = some (xU ((ja l acc).take (acc.length + i)) o)
 | [], acc, i, o, h => by simp at h
 | x :: r, acc, 0, o, h => by
  simp at h; subst h
  rw [ja, Nat.add_zero, zt r _ acc.length (by simp)]
  have ht : (ja r (acc ++ [xU acc x])).take acc.length = acc := by
   refine List.ext_getElem? fun k => ?_
   rw [List.getElem?_take]
   split
   ·rw [zt r _ k (by simp; omega), List.getElem?_append_left (by omega)]
   ·rw [List.getElem?_eq_none (by omega)]
  show (acc ++ [xU acc x])[acc.length]? = _
  simp only [List.getElem?_concat_length, Option.some.injEq]
  show _ = xU ((ja r (acc ++ [xU acc x])).take acc.length) x
  rw [ht]
 | x :: r, acc, i + 1, o, h => by
  have := Ir r (acc ++ [xU acc x]) i o (by simpa using h)
  rw [ja]
  simp only [List.length_append, List.length_cons, List.length_nil] at this
  rw [show acc.length + (i + 1) = acc.length + (0 + 1) + i by omega]
  exact this
theorem PU {l : List Oper} {i j : Nat} {o : Oper} (h : l[i]? = some o) (hb : ((ja l []).getD i 0).testBit j = true) : ∃ e ∈ o.after.toList, Region.binds .any e = true ∧ (e.on = j ∨ (e.on < i ∧ ((ja l []).getD e.on 0).testBit j = true)) := by
 have h1 := Ir l [] i o h
 simp only [List.length_nil, Nat.zero_add] at h1
 rw [List.getD_eq_getElem?_getD, h1, Option.getD_some] at hb
 rcases LP _ j o.after.toList 0 hb with h2 | ⟨e, he, h2, h3⟩
 ·simp at h2
 ·refine ⟨e, he, h2, h3.imp id fun h3 => ?_⟩
  rw [List.getD_eq_getElem?_getD, List.getElem?_take] at h3
  split at h3
  ·rename_i hlt; exact ⟨hlt, by rw [List.getD_eq_getElem?_getD]; exact h3⟩
  ·simp at h3
def Down (l : List Oper) (L : Array Bool) : Prop := ∀ (i : Nat) o, l[i]? = some o → L.getD i false = true → ∀ e ∈ o.after.toList, Region.binds .any e = true → L.getD e.on false = true
theorem oG {l : List Oper} {L : Array Bool} (hd : Down l L) : ∀ (i : Nat) (o : Oper), l[i]? = some o → (∀ e ∈ o.after.toList, Region.binds .any e = true → L.getD e.on false = true) → ∀ j, ((ja l []).getD i 0).testBit j = true → L.getD j false = true := by
 intro i
 induction i using Nat.strongRecOn with
 | _ i ih =>
  intro o ho hr j hj
  obtain ⟨e, he, hb, h⟩ := PU ho hj
  have hl := hr e he hb
  rcases h with rfl | ⟨hlt, h⟩
  ·exact hl
  ·have hi : i < l.length := (List.getElem?_eq_some_iff.1 ho).1
   have ho' : l[e.on]? = some (l[e.on]'(by omega)) := List.getElem?_eq_getElem (by omega)
   exact ih e.on hlt _ ho' (hd e.on _ ho' hl) j h
theorem GI (bs : List Nat) : ∀ n, CW bs n ≤ n ∧ ∀ j, CW bs n ≤ j → j < n → bs.getD j 0 = 2 ^ j - 1
 | 0 => ⟨Nat.le_refl _, fun j _ h => absurd h (Nat.not_lt_zero _)⟩
 | n + 1 => by
  obtain ⟨h1, h2⟩ := GI bs n
  rw [CW]
  split
  ·rename_i hb
   refine ⟨by omega, fun j hj hn => ?_⟩
   by_cases e : j = n
   ·subst e; exact Nat.eq_of_beq_eq_true hb
   ·exact h2 j hj (by omega)
  ·exact ⟨Nat.le_refl _, fun j hj hn => by omega⟩
theorem Ew {l : List Oper} {L : Array Bool} {i : Nat} : i ∈ Region.ready .any l.toArray L ↔ ∃ o, l[i]? = some o ∧ L.getD i true = false ∧ ∀ e ∈ o.after.toList, Region.binds .any e = true → L.getD e.on false = true := by
 unfold Region.ready
 simp only [List.mem_filter, List.mem_range, Bool.and_eq_true, Bool.not_eq_true', List.size_toArray, List.getElem?_toArray]
 constructor
 ·rintro ⟨h1, h2, h3⟩
  refine ⟨l[i], List.getElem?_eq_getElem h1, h2, fun e he hb => ?_⟩
  rw [List.getElem?_eq_getElem h1] at h3
  simp only [Option.map_some, Option.getD_some, Array.all_eq_true'] at h3
  have := h3 e (by simpa using he)
  rw [hb] at this
  simpa using this
 ·rintro ⟨o, h1, h2, h3⟩
  refine ⟨(List.getElem?_eq_some_iff.1 h1).1, h2, ?_⟩
  rw [h1]
  simp only [Option.map_some, Option.getD_some, Array.all_eq_true']
  intro e he
  cases hb : Region.binds .any e
  ·rfl
  ·simpa using h3 e (by simpa using he) hb
section
variable {P : Program} {NG : Nat} {GW : World → Prop} {io : List Nat} {w0 : World} {pd0 : Nat → Nat → Prop} {G : Gh} {env env' : Env} {a : Act} {w : World}
variable {R : Type} {K : Env → Option R} {r : R} {Q : Exit → Act → World → Prop} {o : Oper} {C : Cx} {ops : List Oper} {al : List Nat}
structure Agree (ops : List Oper) (al : List Nat) (o : Oper) (env env' : Env) : Prop where
 see : ∀ t ∈ o.looksAt ops.toArray, get env' t = get env t
 box : ∀ t cs, t ∉ al → get env t = .bx cs → get env' t = .bx cs
 dst : ∀ d, o.dst = some d → plain (get env' d) = true
 ref : ∀ d ∈ al, env'.any (jZ d) = false
theorem MX {t : Nat} (h : Operand.tmp t ∈ o.op.operands.toList) : t ∈ o.looksAt ops.toArray := by
 unfold Oper.looksAt
 refine List.mem_append_left _ (List.mem_filterMap.2 ⟨_, h, rfl⟩)
theorem Rz {j : Nat} {want : Bool} {p : Oper} {t : Nat} (hg : o.guard = some (j, want)) (hj : ops[j]? = some p) (ht : p.dst = some t) : t ∈ o.looksAt ops.toArray := by
 unfold Oper.looksAt
 refine List.mem_append_right _ ?_
 simp [hg, hj, ht]
theorem Agree.rd (h : Agree ops al o env env') : ∀ x ∈ o.op.operands.toList, rdv env' x = rdv env x := by
 intro x hx
 cases x with
 | tmp t => simp only [rdv]; rw [h.see t (MX hx)]
 | _ => rfl
theorem Ap {dst : Option Nat} {v : VV} (h : ∃ r : R, pR (some al) dst v env K = some r) : (∀ d, dst = some d → plain (get env d) = true ∧ plain v = true ∧ al.all (fun t => !(jZ t v)) = true) := by
 obtain ⟨r, h⟩ := h
 intro d hd
 subst hd
 simp only [pR] at h
 split at h
 ·rename_i hp; rw [Bool.and_eq_true, Bool.and_eq_true] at hp; exact hp
 ·cases h
theorem H9 {R' : Type} {K' : Env → Option R'} {dst : Option Nat} {v : VV} (h1 : ∀ d, dst = some d → plain (get env d) = true) (h2 : ∀ d, dst = some d → plain v = true ∧ al.all (fun t => !(jZ t v)) = true) : pR (some al) dst v env K' = K' (put dst v env) := by
 cases dst with
 | none => rfl
 | some d =>
  simp only [pR]
  rw [h1 d rfl, (h2 d rfl).1, (h2 d rfl).2]
  simp only [Bool.and_self, kQ]
  rfl
theorem MZ : ∀ (env : Env) (d t : Nat) (v : VV), nth (env.set d v) t = if d = t ∧ d < env.length then v else nth env t
 | [], d, t, v => by simp [nth]
 | a :: r, 0, 0, v => by simp [nth]
 | a :: r, 0, t + 1, v => by simp [nth]
 | a :: r, d + 1, 0, v => by simp [nth]
 | a :: r, d + 1, t + 1, v => by simp only [List.set_cons_succ, nth]; rw [MZ r d t v]; simp
def Iu (sv : Option (Nat × VV)) (env : Env) : Env := match sv with
 | some p => env.set p.1 p.2
 | none => env
def Iw (P : Program) (NG : Nat) (GW : World → Prop) (io : List Nat) (w0 : World) (pd0 : Nat → Nat → Prop) (Q : Exit → Act → World → Prop) (ops : List Oper) (al : List Nat) (i : Nat) (o : Oper) (env : Env) (v : VV) (sv : Option (Nat × VV)) : Prop :=
 (∀ d, o.dst = some d → plain (get env d) = true) ∧ (∀ t ∈ al, o.dst ≠ none → jZ t v = false) ∧ (∀ cs, v = .bx cs → ∀ d, o.dst = some d → d ∈ al) ∧ (∀ e z xs, v = .mr e z xs → o.dst = none) ∧ (∀ t s, sv = some (t, s) → MQ ops o = some t ∧ plain (get env t) = true ∧ ∃ xs, s = .sl xs) ∧
  ∀ (env' : Env) (G : Gh) (a : Act) (w : World), Agree ops al o env env' → l9 NG GW io w0 pd0 G env' a w → ∀ Nk : Act → World → Prop, (∀ G' a' w', l9 NG GW io w0 pd0 G' (put o.dst v (Iu sv env')) a' w' → Nk a' w') → wpOp P ops.toArray Q i Nk a w
theorem Iy (h : Agree ops al o env env') {j : Nat} {want : Bool} (hg : o.guard = some (j, want)) : seen ops env' j = seen ops env j := by
 unfold seen
 cases hj : ops[j]? with
 | none => rfl
 | some p =>
  simp only
  cases ht : p.dst with
  | none => rfl
  | some t => simp only [h.see t (Rz hg hj ht)]
theorem quiet_step (hti : nH P C.ti) (nI : ∀ w w', GW w → Below NG w w' → GW w') (hC : uG P NG GW C.call) (hq : wo C ops o = true) (hal : ∀ d t, o.op = .alloc t → o.dst = some d → d ∈ al) {i : Nat} (hi : ops[i]? = some o) {rest : List Oper} (h : oV C ops (some al) (o :: rest) env K = some r) :
  ∃ v sv, oV C ops (some al) rest (put o.dst v (Iu sv env)) K = some r ∧ Iw P NG GW io w0 pd0 Q ops al i o env v sv := by
 have run : ∀ h : rQ C ops (some al) o env (fun env' => oV C ops (some al) rest env' K) = some r, ∃ v, oV C ops (some al) rest (put o.dst v env) K = some r ∧ (∀ d, o.dst = some d → plain (get env d) = true) ∧ (∀ t ∈ al, o.dst ≠ none → jZ t v = false) ∧ (∀ cs, v = .bx cs → ∀ d, o.dst = some d → d ∈ al) ∧ (∀ e z xs, v = .mr e z xs → o.dst = none) ∧
   ∀ (env' : Env), Agree ops al o env env' → ∀ {R' : Type} (K' : Env → Option R'), rQ C ops (some al) o env' K' = K' (put o.dst v env') := by
  intro h
  by_cases ha : ∃ t, o.op = .alloc t
  ·obtain ⟨t, hop⟩ := ha
   simp only [rQ, hop] at h
   split at h
   case h_2 => cases h
   rename_i ti d hti' hd
   have hdm := hal d t hop hd
   simp only [Jn] at h
   split at h
   case h_2 => cases h
   rename_i hc
   rw [Bool.or_eq_false_iff] at hc
   rw [kQ] at h
   refine ⟨.bx (ti.zero.map U3), by rw [hd]; exact h, ?_, fun _ _ _ => rfl, ?_, fun _ _ _ he => VV.noConfusion he, ?_⟩
   ·intro d' hd'; rw [hd] at hd'; cases hd'; simpa using hc.2
   ·intro cs _ d' hd'; rw [hd] at hd'; cases hd'; exact hdm
   ·intro env' hA R' K'
    simp only [rQ, hop, hti', hd, Jn]
    rw [hA.ref d hdm, hA.dst d hd]
    simp only [Bool.not_true, Bool.or_self, kQ]
    rfl
  ·have ha' : ∀ t, o.op ≠ .alloc t := fun t e => ha ⟨t, e⟩
   rw [LM hq ha'] at h
   obtain ⟨v, hv, huni⟩ := vqu_val h
   have hok := Ap ⟨r, hv⟩
   have hK := jh hv
   refine ⟨v, hK, fun d hd => (hok d hd).1, fun t ht hne => ?_, fun cs e d hd => ?_, fun e z xs he => ?_, fun env' hA R' K' => ?_⟩
   ·cases hd : o.dst with
    | none => exact absurd hd hne
    | some d =>
     have := (hok d hd).2.2
     rw [List.all_eq_true] at this
     simpa using this t ht
   ·have := (hok d hd).2.1
    rw [e] at this; cases this
   ·cases hd : o.dst with
    | none => rfl
    | some d =>
     have := (hok d hd).2.1
     rw [he] at this; cases this
   ·rw [LM hq ha', WJ (rd := rdv env) (gb := Rk (some al) env) hA.rd ?_]
    ·rw [huni]
     exact H9 hA.dst fun d hd => (hok d hd).2
    ·intro ty x hop t off hx
     have hb : ∃ cs, Rk (some al) env t = .bx cs := by
      simp only [PS, hop] at h
      split at h
      ·cases h
      ·rw [hx] at h
       simp only at h
       split at h
       ·exact ⟨_, by assumption⟩
       ·cases h
     obtain ⟨cs, hcs⟩ := hb
     rw [hcs]
     have hg := U8 hcs
     unfold Rk at hcs ⊢
     simp only at hcs ⊢
     split at hcs
     ·cases hcs
     ·rename_i hm
      exact hA.box t cs (fun hmem => by
       have := List.any_eq_false.1 hm t hmem
       simp at this) hg
 have mk : ∀ v, (∀ (env' : Env), Agree ops al o env env' → ∀ {R' : Type} (K' : Env → Option R'), rQ C ops (some al) o env' K' = K' (put o.dst v env')) → ∀ (env' : Env) (G : Gh) (a : Act) (w : World), Agree ops al o env env' → l9 NG GW io w0 pd0 G env' a w → ∀ Nk : Act → World → Prop, (∀ G' a' w', l9 NG GW io w0 pd0 G' (put o.dst v env') a' w' → Nk a' w') → o.wp P a w Nk Q := by
  intro v hv env' G a w hA hs Nk hNk
  have := hv env' hA (R' := Env) some
  refine uu (r := put o.dst v env') (K := some) hti nI hC hs (fun G' e' a' w' hs' he => ?_) this
  cases he
  exact hNk G' a' w' hs'
 rw [oV] at h
 split at h
 ·rename_i hg
  obtain ⟨v, h1, h2, h3, h4, h5, h6⟩ := run h
  refine ⟨v, none, h1, h2, h3, h4, h5, fun t s he => (by cases he), fun env' G a w hA hs Nk hNk => ?_⟩
  unfold wpOp
  rw [show ops.toArray[i]? = some o by simpa using hi]
  simp only
  rw [if_pos (by simp [Region.wanted, hg])]
  exact .inl (mk v h6 env' G a w hA hs Nk hNk)
 ·rename_i j want hg
  have skip : ∀ h : pR (some al) o.dst (.s undef) env (fun env' => oV C ops (some al) rest env' K) = some r, (∀ (env' : Env) (G : Gh) (a : Act) (w : World), Agree ops al o env env' → l9 NG GW io w0 pd0 G env' a w → ¬ Region.wanted o (yielded ops.toArray a.tmps) = true) → ∃ v sv, oV C ops (some al) rest (put o.dst v (Iu sv env)) K = some r ∧ Iw P NG GW io w0 pd0 Q ops al i o env v sv := by
   intro h hw
   have hok := Ap ⟨r, h⟩
   refine ⟨.s undef, none, jh h, fun d hd => (hok d hd).1, fun _ _ _ => rfl, fun cs e => VV.noConfusion e, fun _ _ _ e => VV.noConfusion e, fun t s he => (by cases he), fun env' G a w hA hs Nk hNk => ?_⟩
   unfold wpOp
   rw [show ops.toArray[i]? = some o by simpa using hi]
   simp only
   rw [if_neg (hw env' G a w hA hs)]
   exact hNk G _ _ (hs.put o.dst fun d _ => VR.slot (VR.kU (.s _)) d)
  split at h
  ·rename_i b hb
   have hy : ∀ (env' : Env) (G : Gh) (a : Act) (w : World), Agree ops al o env env' → l9 NG GW io w0 pd0 G env' a w → yielded ops.toArray a.tmps j = some b := fun env' G a w hA hs => Am hs (ops := ops.toArray) (by rw [← hb]; exact Iy hA hg)
   rcases qZ h with ⟨hbw, h⟩ | ⟨hbw, h⟩
   ·obtain ⟨v, h1, h2, h3, h4, h5, h6⟩ := run h
    refine ⟨v, none, h1, h2, h3, h4, h5, fun t s he => (by cases he), fun env' G a w hA hs Nk hNk => ?_⟩
    unfold wpOp
    rw [show ops.toArray[i]? = some o by simpa using hi]
    simp only
    rw [if_pos (by simp only [Region.wanted, hg, hy env' G a w hA hs]; simpa using hbw)]
    exact .inl (mk v h6 env' G a w hA hs Nk hNk)
   ·exact skip h fun env' G a w hA hs => by simp only [Region.wanted, hg, hy env' G a w hA hs]; simpa using hbw
  ·rename_i hb
   refine skip h fun env' G a w hA hs => ?_
   have hy : yielded ops.toArray a.tmps j = none := Am hs (ops := ops.toArray) (by rw [← hb]; exact Iy hA hg)
   simp [Region.wanted, hg, hy]
  ·cases h
theorem CX {d t : Nat} {s : VV} (h : t ≠ d) : get (env.set t s) d = get env d := by
 unfold get
 rw [MZ, if_neg (fun e => h e.1)]
def Yp (C : Cx) (c : Call) (a b : VV) : Option (VV × VV) := match c.argTypes.toList with
 | [t, t'] => if Nat.beq t t' then (match C.ti t with
   | some i => (match i.k with
    | .slice e => (match C.ti e with
     | some ie => if 0 < ie.sz ∧ 0 < ie.bytes then (match a, b with
      | .ow e' z xs, .sl ys => if Nat.beq e' e && Nat.beq z ie.sz then bite (decide ((xs.length + ys.length) * ie.bytes ≤ 140737488355328) && ys.all fun v => Nat.beq v.cells.length ie.sz) (some (.sl xs, .ow e ie.sz (xs ++ ys))) none else none
      | .nl, .sl ys => bite (decide (ys.length * ie.bytes ≤ 140737488355328) && ys.all fun v => Nat.beq v.cells.length ie.sz) (some (.sl [], .ow e ie.sz ys)) none
      | _, _ => none) else none
     | none => none)
    | _ => none)
   | none => none) else none
 | _ => none
theorem Uh {c : Call} {l : List Operand} (hc : c.callee = .builtin .append) (ha : c.args.toList = l) {x : Operand} (hx : x ∈ l) : x ∈ (Op.call c).operands.toList := by
 have h1 : x ∈ c.args := by rw [← Array.mem_toList_iff, ha]; exact hx
 simp [Op.operands, Call.operands, hc, h1]
theorem Iz {α β : Type} {b : Bool} {p : α} {f : α → Option β} : jY (bite b (some p) none) f = bite b (f p) none := by cases b <;> rfl
theorem Ui {R' : Type} {K' : Env → Option R'} {c : Call} {u : Nat} {y : Operand} (hop : o.op = .call c) (hc : c.callee = .builtin .append) (ha : c.args.toList = [.tmp u, y]) {dr : Option (List Nat)} : rQ C ops dr o env K' = jY (Yp C c (get env u) (rdv env y)) fun p => wZ u p.1 env fun env' => pR dr o.dst p.2 env' K' := by
 simp only [rQ, hop, hc, ha, Yp]
 split
 ·rename_i x y' t t' e1 e2
  cases e1
  (try simp only [e2])
  split
  ·rename_i hb
   (try simp only [hb, if_true])
   split
   ·rename_i i hi
    (try simp only [hi])
    split
    ·rename_i e hk
     (try simp only [hk])
     split
     ·rename_i ie hie
      (try simp only [hie])
      split
      ·rename_i hz
       (try simp only [hz, and_self, if_true])
       split
       ·rename_i h1 h2
        (try simp only [h1, h2])
        split
        ·rename_i hb2
         (try simp only [hb2, if_true, Iz])
        ·rename_i hb2
         (try simp only [hb2])
         rfl
       ·rename_i h1 h2
        (try simp only [h1, h2, Iz])
       ·rename_i h1 h2
        split
        ·exact absurd ‹_› (h1 _ _ _ _ ‹_›)
        ·exact absurd ‹_› (h2 _ ‹_›)
        ·rfl
      ·rename_i hz
       (try simp only [hz, if_false])
       rfl
     ·rename_i hie
      (try simp only [hie])
      rfl
    ·rename_i hk
     split
     ·rename_i e he
      exact absurd he (hk e)
     ·rfl
   ·rename_i hi
    (try simp only [hi])
    rfl
  ·rename_i hb
   (try simp only [hb])
   rfl
 ·rename_i hne
  split
  ·rename_i t t' e2
   exact absurd e2 (hne u y t t' rfl)
  ·rfl
theorem WL {c : Call} {a b s v : VV} (h : Yp C c a b = some (s, v)) : plain a = true ∧ (∃ xs, s = .sl xs) ∧ ∃ e z xs, v = .ow e z xs := by
 unfold Yp at h
 repeat' split at h
 all_goals first
  | (cases h; done)
  | skip
 ·rcases qZ h with ⟨_, h⟩ | ⟨_, h⟩
  ·cases h; exact ⟨rfl, ⟨_, rfl⟩, _, _, _, rfl⟩
  ·cases h
 ·rcases qZ h with ⟨_, h⟩ | ⟨_, h⟩
  ·cases h; exact ⟨rfl, ⟨_, rfl⟩, _, _, _, rfl⟩
  ·cases h
theorem Yq (hti : nH P C.ti) (nI : ∀ w w', GW w → Below NG w w' → GW w') (hC : uG P NG GW C.call) (hq : yM ops o = true) {i : Nat} (hi : ops[i]? = some o) {rest : List Oper} (h : oV C ops (some al) (o :: rest) env K = some r) :
  ∃ v sv, oV C ops (some al) rest (put o.dst v (Iu sv env)) K = some r ∧ Iw P NG GW io w0 pd0 Q ops al i o env v sv := by
 unfold yM at hq
 split at hq
 case h_2 => cases hq
 rename_i t d hsd hg hd
 have hne : t ≠ d := fun e => by subst e; simp at hq
 have hop : (o.op = .move (.tmp t) ∧ fd ops o.dst = true) ∨ ∃ c y, o.op = .call c ∧ c.callee = .builtin .append ∧ c.args.toList = [.tmp t, y] := by
  have Mc := hsd
  unfold MQ at Mc
  split at Mc
  ·rename_i t' hop
   split at Mc
   ·rename_i hf; cases Mc; exact .inl ⟨hop, hf⟩
   ·cases Mc
  ·rename_i c hop
   split at Mc
   ·rename_i u y hc ha; cases Mc; exact .inr ⟨c, _, hop, hc, ha⟩
   ·cases Mc
  ·cases Mc
 rw [oV, hg] at h
 have fin : ∀ (v : VV) (sv : Option (Nat × VV)), oV C ops (some al) rest (put o.dst v (Iu sv env)) K = some r → (plain (get env d) = true ∧ plain v = true ∧ al.all (fun t => !(jZ t v)) = true) → (∀ t s, sv = some (t, s) → MQ ops o = some t ∧ plain (get env t) = true ∧ ∃ xs, s = .sl xs) → (∀ (env' : Env), Agree ops al o env env' → ∀ {R' : Type} (K' : Env → Option R'), rQ C ops (some al) o env' K' = K' (put o.dst v (Iu sv env'))) →
   ∃ v sv, oV C ops (some al) rest (put o.dst v (Iu sv env)) K = some r ∧ Iw P NG GW io w0 pd0 Q ops al i o env v sv := by
  intro v sv h1 h2 h3 h4
  refine ⟨v, sv, h1, fun d' hd' => ?_, fun u hu _ => ?_, fun cs e => ?_, fun e z xs he => ?_, h3, fun env' G a w hA hs Nk hNk => ?_⟩
  ·rw [hd] at hd'; cases hd'; exact h2.1
  ·have := h2.2.2
   rw [List.all_eq_true] at this
   simpa using this u hu
  ·have := h2.2.1
   rw [e] at this; cases this
  ·have := h2.2.1
   rw [he] at this; cases this
  ·unfold wpOp
   rw [show ops.toArray[i]? = some o by simpa using hi]
   simp only
   rw [if_pos (by simp [Region.wanted, hg])]
   refine .inl (uu (r := put o.dst v (Iu sv env')) (K := some) hti nI hC hs (fun G' e' a' w' hs' he => ?_) (ops := ops) (dr := some al) ?_)
   ·cases he; exact hNk G' a' w' hs'
   ·exact h4 env' hA (R' := Env) some
 have go : ∀ (env' : Env) (s v : VV) {R' : Type} (K' : Env → Option R'), plain (get env' d) = true → plain v = true ∧ al.all (fun t => !(jZ t v)) = true → pR (some al) (some d) v (env'.set t s) K' = K' (put (some d) v (env'.set t s)) := fun env' s v R' K' h1 h2 => H9 (fun d' hd' => by cases hd'; rw [CX hne]; exact h1) (fun d' _ => h2)
 rcases hop with ⟨hop, hfd⟩ | ⟨c, y, hop, hc, ha⟩
 ·rw [hd] at hfd
  have hlook : t ∈ o.looksAt ops.toArray := MX (by rw [hop]; simp [Op.operands])
  have red : ∀ (env' : Env) {R' : Type} (K' : Env → Option R'), rQ C ops (some al) o env' K' = yx (some al) true (some d) (.tmp t) env' K' := fun env' R' K' => by simp only [rQ, hop, hd, hfd]
  rw [red] at h
  cases hgt : get env t with
  | ow e z xs =>
   simp only [yx, hgt, kQ] at h
   have hok := Ap ⟨r, h⟩ d rfl
   rw [CX hne] at hok
   refine fin (.ow e z xs) (some (t, .sl xs)) (by rw [hd]; exact jh h) hok (fun t' s' he => ?_) fun env' hA R' K' => ?_
   ·cases he; exact ⟨hsd, by rw [hgt]; rfl, xs, rfl⟩
   ·have h5 : get env' t = .ow e z xs := (hA.see t hlook).trans hgt
    rw [red]
    simp only [yx, h5, kQ]
    rw [hd]
    exact go env' _ _ K' (hA.dst d hd) hok.2
  | nl =>
   simp only [yx, hgt] at h
   have hok := Ap ⟨r, h⟩ d rfl
   refine fin .nl none (by rw [hd]; exact jh h) hok (fun t' s' he => by cases he) fun env' hA R' K' => ?_
   have h5 : get env' t = .nl := (hA.see t hlook).trans hgt
   rw [red]
   simp only [yx, h5]
   rw [hd]
   exact H9 (fun d' hd' => by cases hd'; exact hA.dst d hd) (fun d' _ => hok.2)
  | _ =>
   simp only [yx, hgt] at h
   have hok := Ap ⟨r, h⟩ d rfl
   refine fin (rdv env (.tmp t)) none (by rw [hd]; exact jh h) hok (fun t' s' he => by cases he) fun env' hA R' K' => ?_
   have h5 := (hA.see t hlook).trans hgt
   have h6 : rdv env' (.tmp t) = rdv env (.tmp t) := by simp only [rdv, h5, hgt]
   rw [red]
   simp only [yx, h5]
   rw [hd, h6]
   exact H9 (fun d' hd' => by cases hd'; exact hA.dst d hd) (fun d' _ => hok.2)
 ·have hlook : t ∈ o.looksAt ops.toArray := MX (by rw [hop]; exact Uh hc ha (by simp))
  have hy : ∀ env', Agree ops al o env env' → rdv env' y = rdv env y := fun env' hA => hA.rd y (by rw [hop]; exact Uh hc ha (by simp))
  rw [Ui hop hc ha] at h
  cases hv : Yp C c (get env t) (rdv env y) with
  | none => rw [hv] at h; cases h
  | some p =>
   obtain ⟨s, v⟩ := p
   obtain ⟨f1, ⟨ys, rfl⟩, e, z, xs, rfl⟩ := WL hv
   rw [hv] at h
   have h' : wZ t (.sl ys) env (fun env' => pR (some al) o.dst (.ow e z xs) env' fun env' => oV C ops (some al) rest env' K) = some r := h
   rw [kQ, hd] at h'
   have hok := Ap ⟨r, h'⟩ d rfl
   rw [CX hne] at hok
   refine fin (.ow e z xs) (some (t, .sl ys)) (by rw [hd]; exact jh h') hok (fun t' s' he => ?_) fun env' hA R' K' => ?_
   ·cases he; exact ⟨hsd, f1, ys, rfl⟩
   ·rw [Ui hop hc ha, hA.see t hlook, hy env' hA, hv]
    show wZ t (.sl ys) env' (fun env' => pR (some al) o.dst (.ow e z xs) env' K') = _
    rw [kQ, hd]
    exact go env' _ _ K' (hA.dst d hd) hok.2
end
section
variable {D : Nat → Option Nat} {vals : Nat → VV} {env0 env : Env} {n : Nat}
def chainE (D : Nat → Option Nat) (vals : Nat → VV) (env0 : Env) : Nat → Env
 | 0 => env0
 | k + 1 => put (D k) (vals k) (chainE D vals env0 k)
theorem EG {D' : Nat → Option Nat} {yz : Nat → VV} : ∀ k, (∀ j, j < k → vals j = yz j) → (∀ j, j < k → D j = D' j) → chainE D vals env0 k = chainE D' yz env0 k
 | 0, _, _ => rfl
 | k + 1, h, g => by rw [chainE, chainE, EG k (fun j hj => h j (by omega)) (fun j hj => g j (by omega)), h k (by omega), g k (by omega)]
structure QS (D : Nat → Option Nat) (vals : Nat → VV) (env0 : Env) (n : Nat) (S : Nat → Prop) (env : Env) : Prop where
 len : env.length = env0.length
 hit : ∀ (k : Nat) d, k < n → D k = some d → S k → d < env0.length → (∀ j, k < j → j < n → D j = some d → ¬ S j) → get env d = vals k
 miss : ∀ t, (∀ (k : Nat), k < n → D k = some t → ¬ S k) → get env t = get env0 t
theorem get_put {dst : Option Nat} {v : VV} {t : Nat} : get (put dst v env) t = if dst = some t ∧ t < env.length then v else get env t := by
 cases dst with
 | none => simp [put]
 | some d =>
  simp only [put, get]
  rw [MZ]
  by_cases h : d = t
  ·subst h; simp
  ·simp [h]
theorem put_len {dst : Option Nat} {v : VV} : (put dst v env).length = env.length := by cases dst <;> simp [put]
theorem QS.step {S : Nat → Prop} (h : QS D vals env0 n S env) {k : Nat} (hk : k < n) (hS : ¬ S k) (hlast : ∀ (j : Nat) d, k < j → j < n → D j = some d → D k = some d → ¬ S j) : QS D vals env0 n (fun j => S j ∨ j = k) (put (D k) (vals k) env) := by
 refine ⟨put_len.trans h.len, ?_, ?_⟩
 ·intro j d hj hd hSj hlt hmax
  rw [get_put]
  by_cases e : j = k
  ·subst e
   rw [if_pos ⟨hd, by rw [h.len]; exact hlt⟩]
  ·have hSj' := hSj.resolve_right e
   rw [if_neg (fun h2 => by
    rcases Nat.lt_or_gt_of_ne e with h3 | h3
    ·exact hmax k h3 hk h2.1 (.inr rfl)
    ·exact hlast j d h3 hj hd h2.1 hSj')]
   exact h.hit j d hj hd hSj' hlt fun j' h1 h2 h3 h4 => hmax j' h1 h2 h3 (.inl h4)
 ·intro t ht
  rw [get_put, if_neg (fun h2 => ht k hk h2.1 (.inr rfl))]
  exact h.miss t fun j hj hd hs => ht j hj hd (.inl hs)
theorem QS.congr {S S' : Nat → Prop} (h : QS D vals env0 n S env) (e : ∀ k, k < n → (S k ↔ S' k)) : QS D vals env0 n S' env :=
 ⟨h.len, fun k d hk hd hs hlt hm => h.hit k d hk hd ((e k hk).2 hs) hlt fun j h1 h2 h3 h4 => hm j h1 h2 h3 ((e j h2).1 h4), fun t ht => h.miss t fun k hk hd hs => ht k hk hd ((e k hk).1 hs)⟩
theorem QS.chain : ∀ k, k ≤ n → QS D vals env0 n (fun j => j < k) (chainE D vals env0 k)
 | 0, _ => ⟨rfl, fun _ _ _ _ h => absurd h (Nat.not_lt_zero _), fun _ _ => rfl⟩
 | k + 1, hk => by
  have := (QS.chain k (by omega)).step (k := k) (by omega) (by omega) (fun j d hj _ _ _ h => by omega)
  rw [chainE]
  exact this.congr fun j _ => by omega
open Classical in
theorem vU {p : Nat → Prop} : ∀ n, (∃ k, k < n ∧ p k) → ∃ k, k < n ∧ p k ∧ ∀ j, k < j → j < n → ¬ p j
 | 0, h => by obtain ⟨k, h1, _⟩ := h; omega
 | n + 1, h => by
  by_cases hp : p n
  ·exact ⟨n, by omega, hp, fun j h1 h2 => by omega⟩
  ·obtain ⟨k, h1, h2⟩ := h
   obtain ⟨k', h3, h4, h5⟩ := vU n ⟨k, by
    rcases Nat.lt_or_ge k n with h | h
    ·exact h
    ·exact absurd (by rw [show n = k by omega]; exact h2) hp, h2⟩
   exact ⟨k', by omega, h4, fun j h6 h7 => by
    rcases Nat.lt_or_ge j n with h | h
    ·exact h5 j h6 h
    ·rw [show j = n by omega]; exact hp⟩
open Classical in
theorem SA {p : Nat → Prop} {k : Nat} (h : p k) : ∃ k', k' ≤ k ∧ p k' ∧ ∀ j, j < k' → ¬ p j := by
 induction k using Nat.strongRecOn with
 | _ k ih =>
  by_cases hx : ∃ j, j < k ∧ p j
  ·obtain ⟨j, h1, h2⟩ := hx
   obtain ⟨k', h3, h4, h5⟩ := ih j h1 h2
   exact ⟨k', by omega, h4, h5⟩
  ·exact ⟨k, Nat.le_refl _, h, fun j h1 h2 => hx ⟨j, h1, h2⟩⟩
theorem Uj : ∀ {e e' : Env}, e.length = e'.length → (∀ t, t < e.length → get e t = get e' t) → e = e'
 | [], [], _, _ => rfl
 | a :: r, b :: s, hl, h => by
  have h0 := h 0 (by simp)
  have := Uj (e := r) (e' := s) (by simpa using hl) fun t ht => h (t + 1) (by simp; omega)
  simp [get, nth] at h0
  rw [h0, this]
 | [], _ :: _, hl, _ => by simp at hl
 | _ :: _, [], hl, _ => by simp at hl
open Classical in
theorem QS.uniq {S : Nat → Prop} {env' : Env} (h : QS D vals env0 n S env) (h' : QS D vals env0 n S env') : env = env' := by
 refine Uj (h.len.trans h'.len.symm) fun t ht => ?_
 by_cases hx : ∃ k, k < n ∧ (D k = some t ∧ S k)
 ·obtain ⟨k, h1, ⟨h3, h4⟩, h5⟩ := vU n hx
  rw [h.len] at ht
  have h6 : ∀ j, k < j → j < n → D j = some t → ¬ S j := fun j a b c d => h5 j a b ⟨c, d⟩
  rw [h.hit k t h1 h3 h4 ht h6, h'.hit k t h1 h3 h4 ht h6]
 ·have hm : ∀ (k : Nat), k < n → D k = some t → ¬ S k := fun k h1 h3 h4 => hx ⟨k, h1, h3, h4⟩
  rw [h.miss t hm, h'.miss t hm]
end
section
variable {P : Program} {NG : Nat} {GW : World → Prop} {io : List Nat} {w0 : World} {pd0 : Nat → Nat → Prop} {C : Cx} {R : Type} {K : Env → Option R} {r : R} {Q : Exit → Act → World → Prop} {l : List Oper} {env0 : Env} {al : List Nat}
def Wr (l : List Oper) (o : Oper) (d : Nat) : Prop := o.dst = some d ∨ MQ l o = some d
theorem Yr {o : Oper} {d : Nat} : d ∈ wl l o ↔ Wr l o d := by
 unfold wl Wr
 cases o.dst <;> cases MQ l o <;> simp [eq_comm]
theorem CY {o : Oper} {ts : List Nat} (h : Ou l o ts = false) {d : Nat} (hd : Wr l o d) : d ∉ ts := by
 unfold Ou at h
 intro hm
 have := List.any_eq_false.1 h d (Yr.2 hd)
 simp only [Bool.not_eq_true, List.any_eq_false] at this
 have h2 := this d hm
 simp at h2
structure Ord (C : Cx) (l : List Oper) (n : Nat) : Prop where
 edge : ∀ (j : Nat) y, l[j]? = some y → ∀ e ∈ y.after.toList, Region.binds .any e = true → e.on < j
 quiet : ∀ (j : Nat) y, j < n → l[j]? = some y → wo C l y = true ∨ yM l y = true
 dist : ∀ (i j : Nat) p o d, i < j → j < n → l[i]? = some p → l[j]? = some o → Wr l p d → Wr l o d → ((ja l []).getD j 0).testBit i = true
 apart : ∀ (i j : Nat) x y, i < j → j < n → l[i]? = some x → l[j]? = some y → ((ja l []).getD j 0).testBit i = false → (∀ d, Wr l x d → d ∉ y.looksAt l.toArray) ∧ (∀ d, Wr l y d → d ∉ x.looksAt l.toArray)
 solid : ∀ (i j : Nat), n ≤ j → j < l.length → i < j → ((ja l []).getD j 0).testBit i = true
 le : n ≤ l.length
theorem own_ne {o : Oper} (h : yM l o = true) {d : Nat} (h1 : o.dst = some d) : MQ l o ≠ some d := by
 intro h2
 unfold yM at h
 rw [h1, h2] at h
 split at h
 ·rename_i t d' e1 e2 e3
  cases e1; cases e3
  simp at h
 ·cases h
theorem Md (h : xP C l = true) : ∃ n, Ord C l n := by
 unfold xP at h
 simp only [List.all_eq_true, List.mem_range] at h
 obtain ⟨hn1, hn2⟩ := GI (ja l []) l.length
 refine ⟨CW (ja l []) l.length, ?_⟩
 have hj : ∀ (j : Nat) y, l[j]? = some y → (∀ e ∈ y.after.toList, Region.binds .any e = true → e.on < j) ∧ (CW (ja l []) l.length ≤ j ∨ ((wo C l y = true ∨ yM l y = true) ∧ ∀ i, i < j → ∀ x, l[i]? = some x → (((ja l []).getD j 0).testBit i = true ∨ (Ou l x (wl l y) = false ∧ (Ou l x (y.looksAt l.toArray) = false ∧ Ou l y (x.looksAt l.toArray) = false))))) := by
  intro j y hy
  have := h j (List.getElem?_eq_some_iff.1 hy).1
  rw [hy] at this
  simp only [Bool.and_eq_true, List.all_eq_true, Bool.or_eq_true] at this
  refine ⟨fun e he hb => ?_, ?_⟩
  ·rcases this.1 e he with h1 | h1
   ·rw [hb] at h1; cases h1
   ·simpa [Nat.blt_eq] using h1
  ·rcases this.2 with h1 | ⟨h1, h2⟩
   ·exact .inl (by simpa using h1)
   ·refine .inr ⟨h1, fun i hi x hx => ?_⟩
    have h3 := h2 i (by simpa using hi)
    rw [hx] at h3
    simp only [Bool.and_eq_true, Bool.or_eq_true, Bool.not_eq_true'] at h3
    exact h3
 refine ⟨fun j y hy => (hj j y hy).1, ?_, ?_, ?_, ?_, hn1⟩
 ·intro j y hlt hy
  rcases (hj j y hy).2 with h1 | h1
  ·omega
  ·exact h1.1
 ·intro i j p o d hij hjn hp ho hd hd'
  rcases (hj j o ho).2 with h1 | h1
  ·omega
  ·rcases h1.2 i hij p hp with h2 | h2
   ·exact h2
   ·exact absurd (Yr.2 hd') (CY h2.1 hd)
 ·intro i j x y hij hjn hx hy hb
  rcases (hj j y hy).2 with h1 | h1
  ·omega
  ·rcases h1.2 i hij x hx with h2 | h2
   ·rw [hb] at h2; cases h2
   ·exact ⟨fun d hd => CY h2.2.1 hd, fun d hd => CY h2.2.2 hd⟩
 ·intro i j hnj hjl hij
  rw [hn2 j hnj hjl, Nat.testBit_two_pow_sub_one]
  simpa using hij
def DD (l : List Oper) (sv : Nat → Option (Nat × VV)) (j : Nat) : Option Nat := match j % 2 with
 | 0 => (sv (j / 2)).map Prod.fst
 | _ => (l[j / 2]?).bind (·.dst)
def VD (vals : Nat → VV) (sv : Nat → Option (Nat × VV)) (j : Nat) : VV := match j % 2 with
 | 0 => ((sv (j / 2)).map Prod.snd).getD .un
 | _ => vals (j / 2)
theorem Me {sv : Nat → Option (Nat × VV)} {k : Nat} : DD l sv (2 * k) = (sv k).map Prod.fst := by
 unfold DD
 rw [show 2 * k % 2 = 0 by omega, show 2 * k / 2 = k by omega]
 rfl
theorem SB {sv : Nat → Option (Nat × VV)} {k : Nat} : DD l sv (2 * k + 1) = (l[k]?).bind (·.dst) := by
 unfold DD
 rw [show (2 * k + 1) % 2 = 1 by omega, show (2 * k + 1) / 2 = k by omega]
 rfl
theorem NC {vals : Nat → VV} {sv : Nat → Option (Nat × VV)} {k : Nat} : VD vals sv (2 * k) = ((sv k).map Prod.snd).getD .un := by
 unfold VD
 rw [show 2 * k % 2 = 0 by omega, show 2 * k / 2 = k by omega]
 rfl
theorem ND {vals : Nat → VV} {sv : Nat → Option (Nat × VV)} {k : Nat} : VD vals sv (2 * k + 1) = vals k := by
 unfold VD
 rw [show (2 * k + 1) % 2 = 1 by omega, show (2 * k + 1) / 2 = k by omega]
 rfl
theorem PV {sv : Option (Nat × VV)} {env : Env} : put (sv.map Prod.fst) ((sv.map Prod.snd).getD .un) env = Iu sv env := by
 cases sv <;> rfl
def Ha (l : List Oper) (vals : Nat → VV) (sv : Nat → Option (Nat × VV)) (env0 : Env) (k : Nat) : Env := chainE (DD l sv) (VD vals sv) env0 (2 * k)
theorem Yt {vals : Nat → VV} {sv : Nat → Option (Nat × VV)} {k : Nat} {o : Oper} (ho : l[k]? = some o) : Ha l vals sv env0 (k + 1) = put o.dst (vals k) (Iu (sv k) (Ha l vals sv env0 k)) := by
 unfold Ha
 rw [show 2 * (k + 1) = 2 * k + 1 + 1 by omega, chainE, chainE, SB, ND, Me, NC, PV, ho]
 rfl
theorem WM {vals yz : Nat → VV} {sv sv' : Nat → Option (Nat × VV)} {k : Nat} (h : ∀ j, j < k → vals j = yz j) (g : ∀ j, j < k → sv j = sv' j) : Ha l vals sv env0 k = Ha l yz sv' env0 k := by
 unfold Ha
 refine EG _ (fun j hj => ?_) (fun j hj => ?_)
 ·unfold VD
  rw [h (j / 2) (by omega), g (j / 2) (by omega)]
 ·unfold DD
  rw [g (j / 2) (by omega)]
theorem canon (hti : nH P C.ti) (nI : ∀ w w', GW w → Below NG w w' → GW w') (hC : uG P NG GW C.call) {n : Nat} (hO : Ord C l n) (hal : ∀ (k : Nat) o t d, l[k]? = some o → o.op = .alloc t → o.dst = some d → d ∈ al) (h : oV C l (some al) l env0 K = some r) :
  ∀ m, m ≤ n → ∃ (vals : Nat → VV) (sv : Nat → Option (Nat × VV)), oV C l (some al) (l.drop m) (Ha l vals sv env0 m) K = some r ∧ (∀ k, m ≤ k → sv k = none) ∧ ∀ (k : Nat) o, k < m → l[k]? = some o → Iw P NG GW io w0 pd0 Q l al k o (Ha l vals sv env0 k) (vals k) (sv k)
 | 0, _ => ⟨fun _ => .un, fun _ => none, h, fun _ _ => rfl, fun k o hk => absurd hk (Nat.not_lt_zero _)⟩
 | m + 1, hm => by
  obtain ⟨vals, sv, h1, h0, h2⟩ := canon hti nI hC hO hal h m (by omega)
  have hl := hO.le
  have ho : l[m]? = some (l[m]'(by omega)) := List.getElem?_eq_getElem (by omega)
  rw [List.drop_eq_getElem_cons (by omega)] at h1
  obtain ⟨v, s, h3, h4⟩ : ∃ v s, oV C l (some al) (l.drop (m + 1)) (put (l[m]'(by omega)).dst v (Iu s (Ha l vals sv env0 m))) K = some r ∧ Iw P NG GW io w0 pd0 Q l al m (l[m]'(by omega)) (Ha l vals sv env0 m) v s := by
   rcases hO.quiet m _ (by omega) ho with hq | hq
   ·exact quiet_step (io := io) (w0 := w0) (pd0 := pd0) (Q := Q) hti nI hC hq (fun d t h5 h6 => hal m _ t d ho h5 h6) ho h1
   ·exact Yq (io := io) (w0 := w0) (pd0 := pd0) (Q := Q) hti nI hC hq ho h1
  let yz : Nat → VV := fun k => if k = m then v else vals k
  let sv' : Nat → Option (Nat × VV) := fun k => if k = m then s else sv k
  have hc : ∀ k, k ≤ m → Ha l vals sv env0 k = Ha l yz sv' env0 k := fun k hk => WM (fun j hj => by simp only [yz]; rw [if_neg (by omega)]) (fun j hj => by simp only [sv']; rw [if_neg (by omega)])
  refine ⟨yz, sv', ?_, fun k hk => ?_, fun k o hk hok => ?_⟩
  ·rw [Yt ho, ← hc m (Nat.le_refl _)]
   simp only [yz, sv', if_pos]
   exact h3
  ·simp only [sv']
   rw [if_neg (by omega)]
   exact h0 k (by omega)
  ·by_cases e : k = m
   ·subst e
    rw [ho] at hok; cases hok
    rw [← hc k (Nat.le_refl _)]
    simp only [yz, sv', if_pos]
    exact h4
   ·rw [← hc k (by omega)]
    simp only [yz, sv', if_neg e]
    exact h2 k o (by omega) hok
end
def WN : List Bool → Nat
 | [] => 0
 | true :: r => WN r
 | false :: r => WN r + 1
theorem NF : ∀ (l : List Bool) (i : Nat), l[i]? = some false → WN (l.set i true) + 1 = WN l
 | [], i, h => by simp at h
 | true :: r, 0, h => by simp at h
 | false :: r, 0, h => rfl
 | true :: r, i + 1, h => by rw [List.set_cons_succ]; simp only [WN]; exact NF r i (by simpa using h)
 | false :: r, i + 1, h => by rw [List.set_cons_succ]; simp only [WN]; rw [NF r i (by simpa using h)]
theorem PW : ∀ (l : List Bool), WN l = 0 → ∀ i : Nat, l[i]? ≠ some false
 | [], h, i => by simp
 | true :: r, h, 0 => by simp
 | false :: r, h, i => by simp [WN] at h
 | true :: r, h, i + 1 => by rw [List.getElem?_cons_succ]; exact PW r (by simpa only [WN] using h) i
theorem Uk : ∀ n, WN (List.replicate n false) = n
 | 0 => rfl
 | n + 1 => by rw [List.replicate_succ, WN, Uk n]
theorem nat_eq {a b : Nat} (h : ¬ a < b) (k : ¬ b < a) : a = b := by omega
theorem SC {L : Array Bool} {i j : Nat} (hi : i < L.size) : (L.setIfInBounds i true).getD j false = true ↔ L.getD j false = true ∨ j = i := by
 simp only [Array.getD_eq_getD_getElem?, Array.getElem?_setIfInBounds]
 by_cases h : i = j
 ·subst h; simp [hi]
 ·rw [if_neg h]
  have : j ≠ i := fun e => h e.symm
  simp [this]
section
variable {P : Program} {NG : Nat} {GW : World → Prop} {io : List Nat} {w0 : World} {pd0 : Nat → Nat → Prop} {C : Cx} {R : Type} {K : Env → Option R} {r : R} {Q : Exit → Act → World → Prop} {env0 : Env} {ops : Array Oper} {n : Nat} {vals : Nat → VV} {sv : Nat → Option (Nat × VV)}
open Classical in
theorem QS.at {D : Nat → Option Nat} {S S' : Nat → Prop} {e e' : Env} (h : QS D vals env0 n S e) (h' : QS D vals env0 n S' e') {t : Nat} (hs : ∀ (k : Nat), k < n → D k = some t → (S k ↔ S' k)) : get e t = get e' t := by
 by_cases ht : t < env0.length
 ·by_cases hx : ∃ (k : Nat), k < n ∧ (D k = some t ∧ S k)
  ·obtain ⟨k, h1, ⟨h3, h4⟩, h5⟩ := vU n hx
   rw [h.hit k t h1 h3 h4 ht fun j a b c d => h5 j a b ⟨c, d⟩, h'.hit k t h1 h3 ((hs k h1 h3).1 h4) ht fun j a b c d => h5 j a b ⟨c, (hs j b c).2 d⟩]
  ·have hm : ∀ (k : Nat), k < n → D k = some t → ¬ S k := fun k h1 h3 h4 => hx ⟨k, h1, h3, h4⟩
   rw [h.miss t hm, h'.miss t fun k h1 h3 h4 => hm k h1 h3 ((hs k h1 h3).2 h4)]
 ·have hn : ∀ {e : Env}, e.length = env0.length → get e t = .un := fun he => EC (List.getElem?_eq_none (by omega))
  rw [hn h.len, hn h'.len]
theorem WO {dr : Option (List Nat)} (hti : nH P C.ti) (nI : ∀ w w', GW w → Below NG w w' → GW w') (hC : uG P NG GW C.call) {G : Gh} {env : Env} {a : Act} {w : World} {i : Nat} {o : Oper} {rest : List Oper} {Nk : Act → World → Prop} (hi : ops[i]? = some o) (hs : l9 NG GW io w0 pd0 G env a w) (h : oV C ops.toList dr (o :: rest) env K = some r) (hN : ∀ G' env' a' w', l9 NG GW io w0 pd0 G' env' a' w' → oV C ops.toList dr rest env' K = some r → Nk a' w') : wpOp P ops Q i Nk a w := by
 have hnext : Nx NG GW io w0 pd0 (fun env' => oV C ops.toList dr rest env' K) r Nk := fun G' env' a' w' hs' h' => hN G' env' a' w' hs' h'
 unfold wpOp
 rw [hi]
 simp only
 rw [oV] at h
 split at h
 ·rename_i hg
  have hw : Region.wanted o (yielded ops a.tmps) = true := by simp [Region.wanted, hg]
  rw [if_pos hw]
  exact .inl (uu hti nI hC hs hnext h)
 ·rename_i j want hg
  have PN : ∀ (h2 : pR dr o.dst (.s undef) env (fun env' => oV C ops.toList dr rest env' K) = some r), Nk (a.put o.dst undef) w := fun h2 => hnext _ _ _ _ (hs.put o.dst fun d _ => VR.slot (VR.kU (.s _)) d) (jh h2)
  split at h
  ·rename_i b hb
   have hy := Am hs hb
   rcases qZ h with ⟨hbw, h⟩ | ⟨hbw, h⟩
   ·have hw : Region.wanted o (yielded ops a.tmps) = true := by simp only [Region.wanted, hg, hy]; simpa using hbw
    rw [if_pos hw]
    exact .inl (uu hti nI hC hs hnext h)
   ·have hw : ¬ Region.wanted o (yielded ops a.tmps) = true := by simp only [Region.wanted, hg, hy]; simpa using hbw
    rw [if_neg hw]
    exact PN h
  ·rename_i hb
   have hy := Am hs hb
   have hw : ¬ Region.wanted o (yielded ops a.tmps) = true := by simp [Region.wanted, hg, hy]
   rw [if_neg hw]
   exact PN h
  ·cases h
inductive AnySt (C : Cx) (ops : Array Oper) (K : Env → Option R) (r : R) (vals : Nat → VV) (sv : Nat → Option (Nat × VV)) (env0 : Env) (n : Nat) (L : Array Bool) (env : Env) : Prop where
 | quiet (h0 : ∀ j, n ≤ j → L.getD j false = false) (h1 : Down ops.toList L) (h2 : QS (DD ops.toList sv) (VD vals sv) env0 (2 * n) (fun j => L.getD (j / 2) false = true) env)
 | last (j : Nat) (h0 : ∀ i, L.getD i false = true ↔ i < j) (hn : n ≤ j) (hj : j ≤ ops.size) (h1 : oV C ops.toList (some (uF ops.toList)) (ops.toList.drop j) env K = some r)
theorem any_ok (hti : nH P C.ti) (nI : ∀ w w', GW w → Below NG w w' → GW w') (hC : uG P NG GW C.call) (hO : Ord C ops.toList n)
  (hal0 : (uF ops.toList).any (fun d => env0.any (jZ d)) = false)
  (hch : oV C ops.toList (some (uF ops.toList)) (ops.toList.drop n) (Ha ops.toList vals sv env0 n) K = some r)
  (hq : ∀ (k : Nat) o, k < n → ops.toList[k]? = some o → Iw P NG GW io w0 pd0 Q ops.toList (uF ops.toList) k o (Ha ops.toList vals sv env0 k) (vals k) (sv k)) (hsv : ∀ k, n ≤ k → sv k = none)
  (hn : Nx NG GW io w0 pd0 K r (Q .normal)) :
  ∀ (fuel : Nat) (L : Array Bool) (G : Gh) (env : Env) (a : Act) (w : World), L.size = ops.size → WN L.toList ≤ fuel → AnySt C ops K r vals sv env0 n L env → l9 NG GW io w0 pd0 G env a w → wpAny P .any ops Q fuel L a w := by
 have wr : ∀ (j : Nat) t, DD ops.toList sv j = some t → j < 2 * n → ∃ o, ops.toList[j / 2]? = some o ∧ Wr ops.toList o t ∧ (j % 2 = 0 → MQ ops.toList o = some t ∧ plain (get (Ha ops.toList vals sv env0 (j / 2)) t) = true ∧ ∃ xs, VD vals sv j = .sl xs) ∧ (j % 2 = 1 → o.dst = some t) := by
  intro j t hj hjn
  have hlt : j / 2 < ops.toList.length := by have := hO.le; omega
  have ho : ops.toList[j / 2]? = some (ops.toList[j / 2]'hlt) := List.getElem?_eq_getElem hlt
  refine ⟨_, ho, ?_⟩
  rcases Nat.mod_two_eq_zero_or_one j with h2 | h2
  ·have e : j = 2 * (j / 2) := by omega
   rw [e, Me] at hj
   cases hs : sv (j / 2) with
   | none => rw [hs] at hj; cases hj
   | some p =>
    rw [hs] at hj
    obtain ⟨t', s'⟩ := p
    cases hj
    obtain ⟨h3, h4, xs, h5⟩ := (hq (j / 2) _ (by omega) ho).2.2.2.2.1 _ s' hs
    refine ⟨.inr h3, fun _ => ⟨h3, h4, xs, ?_⟩, fun h => by omega⟩
    rw [e, NC, hs]
    exact h5
  ·have e : j = 2 * (j / 2) + 1 := by omega
   rw [e, SB, ho] at hj
   exact ⟨.inl hj, fun h => by omega, fun _ => hj⟩
 have full : ∀ (L : Array Bool) (G : Gh) (env : Env) (a : Act) (w : World), (∀ i, i < ops.size → L.getD i false = true) → AnySt C ops K r vals sv env0 n L env → l9 NG GW io w0 pd0 G env a w → Q .normal a w := by
  intro L G env a w hf hst hs
  have hl := hO.le
  cases hst with
  | quiet h0 h1 h2 =>
   have hnn : ops.size ≤ n := Nat.le_of_not_lt fun hlt => by have := hf n hlt; rw [h0 n (Nat.le_refl _)] at this; cases this
   have he : env = Ha ops.toList vals sv env0 n := h2.uniq ((QS.chain (2 * n) (Nat.le_refl _)).congr fun k hk => ⟨fun _ => hf (k / 2) (by simp at hl; omega), fun _ => hk⟩)
   rw [List.drop_eq_nil_of_le (by simpa using hnn), ← he] at hch
   exact hn _ _ _ _ hs hch
  | last j h0 hnj hj h1 =>
   have : ops.size ≤ j := Nat.le_of_not_lt fun hlt => by have := (h0 j).1 (hf j hlt); omega
   rw [List.drop_eq_nil_of_le (by simpa using this)] at h1
   exact hn _ _ _ _ hs h1
 have noready : ∀ (L : Array Bool), L.size = ops.size → Region.ready .any ops L = [] → ∀ i, i < ops.size → L.getD i false = true := by
  intro L hsz hr i
  induction i using Nat.strongRecOn with
  | _ i ih =>
   intro hi
   by_cases hL : L.getD i false = true
   ·exact hL
   ·exfalso
    have ho : ops.toList[i]? = some (ops.toList[i]'(by simpa using hi)) := List.getElem?_eq_getElem (by simpa using hi)
    have hm : i ∈ Region.ready .any ops.toList.toArray L := Ew.2 ⟨_, ho, by
     simp only [Array.getD_eq_getD_getElem?] at hL ⊢
     rw [Array.getElem?_eq_getElem (by omega)] at hL ⊢
     simpa using hL, fun e he hb => by
      have := hO.edge i _ ho e he hb
      exact ih e.on this (by omega)⟩
    rw [Array.toArray_toList] at hm
    rw [hr] at hm; cases hm
 intro fuel
 induction fuel with
 | zero =>
  intro L G env a w hsz hu hst hs
  have hall : ∀ i, i < ops.size → L.getD i false = true := by
   intro i hi
   have := PW L.toList (by omega) i
   rw [Array.getElem?_toList, Array.getElem?_eq_getElem (by omega)] at this
   rw [Array.getD_eq_getD_getElem?, Array.getElem?_eq_getElem (by omega)]
   simpa using this
  refine ⟨?_, full L G env a w hall hst hs⟩
  refine List.eq_nil_iff_forall_not_mem.2 fun i hi => ?_
  rw [← Array.toArray_toList (xs := ops)] at hi
  obtain ⟨o, ho, h1, h2⟩ := Ew.1 hi
  have hlt : i < ops.size := by simpa using (List.getElem?_eq_some_iff.1 ho).1
  have := hall i hlt
  rw [Array.getD_eq_getD_getElem?, Array.getElem?_eq_getElem (by omega)] at this h1
  simp at this h1
  rw [this] at h1; cases h1
 | succ fuel ih =>
  intro L G env a w hsz hu hst hs
  refine ⟨fun hr => full L G env a w (noready L hsz hr) hst hs, fun i hi => ?_⟩
  rw [← Array.toArray_toList (xs := ops)] at hi
  obtain ⟨o, ho, hLi, hre⟩ := Ew.1 hi
  have hlt : i < ops.size := by simpa using (List.getElem?_eq_some_iff.1 ho).1
  have NH : L.getD i false = false := by
   rw [Array.getD_eq_getD_getElem?, Array.getElem?_eq_getElem (by omega)] at hLi ⊢
   simpa using hLi
  have hget : L.toList[i]? = some false := by
   rw [Array.getD_eq_getD_getElem?, Array.getElem?_eq_getElem (by omega)] at hLi
   rw [Array.getElem?_toList, Array.getElem?_eq_getElem (by omega)]
   simpa using hLi
  have hoa : ops[i]? = some o := by rw [← ho]; simp
  have hsz' : (L.setIfInBounds i true).size = ops.size := by simpa using hsz
  have hu' : WN (L.setIfInBounds i true).toList ≤ fuel := by
   have := NF L.toList i hget
   rw [Array.toList_setIfInBounds]; omega
  have hset : ∀ j, (L.setIfInBounds i true).getD j false = true ↔ L.getD j false = true ∨ j = i := fun j => SC (by omega)
  have seq : ∀ (j : Nat), (∀ i, L.getD i false = true ↔ i < j) → n ≤ j → j ≤ ops.size → (∀ k, k < i → ((ja ops.toList []).getD i 0).testBit k = true) → Down ops.toList L → oV C ops.toList (some (uF ops.toList)) (ops.toList.drop j) env K = some r → wpOp P ops Q i (wpAny P .any ops Q fuel (L.setIfInBounds i true)) a w := by
   intro j h0 hnj hj hbs hd h1
   have hij : i = j := by
    have h3 : ¬ i < j := fun h => by have := (h0 i).2 h; rw [NH] at this; cases this
    have h4 : ¬ j < i := fun h => by
     have := oG hd i o ho hre j (hbs j h)
     have := (h0 j).1 this
     omega
    omega
   subst hij
   rw [List.drop_eq_getElem_cons (by simpa using hlt)] at h1
   have hoe : ops.toList[i]'(by simpa using hlt) = o := by
    have := List.getElem?_eq_getElem (l := ops.toList) (i := i) (by simpa using hlt)
    rw [ho] at this; exact (Option.some.inj this).symm
   rw [hoe] at h1
   refine WO hti nI hC hoa hs h1 fun G' env' a' w' hs' h' => ih _ G' env' a' w' hsz' hu' (.last (i + 1) (fun k => ?_) (by omega) (by omega) h') hs'
   rw [hset, h0]; omega
  cases hst with
  | quiet h0 hd0 h2 =>
   by_cases hin : i < n
   ·-- a quiet one
    have hQ := hq i o hin ho
    have WQ := QS.chain (vals := VD vals sv) (D := DD ops.toList sv) (n := 2 * n) (env0 := env0) (2 * i) (by omega)
    have later : ∀ (k : Nat) p d, i < k → k < n → ops.toList[k]? = some p → Wr ops.toList p d → Wr ops.toList o d → ¬ L.getD k false = true := fun k p d hik hk hp h1 h3 h => by
     have := oG hd0 k p hp (hd0 k p hp h) i (hO.dist i k o p d hik hk ho hp h3 h1)
     rw [NH] at this; cases this
    have hag : Agree ops.toList (uF ops.toList) o (Ha ops.toList vals sv env0 i) env := by
     refine ⟨fun t ht => ?_, fun t cs hta hb => ?_, fun d hd' => ?_, fun d hda => ?_⟩
     ·refine h2.at WQ fun j hj hd => ?_
      obtain ⟨p, hp, Qh, _, _⟩ := wr j t hd hj
      rcases Nat.lt_trichotomy (j / 2) i with hki | hki | hki
      ·refine ⟨fun _ => by omega, fun _ => ?_⟩
       cases hb : ((ja ops.toList []).getD i 0).testBit (j / 2)
       ·exact absurd (by simpa using ht) ((hO.apart (j / 2) i p o hki hin hp ho hb).1 t Qh)
       ·exact oG hd0 i o ho hre (j / 2) hb
      ·rw [hki]
       exact ⟨fun h => absurd h (by rw [NH]; decide), fun h => by omega⟩
      ·refine ⟨fun h => ?_, fun h => by omega⟩
       exfalso
       cases hb : ((ja ops.toList []).getD (j / 2) 0).testBit i
       ·exact absurd (by simpa using ht) ((hO.apart i (j / 2) o p hki (by omega) ho hp hb).2 t Qh)
       ·have := oG hd0 (j / 2) p hp (hd0 (j / 2) p hp h) i hb
        rw [NH] at this; cases this
     ·by_cases hx : ∃ (j : Nat), j < 2 * n ∧ DD ops.toList sv j = some t
      ·have htl : t < env0.length := by
        refine Nat.lt_of_not_le fun hle => ?_
        rw [get, EC (List.getElem?_eq_none (by rw [show (Ha ops.toList vals sv env0 i).length = env0.length from WQ.len]; exact hle))] at hb
        cases hb
       by_cases hki : ∃ (j : Nat), j < 2 * n ∧ (DD ops.toList sv j = some t ∧ j < 2 * i)
       ·obtain ⟨j, hj, ⟨hd, hji⟩, hmax⟩ := vU _ hki
        obtain ⟨p, hp, Qh, hev, hod⟩ := wr j t hd hj
        rw [Ha, WQ.hit j t hj hd hji htl fun j' a b c d => hmax j' a b ⟨c, d⟩] at hb
        rcases Nat.mod_two_eq_zero_or_one j with h6 | h6
        ·obtain ⟨_, _, xs, h7⟩ := hev h6
         rw [h7] at hb; cases hb
        ·have e : j = 2 * (j / 2) + 1 := by omega
         rw [e, ND] at hb
         exact absurd ((hq (j / 2) p (by omega) hp).2.2.1 cs hb t (hod h6)) hta
       ·obtain ⟨j0, hj0, hd0'⟩ := hx
        obtain ⟨j, hjle, hd, hmin⟩ := SA (p := fun j => DD ops.toList sv j = some t) hd0'
        obtain ⟨p, hp, Qh, hev, hod⟩ := wr j t hd (by omega)
        have hge : ¬ j < 2 * i := fun h => hki ⟨j, by omega, hd, h⟩
        have hchk := QS.chain (D := DD ops.toList sv) (n := 2 * n) (vals := VD vals sv) (env0 := env0) (2 * (j / 2)) (by omega)
        have h5 : get (Ha ops.toList vals sv env0 i) t = get env0 t := WQ.miss t fun j' hj' hd' h => hki ⟨j', hj', hd', h⟩
        have h6 : get (Ha ops.toList vals sv env0 (j / 2)) t = get env0 t := hchk.miss t fun j' hj' hd' h => hmin j' (by omega) hd'
        have h8 : plain (get (Ha ops.toList vals sv env0 (j / 2)) t) = true := by
         rcases Nat.mod_two_eq_zero_or_one j with h7 | h7
         ·exact (hev h7).2.1
         ·exact (hq (j / 2) p (by omega) hp).1 t (hod h7)
        rw [h6, ← h5, hb] at h8
        cases h8
      ·have hm : ∀ (j : Nat), j < 2 * n → DD ops.toList sv j ≠ some t := fun j h1 h4 => hx ⟨j, h1, h4⟩
       rw [Ha, WQ.miss t fun j h1 h4 => absurd h4 (hm j h1)] at hb
       rw [h2.miss t fun j h1 h4 => absurd h4 (hm j h1)]
       exact hb
     ·have := hQ.1 d hd'
      rw [h2.at WQ (t := d) fun j hj hd => ?_]
      ·exact this
      ·obtain ⟨p, hp, Qh, _, _⟩ := wr j d hd hj
       rcases Nat.lt_trichotomy (j / 2) i with hki | hki | hki
       ·exact ⟨fun _ => by omega, fun _ => oG hd0 i o ho hre (j / 2) (hO.dist (j / 2) i p o d hki hin hp ho Qh (.inl hd'))⟩
       ·rw [hki]
        exact ⟨fun h => absurd h (by rw [NH]; decide), fun h => by omega⟩
       ·exact ⟨fun h => absurd h (later (j / 2) p d hki (by omega) hp Qh (.inl hd')), fun h => by omega⟩
     ·refine List.any_eq_false.2 fun v hv => ?_
      obtain ⟨t, ht, rfl⟩ := List.getElem_of_mem hv
      have hgt : get env t = env[t] := Ic (List.getElem?_eq_getElem ht)
      rw [← hgt]
      by_cases hx : ∃ (j : Nat), j < 2 * n ∧ (DD ops.toList sv j = some t ∧ L.getD (j / 2) false = true)
      ·obtain ⟨j, hj, ⟨hd, hs4⟩, hmax⟩ := vU _ hx
       obtain ⟨p, hp, Qh, hev, hod⟩ := wr j t hd hj
       rw [h2.hit j t hj hd hs4 (by rw [← h2.len]; exact ht) fun j' a b c d => hmax j' a b ⟨c, d⟩]
       rcases Nat.mod_two_eq_zero_or_one j with h6 | h6
       ·obtain ⟨_, _, xs, h7⟩ := hev h6
        rw [h7]; simp [jZ, vO]
       ·have e : j = 2 * (j / 2) + 1 := by omega
        rw [e, ND]
        have := (hq (j / 2) p (by omega) hp).2.1 d hda (by rw [hod h6]; simp)
        rw [this]; simp
      ·rw [h2.miss t fun j h1 h3 h5 => hx ⟨j, h1, h3, h5⟩]
       have h7 := List.any_eq_false.1 hal0 d hda
       have h7' : env0.any (jZ d) = false := by simpa using h7
       have ht0 : t < env0.length := by rw [← h2.len]; exact ht
       have := List.any_eq_false.1 h7' env0[t] (List.getElem_mem _)
       rw [get, Ic (List.getElem?_eq_getElem ht0)]
       exact this
    have hw := hQ.2.2.2.2.2 env G a w hag hs (wpAny P .any ops Q fuel (L.setIfInBounds i true)) (fun G' a' w' hs' => ih _ G' _ a' w' hsz' hu' (.quiet ?_ ?_ ?_) hs')
    ·rwa [Array.toArray_toList] at hw
    ·intro j hj
     have : ¬ (L.setIfInBounds i true).getD j false = true := fun h => by
      rcases (hset j).1 h with h | h
      ·rw [h0 j hj] at h; cases h
      ·omega
     simpa using this
    ·intro j p hp hj e he hb
     rw [hset]
     rcases (hset j).1 hj with h | h
     ·exact .inl (hd0 j p hp h e he hb)
     ·subst h; rw [ho] at hp; cases hp
      exact .inl (hre e he hb)
    ·have e2 : 2 * i / 2 = i := by omega
     have st1 := h2.step (k := 2 * i) (by omega) (by rw [e2, NH]; simp) (fun j d hij hj hd hd2 h => by
      obtain ⟨p, hp, Qh, _, _⟩ := wr j d hd hj
      obtain ⟨p2, hp2, hpd2, _, _⟩ := wr (2 * i) d hd2 (by omega)
      rw [e2, ho] at hp2; cases hp2
      by_cases hji : j / 2 = i
      ·rw [hji, NH] at h; cases h
      ·exact later (j / 2) p d (by omega) (by omega) hp Qh hpd2 h)
     rw [Me, NC, PV] at st1
     have e3 : (2 * i + 1) / 2 = i := by omega
     have st2 := st1.step (k := 2 * i + 1) (by omega) (fun h => by
      rcases h with h | h
      ·rw [e3, NH] at h; cases h
      ·omega) (fun j d hij hj hd hd2 h => by
      obtain ⟨p, hp, Qh, _, _⟩ := wr j d hd hj
      obtain ⟨p2, hp2, hpd2, _, _⟩ := wr (2 * i + 1) d hd2 (by omega)
      rw [e3, ho] at hp2; cases hp2
      rcases h with h | h
      ·exact later (j / 2) p d (by omega) (by omega) hp Qh hpd2 h
      ·omega)
     rw [SB, ND, ho] at st2
     refine st2.congr fun k hk => ?_
     rw [hset]
     constructor
     ·rintro ((h | h) | h)
      ·exact .inl h
      ·exact .inr (by omega)
      ·exact .inr (by omega)
     ·rintro (h | h)
      ·exact .inl (.inl h)
      ·rcases Nat.mod_two_eq_zero_or_one k with h6 | h6
       ·exact .inl (.inr (by omega))
       ·exact .inr (by omega)
   ·-- the first of the last ones
    have hsol := fun k (hk : k < i) => hO.solid k i (by omega) (by simpa using hlt) hk
    have hall : ∀ k, k < i → L.getD k false = true := fun k hk => oG hd0 i o ho hre k (hsol k hk)
    have hni : n = i := by
     refine nat_eq (fun h => ?_) (fun h => by omega)
     have := hall n h
     rw [h0 n (Nat.le_refl _)] at this; cases this
    have hle : ∀ k, L.getD k false = true ↔ k < n := fun k => ⟨fun h => Nat.lt_of_not_le fun hk => absurd h (by rw [h0 k hk]; decide), fun h => hall k (by omega)⟩
    have he : env = Ha ops.toList vals sv env0 n := h2.uniq ((QS.chain (2 * n) (Nat.le_refl _)).congr fun k hk => ⟨fun _ => (hle (k / 2)).2 (by omega), fun _ => hk⟩)
    rw [← he] at hch
    exact seq n hle (Nat.le_refl _) (by simpa using hO.le) hsol hd0 hch
  | last j h0 hnj hj h1 =>
   have hd : Down ops.toList L := fun k p hp hk e he hb => by
    have h5 := (h0 k).1 hk
    have := hO.edge k p hp e he hb
    exact (h0 e.on).2 (by omega)
   have hge : n ≤ i := by
    have : ¬ i < j := fun h => by have := (h0 i).2 h; rw [NH] at this; cases this
    omega
   exact seq j h0 hnj hj (fun k hk => hO.solid k i hge (by simpa using hlt) hk) hd h1
theorem xW (hm : P.follows .mixedOrders = true) (hti : nH P C.ti) (nI : ∀ w w', GW w → Below NG w w' → GW w') (hC : uG P NG GW C.call) : Yl P NG GW C := by
 intro R io w0 pd0 G env a w K r Q id ops hO hal hs h hn
 obtain ⟨n, hO⟩ := Md hO
 have hmem : ∀ (k : Nat) o t d, ops.toList[k]? = some o → o.op = .alloc t → o.dst = some d → d ∈ uF ops.toList := by
  intro k o t d ho hop hd
  unfold uF
  exact List.mem_filterMap.2 ⟨o, List.mem_of_getElem? ho, by rw [hop]; exact hd⟩
 obtain ⟨vals, sv, h1, h0, h2⟩ := canon (io := io) (w0 := w0) (pd0 := pd0) (Q := Q) hti nI hC hO hmem h n (Nat.le_refl _)
 refine wp_region_any hm (any_ok hti nI hC hO hal h1 h2 h0 hn ops.size _ G env a w.drew (by simp) ?_ (.quiet ?_ ?_ ?_) (hs.drew nI))
 ·rw [Array.toList_replicate, Uk]; exact Nat.le_refl _
 ·intro j hj
  simp only [Array.getD_eq_getD_getElem?, Array.getElem?_replicate]
  split <;> rfl
 ·intro j o ho hj
  simp only [Array.getD_eq_getD_getElem?, Array.getElem?_replicate] at hj
  split at hj <;> simp at hj
 ·refine ⟨rfl, fun k d hk hd hsk => ?_, fun _ _ => rfl⟩
  simp only [Array.getD_eq_getD_getElem?, Array.getElem?_replicate] at hsk
  split at hsk <;> simp at hsk
end
end Go.Proofs.YtieohddolkeegaaGreatDoor.VI

end
section
namespace Go.Proofs.YtieohddolkeegaaGreatDoor.VI
open Go Go.RowKit Go.Proofs.aA.aZ
set_option linter.unusedVariables false
set_option linter.unusedSimpArgs false
abbrev BK : Nat → Nat → Prop := fun _ _ => True
structure KV {α : Type} (d : Kd α) (enc : α → List VV) : Prop where
 pos : 0 < d.sz
 len : ∀ x, (enc x).length = d.sz
 rel : ∀ {w x cs}, d.K w x cs → lN BK w (enc x) cs
theorem LQ {α : Type} {mk : α → Value} {h1 : ∀ x, (mk x).oneCell' = true} : KV (Kd.scalar mk h1) (fun x => [.s (mk x)]) :=
 ⟨Nat.one_pos, fun _ => rfl, fun {w x cs} h => by cases h; exact .cons _ _ _ _ (.s _) .nil⟩
theorem Aq : KV Kd.string (fun x => [VV.str x]) := LQ (h1 := fun _ => rfl)
theorem kv_byte : KV (Kd.int .u8) (fun x => [VV.byte x]) := LQ (h1 := fun _ => rfl)
theorem NI {α : Type} {d : Kd α} {enc : α → VV} (h : KV d (fun x => (enc x).cells)) {w : World} {A : Option Addr} {xs : List α} {c : Nat} (hc : xs.length ≤ c) (hr : Kd.C d w A xs.length xs) : DR BK w (.sl (xs.map enc)) (.slice A xs.length c) := by
 obtain ⟨_, hm, hA⟩ := hr
 by_cases h0 : xs.length = 0
 ·obtain rfl := List.eq_nil_of_length_eq_zero h0
  exact .sl0 _ _
 obtain ⟨ad, rfl, hrow⟩ := hA (by omega)
 have hsp : ad.spot = none := by
  obtain ⟨cs, hl, _, hcell⟩ := hrow 0 _ (List.getElem?_eq_getElem (by omega))
  have hp := h.pos
  have h1 := hcell 0 _ (List.getElem?_eq_getElem (by omega))
  rw [Nat.zero_mul, Nat.zero_add] at h1
  have h2 : ad.add 0 = ad := by simp [Addr.add]
  rw [h2] at h1
  unfold World.cell? at h1
  split at h1
  ·cases hs : ad.spot with
   | none => rfl
   | some _ => rw [hs] at h1; simp at h1
  ·cases h1
 obtain ⟨g, off, sp⟩ := ad
 subst hsp
 have key : ∀ (ys : List α) (j0 : Nat), (∀ j p, ys[j]? = some p → ∃ c, c.length = d.sz ∧ d.K w p c ∧ ∀ i u, c[i]? = some u → w.cell? ((⟨g, off, none⟩ : Addr).add ((j0 + j) * d.sz + i)) = some u) → ∃ ms : List Value, lN BK w (ys.flatMap fun x => (enc x).cells) ms ∧ (∀ u ∈ ms, u.oneCell' = true) ∧ ∀ (k : Nat) u, ms[k]? = some u → w.cell? ⟨g, off + (j0 * d.sz + k), none⟩ = some u := by
  intro ys
  induction ys with
  | nil => intro j0 _; exact ⟨[], .nil, by simp, fun k u hk => by simp at hk⟩
  | cons y r ih =>
   intro j0 hy
   obtain ⟨c, hl, hK, hcell⟩ := hy 0 y rfl
   obtain ⟨ms, h1, h2, h3⟩ := ih (j0 + 1) fun j p hp => by
    obtain ⟨c', q1, q2, q3⟩ := hy (j + 1) p (by simpa using hp)
    refine ⟨c', q1, q2, fun i u hu => ?_⟩
    have := q3 i u hu
    rw [show j0 + (j + 1) = j0 + 1 + j by omega] at this
    exact this
   refine ⟨c ++ ms, by rw [List.flatMap_cons]; exact (h.rel hK).app h1, fun u hu => ?_, fun k u hu => ?_⟩
   ·rcases List.mem_append.1 hu with hu | hu
    ·exact d.rX hK u hu
    ·exact h2 u hu
   ·by_cases hk : k < c.length
    ·rw [List.getElem?_append_left hk] at hu
     have := hcell k u hu
     rw [Nat.add_zero] at this
     have hadd : ∀ n, (⟨g, off, none⟩ : Addr).add n = ⟨g, off + n, none⟩ := fun n => by unfold Addr.add; split <;> simp_all
     rw [hadd] at this
     exact this
    ·rw [List.getElem?_append_right (by omega)] at hu
     have := h3 (k - c.length) u hu
     rw [show off + ((j0 + 1) * d.sz + (k - c.length)) = off + (j0 * d.sz + k) by rw [Nat.add_mul]; omega] at this
     exact this
 obtain ⟨ms, h1, h2, h3⟩ := key xs 0 (fun j p hp => by rw [Nat.zero_add]; exact hrow j p hp)
 have := DR.sl (pd := BK) (w := w) (xs.map enc) g off c d.sz ms (by simpa using hc) (by simpa [maxLen] using hm) (by
   intro x hx
   obtain ⟨y, _, rfl⟩ := List.mem_map.1 hx
   exact h.len y) (by rw [List.flatMap_map]; exact h1) h2 fun k u hu => ⟨by have := h3 k u hu; rw [Nat.zero_mul, Nat.zero_add] at this; exact this, trivial⟩
 rw [List.length_map] at this
 exact this
theorem kv_pair {α β : Type} {a : Kd α} {b : Kd β} {ea : α → List VV} {eb : β → List VV} (h : KV a ea) (k : KV b eb) : KV (Kd.pair a b) (fun x => ea x.1 ++ eb x.2) :=
 ⟨by show 0 < a.sz + b.sz; have := h.pos; omega, fun x => by show (ea x.1 ++ eb x.2).length = a.sz + b.sz; rw [List.length_append, h.len, k.len], fun {w x cs} hK => by
  obtain ⟨c0, c1, rfl, h0, h1⟩ := hK
  exact (h.rel h0).app (k.rel h1)⟩
theorem kv_iso {α β : Type} {d : Kd α} {f : β → α} {ea : α → List VV} {eb : β → List VV} (h : KV d ea) (he : ∀ x, eb x = ea (f x)) : KV (Kd.iso d f) eb :=
 ⟨h.pos, fun x => by rw [he]; exact h.len _, fun {w x cs} hK => by rw [he]; exact h.rel hK⟩
section
variable {P : Program} {NG : Nat} {GW : World → Prop} {f : FuncId}
theorem Yu {pd : Nat → Nat → Prop} {w : World} {v : VV} {m : Value} (h : DR pd w v m) (cs : List VV) : v ≠ .bx cs := by cases h <;> exact fun e => VV.noConfusion e
theorem Yv {H : Gh} {w : World} {v : VV} {m : Value} (h : DR H.pd w v m) : Yg H w v m := by cases h <;> (show DR H.pd w _ _) <;> constructor <;> assumption
theorem ik.calls {vs : List VV} {ms : List Value} {v : Value} {w : World} (h : ik P NG GW f vs (.s v, [])) (hgw : GW w) (hng : NG ≤ w.heap.size) (ha : lN BK w vs ms) : Calls P f ms.toArray w fun e w' => e = .returned v ∧ Below w.heap.size w w' := by
 have hnb : ∀ x ∈ vs, ∀ cs, x ≠ .bx cs := fun x hx cs => by
  obtain ⟨i, hi, rfl⟩ := List.getElem_of_mem hx
  obtain ⟨m, _, hd⟩ := ha.get (List.getElem?_eq_getElem hi)
  exact Yu hd cs
 have OE := zn vs ms hnb
 have := h.2 w ms ⟨BK, BK, fun _ => 0, fun _ => none, 0⟩ hgw hng ha.length (fun i x m hx hm => Yv (H := ⟨BK, BK, fun _ => 0, fun _ => none, 0⟩) (ha.at hx hm)) (by rw [OE]; exact List.nodup_nil) (by rw [OE]; simp) (by rw [OE]; simp) (fun _ _ h => h)
 refine this.mono fun e w' he => ?_
 obtain ⟨m, rfl, hfr, pd', _, hres, _⟩ := he
 have hd : DR pd' w' (.s v) m := hres
 cases hd
 exact ⟨rfl, hfr.os, hfr.tape, hfr.output, hfr.size, fun k hk => hfr.block k hk (by rw [OE]; simp)⟩
end
section
variable {P : Program} {NG : Nat} {GW : World → Prop} {f : FuncId}
theorem ik.callsG {vs : List VV} {ms : List Value} {r : VV} {w : World} (h : ik P NG GW f vs (r, [])) (hgw : GW w) (hng : NG ≤ w.heap.size) (ha : lN BK w vs ms) : Calls P f ms.toArray w fun e w' => ∃ m pd', e = .returned m ∧ Ik w.heap.size pd' w' r m ∧ Below w.heap.size w w' := by
 have hnb : ∀ x ∈ vs, ∀ cs, x ≠ .bx cs := fun x hx cs => by
  obtain ⟨i, hi, rfl⟩ := List.getElem_of_mem hx
  obtain ⟨m, _, hd⟩ := ha.get (List.getElem?_eq_getElem hi)
  exact Yu hd cs
 have OE := zn vs ms hnb
 have := h.2 w ms ⟨BK, BK, fun _ => 0, fun _ => none, 0⟩ hgw hng ha.length (fun i x m hx hm => Yv (H := ⟨BK, BK, fun _ => 0, fun _ => none, 0⟩) (ha.at hx hm)) (by rw [OE]; exact List.nodup_nil) (by rw [OE]; simp) (by rw [OE]; simp) (fun _ _ h => h)
 refine this.mono fun e w' he => ?_
 obtain ⟨m, rfl, hfr, pd', _, hres, _⟩ := he
 exact ⟨m, pd', rfl, hres, hfr.os, hfr.tape, hfr.output, hfr.size, fun k hk => hfr.block k hk (by rw [OE]; simp)⟩
theorem ik.callsA {vs : List VV} {ms : List Value} (ls ks : List Value) {w : World} (h : ik P NG GW f vs (.tu (.ag (ls.map VV.s) :: ks.map VV.s), [])) (hgw : GW w) (hng : NG ≤ w.heap.size) (ha : lN BK w vs ms) : Calls P f ms.toArray w fun e w' => e = .returned (.tuple (.agg ls.toArray :: ks).toArray) ∧ Below w.heap.size w w' := by
 refine (h.callsG hgw hng ha).mono fun e w' he => ?_
 obtain ⟨m, pd', rfl, hres, hb⟩ := he
 have hd : DR pd' w' (.tu (.ag (ls.map VV.s) :: ks.map VV.s)) m := hres
 cases hd with
 | tu cs us hr =>
  cases hr with
  | cons _ m0 _ us h0 hs =>
   cases h0 with
   | ag _ qs hq h1 =>
    rw [PK ls hq, PK ks hs]
    exact ⟨rfl, hb⟩
end
end Go.Proofs.YtieohddolkeegaaGreatDoor.VI

end
section
namespace Go.Proofs.YtieohddolkeegaaGreatDoor.VI
open Go
set_option linter.unusedSimpArgs false
set_option linter.unusedVariables false
def Im {α β : Type} (e : α → β) (x : Option α) (y : Option β) : Prop := ∀ r, x = some r → y = some (e r)
section
variable {α β γ δ : Type} {e : α → β} {x : Option α} {y z : Option β}
theorem Im.none : Im e .none y := fun _ h => by cases h
theorem Im.ret {r : α} (h : y = some (e r)) : Im e (some r) y := fun s hs => by cases hs; exact h
theorem Im.gy {a : γ} {f : γ → Option α} (h : Im e (f a) y) : Im e ((some a).bind f) y := h
theorem Im.ite {c : Prop} [Decidable c] {a b : Option α} (ht : c → Im e a y) (hf : ¬ c → Im e b y) : Im e (if c then a else b) y := by
 by_cases h : c
 ·rw [if_pos h]; exact ht h
 ·rw [if_neg h]; exact hf h
theorem Im.bH {b : Bool} (hb : b = true) (h : Im e x y) : Im e x (bite b y z) := by subst hb; exact h
theorem Im.bJ {b : Bool} (hb : b = false) (h : Im e x z) : Im e x (bite b y z) := by subst hb; exact h
theorem Im.must {b : Bool} (hb : b = true) (h : Im e x y) : Im e x (VI.must b y) := by subst hb; exact h
theorem Im.bind {e' : γ → δ} {u : Option γ} {v : Option δ} {f : γ → Option α} {g : δ → Option β} (h : Im e' u v) (k : ∀ a, u = some a → Im e (f a) (g (e' a))) : Im e (u.bind f) (jY v g) := by
 intro r hr
 obtain ⟨a, ha, hr⟩ := Option.bind_eq_some_iff.1 hr
 rw [h a ha]
 exact k a ha r hr
end
end Go.Proofs.YtieohddolkeegaaGreatDoor.VI

end
section
namespace Go.Proofs.YtieohddolkeegaaGreatDoor.VI
open Go Go.RowKit Go.Proofs.aA.aZ
set_option linter.unusedVariables false
set_option linter.unusedSimpArgs false
theorem Yw {α : Type} (v : VV) (k : VV → α) : frc1 v k = k v := by cases v <;> rfl
theorem PX {α : Type} : ∀ (l : List VV) (k : List VV → α), CV l k = k l
 | [], _ => rfl
 | v :: r, k => by rw [CV, Yw, PX r]
theorem Ul : ∀ (l : List Nat) (env : Env) (i : Nat), XR l i (XR l i env) = XR l i env
 | l, [], i => rfl
 | l, v :: r, i => by
  simp only [XR]
  rw [Ul l r (i + 1)]
  split <;> rfl
theorem PY (l : Option (List Nat)) (env : Env) : clear l (clear l env) = clear l env := by
 cases l with
 | none => rfl
 | some l => exact Ul l env 0
section
variable {α β γ δ : Type} {e : α → β} {x : Option α} {y z : Option β}
theorem SE {l : Option (List Nat)} {g : Env → (Exit → Env → Option β) → Option β} {K : Exit → Env → Option β} : ∀ {M : Nat} {env : Env}, iter (fun env' K' => yL l env' fun e => g e K') M env K = iter (fun env' K' => yL l env' fun e => g e K') M (clear l env) K
 | 0, _ => rfl
 | M + 1, env => by simp only [iter, yL, PX, PY]
theorem Im.loop {σ : Type} {l : Option (List Nat)} {g : Env → (Exit → Env → Option β) → Option β} {K : Exit → Env → Option β} (S : σ → Env) (L : Nat → σ → Option α) (k0 : Nat) (h0 : ∀ s, L 0 s = Option.none)
  (hs : ∀ k M s, k + 1 ≤ k0 → k ≤ M → (∀ k' s' env, k' ≤ k → clear l env = S s' → Im e (L k' s') (iter (fun env' K' => yL l env' fun e => g e K') M env K)) → Im e (L (k + 1) s) (iter (fun env' K' => yL l env' fun e => g e K') (M + 1) (S s) K)) :
  ∀ k M s env, k ≤ k0 → k ≤ M → clear l env = S s → Im e (L k s) (iter (fun env' K' => yL l env' fun e => g e K') M env K) := by
 intro k
 induction k using Nat.strongRecOn with
 | _ k IH =>
  intro M s env hk hM hc
  cases k with
  | zero => rw [h0]; exact Im.none
  | succ k =>
   obtain ⟨M, rfl⟩ : ∃ M', M = M' + 1 := ⟨M - 1, by omega⟩
   rw [SE, hc]
   exact hs k M s hk (by omega) fun k' s' env' hk' hc' => IH k' (by omega) M s' env' (by omega) (by omega) hc'
theorem Im.nat (F : Nat → Option α) (k : Nat) (h0 : F 0 = Option.none) (hs : ∀ k', k = k' + 1 → Im e (F (k' + 1)) y) : Im e (F k) y := by
 cases k with
 | zero => rw [h0]; exact Im.none
 | succ k => exact hs k rfl
theorem Im.bG {τ : Type} {l : List τ} {enc : τ → VV} {i : Int} {f : VV → Option β} (d : τ) (h0 : 0 ≤ i) (h1 : i < (l.length : Int)) (h : Im e x (f (enc (iE d l i)))) : Im e x (bG (l.map enc) i f) := by
 unfold VI.bG
 have hl : i.toNat < l.length := by omega
 rw [List.getElem?_map, List.getElem?_eq_getElem hl]
 simp only [Option.map_some]
 unfold iE at h
 rw [List.getD_eq_getElem?_getD, List.getElem?_eq_getElem hl] at h
 exact h
theorem Im.je {C : Cx} {l : List Oper} (h : xP C l = true) (k : Im e x y) : Im e x (bite (xP C l) y z) := Im.bH h k
theorem Im.fin {b : β} {r : α} (h : b = e r) : Im e (some r) (some b) := Im.ret (congrArg some h)
theorem Im.call {e' : γ → VV × List VV} {u : Option γ} {fn : List VV → Option (VV × List VV)} {us bs : List VV} {f : γ → Option α} {g : VV × List VV → Option β} (h : Im e' u (fn bs)) (ha : us = bs) (k : ∀ a, u = some a → Im e (f a) (g (e' a))) : Im e (u.bind f) (jY (fn us) g) := by
 subst ha
 exact Im.bind h k
end
theorem Ey : ∀ l : List Int, KW (l.map VV.byte) = some l
 | [] => rfl
 | n :: r => by
  show jY (KW (r.map VV.byte)) _ = _
  rw [Ey r]
  rfl
theorem Ez (n : Int) : wr .i64 n = wrap64 n := rfl
theorem PZ (n : Int) : wr .u8 n = n % 256 := rfl
theorem P5 (s : ByteArray) (i : Int) : VI.bt s i = Go.Proofs.aA.aZ.bt s i := rfl
theorem He (a : Array UInt8) : (⟨a⟩ : ByteArray).size = a.size := rfl
theorem xX (a : Array UInt8) : (⟨a⟩ : ByteArray).toList = a.toList := by
 rw [Go.ByteArray.toList_eq]
theorem EH (xs : List Int) (i : Int) : Go.Proofs.aA.aZ.rd xs i = iE 0 xs i := rfl
theorem EI : IntKind.bits .u8 = 8 := rfl
theorem EJ (x : Int) : x.fdiv 16 = x / 16 := Int.fdiv_eq_ediv_of_nonneg x (by decide)
theorem zu (x : Int) : x.fdiv (2 ^ min (Int.toNat 4) 8) = x / 16 := Int.fdiv_eq_ediv_of_nonneg x (by decide)
theorem xY (x y : Int) : IntKind.wrap .u8 ((BitVec.ofInt 8 x &&& BitVec.ofInt 8 y).toNat : Int) = Go.bits .and .u8 x y := rfl
theorem zy (x y : Int) : IntKind.wrap .u8 ((BitVec.ofInt IntKind.u8.bits x &&& BitVec.ofInt IntKind.u8.bits y).toNat : Int) = Go.bits .and .u8 x y := rfl
theorem and_t {a b : Bool} (h : a = true) (k : b = true) : (a && b) = true := by rw [h, k]; rfl
theorem WR {α : Type} {enc : α → VV} {z : Nat} {l : List α} (h : ∀ x, Nat.beq (enc x).cells.length z = true) : ((l.map enc).all fun v => Nat.beq v.cells.length z) = true := by
 rw [List.all_map, List.all_eq_true]
 exact fun x _ => h x
theorem beq_self (n : Nat) : Nat.beq n n = true := Nat.beq_refl n
noncomputable def yP {α : Type} (g : Nat → Option α) : Option α := open Classical in if h : ∃ k r, g k = some r then some (Classical.choose (Classical.choose_spec h)) else none
theorem NJ {α : Type} {g : Nat → Option α} (hm : ∀ k, bz (g k) (g (k + 1))) {r : α} : ∀ (d k : Nat), g k = some r → g (k + d) = some r
 | 0, k, h => h
 | d + 1, k, h => hm (k + d) r (NJ hm d k h)
theorem tH {α : Type} {g : Nat → Option α} {r : α} (h : yP g = some r) : ∃ k, g k = some r := by
 unfold yP at h
 split at h
 ·rename_i hx
  cases h
  exact ⟨_, Classical.choose_spec (Classical.choose_spec hx)⟩
 ·cases h
theorem rq {α : Type} {g : Nat → Option α} (hm : ∀ k, bz (g k) (g (k + 1))) {k : Nat} {r : α} (h : g k = some r) : yP g = some r := by
 have hx : ∃ k r, g k = some r := ⟨k, r, h⟩
 have e : yP g = some (Classical.choose (Classical.choose_spec hx)) := by unfold yP; rw [dif_pos hx]
 rw [e]
 obtain ⟨j, hj⟩ := tH e
 have h1 := NJ hm j k h
 have h2 := NJ hm k j hj
 rw [Nat.add_comm j k, h1] at h2
 exact h2.symm
theorem bq_ne {a b : Bool} (h : a = b) : ((!(a == b)) == false) = true := by subst h; cases a <;> rfl
theorem bq_ne2 {a b : Bool} (h : a = b) : (!(a == b)) = false := by subst h; cases a <;> rfl
theorem bnd_ok {n : Nat} {l h : Int} (h0 : 0 ≤ l) (h1 : l ≤ h) (h2 : h ≤ (n : Int)) : vP n l h = true := by
 unfold vP
 rw [decide_eq_true (Int.le_trans h0 h1), decide_eq_true h2, decide_eq_true h0, decide_eq_true h1]
 rfl
def EK : Bool → Option Bool
 | true => some true
 | false => none
theorem Hf : EK true = some true := rfl
theorem Hg : EK false = none := rfl
theorem Ar {α β : Type} {c : Prop} [Decidable c] (a b : Option α) (f : α → Option β) : (if c then a else b).bind f = if c then a.bind f else b.bind f := by split <;> rfl
theorem yQ {α β : Type} (f : α → Option β) : (none : Option α).bind f = none := rfl
theorem yR {α β : Type} (a : α) (f : α → Option β) : (some a).bind f = f a := rfl
theorem yS {α β γ : Type} (x : Option α) (g : α → Option β) (f : β → Option γ) : (x.bind g).bind f = x.bind fun a => (g a).bind f := by cases x <;> rfl
theorem Im.EK {β : Type} {e : Bool → β} {b : Bool} {y : β} (h : y = e b) : Im e (EK b) (some y) := by
 intro r hr
 cases b with
 | true => cases hr; rw [h]
 | false => cases hr
theorem Im.vopc {α β : Type} {e : α → β} {x : Option α} {C : Cx} {ops : List Oper} {dr : Option (List Nat)} {o : Oper} {env env2 : Env} {K : Env → Option β} (h : ∀ K' : Env → Option β, rQ C ops dr o env K' = K' env2) (k : Im e x (K env2)) : Im e x (rQ C ops dr o env K) := by rw [h]; exact k
def nlw (e : Nat) (b : Bool) (l : List ByteArray) : VV := match b, l with
 | true, [] => .nl
 | _, l => .ow e 1 (l.map VV.str)
theorem nlw_f (e : Nat) (l : List ByteArray) : nlw e false l = .ow e 1 (l.map VV.str) := rfl
theorem nlw_t (e : Nat) (a : ByteArray) (l : List ByteArray) : nlw e true (a :: l) = .ow e 1 ((a :: l).map VV.str) := rfl
theorem nlw_n (e : Nat) : nlw e true [] = .nl := rfl
theorem zr {P : Prop} (h : P := by first | (first | rfl | (simp only [List.length_map, List.length_set, List.length_replicate, List.map_append, List.map_set, List.map_cons, List.map_nil, List.map_replicate, List.map_take, List.map_drop, Ez, PZ, P5, EH, EI, EJ, zu, zy, xY, xX, bne, Int.zero_sub, nlw_f, nlw_t, nlw_n, List.cons_append]; first | done | rfl)) | fail) : P := h
theorem zq {P : Prop} (h : P := by first | assumption | exact bq_ne (by assumption) | exact bq_ne2 (by assumption) | exact decide_eq_true (by assumption) | exact decide_eq_false (by assumption) | ((try clear ih1); (try clear ih2); (try clear ih3); simp only [*, decide_true, decide_false, Bool.beq_true, Bool.beq_false, Bool.not_true, Bool.not_false, beq_self_eq_true, Bool.true_and, Bool.and_true, Bool.eq_false_iff, ne_eq, not_false_eq_true, not_true_eq_false, Bool.not_eq_true', Bool.not_eq_eq_eq_not, Bool.not_true, Bool.not_false, Bool.and_false, Bool.false_and]; done) | fail) : P := h
theorem zd {P : Prop} (h : P := by first | ((try clear ih1); (try clear ih2); (try clear ih3); (simp only [Option.getD_some, Option.getD_none, Ez]); (refine bnd_ok ?_ ?_ ?_ <;> (first | assumption | omega))) | (((try clear ih1); (try clear ih2); (try clear ih3); first | assumption | exact decide_eq_true (by assumption) | exact decide_eq_false (by assumption) | (simp [*, Ez, PZ, P5, EH, EI, EJ, zu, zy, xY, He, xX, vP, VV.cells, Nat.beq_eq]; done) | (simp [*, Ez, PZ, P5, EH, EI, EJ, zu, zy, xY, He, xX, vP, VV.cells, Nat.beq_eq]; omega) | ((try simp only [← List.map_take, ← List.map_drop]); refine and_t ?_ (WR (fun _ => rfl)); first | (simp [*, vP]; done) | (simp [*, vP]; omega) | (simp only [List.length_append, List.length_map, List.length_cons, List.length_nil, List.length_take, List.length_drop, Option.getD_none, Option.getD_some, decide_eq_true_eq] at *; omega)) | omega | (simp_all [Ez, PZ, P5, EH, EI, EJ, zu, zy, xY, He, xX, vP, VV.cells, Nat.beq_eq]; done) | (simp [Ez, PZ, P5, EH, EI, EJ, zu, zy, xY, He, xX, vP, VV.cells, Nat.beq_eq] at *; omega))) | fail) : P := h
theorem zx {P : Prop} (h : P := by first | ((exfalso; (try clear ih1); (try clear ih2); (try clear ih3); simp_all; done)) | fail) : P := h
theorem zo {P : Prop} (h : P := by first | (first | omega | (dsimp only; omega)) | fail) : P := h
def argD : VV → Bool
 | .s _ => true
 | .sl _ => true
 | .ag _ => true
 | _ => false
def P6 (pd : Nat → Nat → Prop) (w : World) (r : VV) (m : Value) (w' : World) : Prop := ∃ pd' : Nat → Nat → Prop, (∀ g k, g < w.heap.size → pd' g k → pd g k) ∧ Ik w.heap.size pd' w' r m
section
variable {P : Program} {NG : Nat} {GW : World → Prop} {f : FuncId}
theorem pU {vs : List VV} {r : VV} (hf : FnOk P f) (hv : vs.all argD = true) (h : ∀ (w : World) (ms : List Value) (pd : Nat → Nat → Prop), GW w → lN pd w vs ms → Calls P f ms.toArray w fun e w' => ∃ m, e = .returned m ∧ Below w.heap.size w w' ∧ P6 pd w r m w') : ik P NG GW f vs (r, []) := by
 refine ⟨hf, fun w ms H hgw hng hl ha hnd _ _ _ => ?_⟩
 have hd : ∀ v ∈ vs, argD v = true := fun v hx => List.all_eq_true.1 hv v hx
 have hnb : ∀ x ∈ vs, ∀ cs, x ≠ .bx cs := fun x hx cs e => by have := hd x hx; rw [e] at this; cases this
 have key : ∀ (vs : List VV) (ms : List Value), (∀ v ∈ vs, argD v = true) → vs.length = ms.length → (∀ (i : Nat) v m, vs[i]? = some v → ms[i]? = some m → Yg H w v m) → lN H.pd w vs ms := by
  intro vs
  induction vs with
  | nil => intro ms _ hl _; cases ms with
   | nil => exact .nil
   | cons _ _ => cases hl
  | cons v vs ih => intro ms hd hl ha; cases ms with
   | nil => cases hl
   | cons m ms =>
    refine .cons _ _ _ _ ?_ (ih ms (fun x hx => hd x (by simp [hx])) (by simpa using hl) fun i v m h1 h2 => ha (i + 1) v m (by simpa using h1) (by simpa using h2))
    have h1 := ha 0 v m rfl rfl
    have h2 := hd v (by simp)
    cases v <;> first | (cases h2; done) | exact h1
 rw [zn vs ms hnb]
 refine (h w ms H.pd hgw (key vs ms hd hl ha)).mono fun e w' he => ?_
 obtain ⟨m, rfl, hb, pd', h1, h2⟩ := he
 exact ⟨m, rfl, ⟨hb.os, hb.tape, hb.output, hb.size, fun k hk _ => hb.block k hk⟩, pd', h1, h2, rfl, fun j g v hj => by simp at hj⟩
theorem jH {pd : Nat → Nat → Prop} {w : World} {v : VV} {vs : List VV} {ms : List Value} (h : lN pd w (v :: vs) ms) : ∃ m ms', ms = m :: ms' ∧ DR pd w v m ∧ lN pd w vs ms' := by
 cases h with
 | cons _ m _ ms h1 h2 => exact ⟨m, ms, rfl, h1, h2⟩
theorem mP {pd : Nat → Nat → Prop} {w : World} {ms : List Value} (h : lN pd w [] ms) : ms = [] := by cases h; rfl
theorem CZ {pd : Nat → Nat → Prop} {w : World} {v m : Value} (h : DR pd w (.s v) m) : m = v := by cases h; rfl
theorem uY {pd : Nat → Nat → Prop} {w w' : World} (v : Value) : P6 pd w (.s v) v w' := ⟨pd, fun _ _ _ h => h, .s v⟩
theorem Yx {pd : Nat → Nat → Prop} {w w' : World} (ls : List Value) : P6 pd w (.tu (ls.map VV.s)) (.tuple ls.toArray) w' :=
 ⟨pd, fun _ _ _ h => h, .tu _ _ (by
  induction ls with
  | nil => exact .nil
  | cons a ls ih => exact .cons _ _ _ _ (.s a) ih)⟩
theorem Yy : ∀ {pd : Nat → Nat → Prop} {w : World} (ls : List Value), lN pd w (ls.map VV.s) ls
 | _, _, [] => .nil
 | _, _, a :: ls => .cons _ _ _ _ (.s a) (Yy ls)
theorem P7 {pd : Nat → Nat → Prop} {w w' : World} {α : Type} {mk : α → Value} (h1 : ∀ x, (mk x).oneCell' = true) {e : Nat} {xs : List α} {m : Value} (hl : xs.length ≤ maxLen) (ho : w'.ownsRow w.heap.size e 1 m xs.length (xs.map mk)) : P6 pd w (.ow e 1 (xs.map fun x => .s (mk x))) m w' := by
 refine ⟨fun g k => (g < w.heap.size ∧ pd g k) ∨ (m.ownBlock = some g ∧ k < xs.length * 1), fun g k hg h => ?_, xs.map mk, by rw [List.length_map]; exact ho, ?_, ?_, ?_, by rw [List.length_map]; exact hl, ?_⟩
 ·rcases h with h | ⟨h, _⟩
  ·exact h.2
  ·have := own_base ho g h; omega
 ·have := Yy (pd := fun g k => (g < w.heap.size ∧ pd g k) ∨ (m.ownBlock = some g ∧ k < xs.length * 1)) (w := w') (xs.map mk)
  rw [List.map_map] at this
  have e : (List.map (fun x => VV.s (mk x)) xs).flatMap VV.cells = xs.map (VV.s ∘ mk) := by
   rw [List.flatMap_map]
   clear this ho hl
   induction xs with
   | nil => rfl
   | cons x xs ih => rw [List.flatMap_cons, ih]; rfl
  rw [e]; exact this
 ·intro x hx
  obtain ⟨y, _, rfl⟩ := List.mem_map.1 hx
  rfl
 ·intro u hu
  obtain ⟨y, _, rfl⟩ := List.mem_map.1 hu
  exact h1 y
 ·intro g hg k
  have := own_base ho g hg
  rw [List.length_map]
  constructor
  ·rintro (⟨h, _⟩ | ⟨_, h⟩)
   ·omega
   ·exact h
  ·intro h; exact .inr ⟨hg, h⟩
theorem P8 {pd : Nat → Nat → Prop} {w : World} : ∀ {vs : List VV} {ms : List Value}, lN BK w vs ms → (∀ x ∈ vs, ∃ u, x = .s u) → lN pd w vs ms
 | _, _, .nil, _ => .nil
 | _, _, .cons v m vs ms h hs, hf => by
  obtain ⟨u, rfl⟩ := hf v (by simp)
  obtain rfl := CZ h
  exact .cons _ _ _ _ (.s m) (P8 hs fun x hx => hf x (by simp [hx]))
theorem SG {w w' : World} {α : Type} {d : Kd α} {enc : α → VV} {e : Nat} {ok : Nat → Prop} {v : Value} {xs : List α} (hk : KV d (fun x => (enc x).cells)) (h : d.R e w' w.heap.size ok v xs) (hf : ∀ y ∈ xs, ∀ x ∈ (enc y).cells, ∃ u, x = .s u) : DR (fun g _ => w.heap.size ≤ g) w' (.sl (xs.map enc)) v := by
 obtain ⟨A, c, rfl, hc, hr⟩ := Kd.Au h
 have h1 := NI hk hc hr
 have h2 : ∀ g off, A = some ⟨g, off, none⟩ → 0 < xs.length → w.heap.size ≤ g := fun g off hA hp => by
  obtain ⟨g', cap, he, hb, _⟩ := Kd.NK h hp
  cases he
  cases hA
  exact hb
 generalize hm : Value.slice A xs.length c = m at h1
 generalize hv : VV.sl (xs.map enc) = q at h1
 cases h1 with
 | s _ => cases hv
 | un _ => cases hv
 | ag _ _ _ _ => cases hv
 | tu _ _ _ => cases hv
 | sl0 A' c' => exact .sl0 A' c'
 | sl ys g off c' sz ms q1 q2 q3 q4 q5 q6 =>
  cases hv
  have hA : A = some ⟨g, off, none⟩ := (Value.slice.inj hm).1
  refine .sl _ g off c' sz ms q1 q2 q3 (P8 q4 fun x hx => ?_) q5 fun k m hk => ⟨(q6 k m hk).1, h2 g off hA ?_⟩
  ·obtain ⟨y, hy, hx⟩ := List.mem_flatMap.1 hx
   obtain ⟨z, hz, rfl⟩ := List.mem_map.1 hy
   exact hf z hz x hx
  ·have := q4.length
   have hlt := (List.getElem?_eq_some_iff.1 hk).1
   cases xs with
   | nil => simp at this; omega
   | cons _ _ => simp
theorem LU {pd : Nat → Nat → Prop} {w w' : World} {cs : List VV} {ms : List Value} (h : lN (fun g _ => w.heap.size ≤ g) w' cs ms) : P6 pd w (.tu cs) (.tuple ms.toArray) w' :=
 ⟨fun g _ => w.heap.size ≤ g, fun g k hg h => absurd h (by omega), .tu cs ms h⟩
theorem P9 {α : Type} {f : α → List Value} {sz : Nat} (hf : ∀ x, (f x).length = sz) : ∀ (xs : List α) (j : Nat) (p : α), xs[j]? = some p → ∀ i, i < sz → (xs.flatMap f)[j * sz + i]? = (f p)[i]?
 | [], j, p, h, _, _ => by simp at h
 | x :: xs, 0, p, h, i, hi => by
  have : x = p := by simpa using h
  subst this
  rw [List.flatMap_cons, Nat.zero_mul, Nat.zero_add, List.getElem?_append_left (by rw [hf]; exact hi)]
 | x :: xs, j + 1, p, h, i, hi => by
  rw [List.flatMap_cons, List.getElem?_append_right (by rw [hf, Nat.add_mul]; omega), hf, show (j + 1) * sz + i - sz = j * sz + i by rw [Nat.add_mul]; omega]
  exact P9 hf xs j p (by simpa using h) i hi
theorem Pe {α : Type} {d : Kd α} {e : α → VV} {f : α → List Value} {pd : Nat → Nat → Prop} {w : World} {xs : List α} {m : Value} (he : ∀ x, (e x).cells = (f x).map VV.s) (hK : ∀ x, d.K w x (f x)) (hsz : ∀ x, (f x).length = d.sz) (h : DR pd w (.sl (xs.map e)) m) : ∃ A c, m = .slice A xs.length c ∧ xs.length ≤ c ∧ Kd.C d w A xs.length xs := by
 generalize hl : xs.map e = l at h
 have hn : l.length = xs.length := by rw [← hl, List.length_map]
 cases h with
 | sl0 A c =>
  obtain rfl := List.eq_nil_of_length_eq_zero hn.symm
  exact ⟨A, c, rfl, Nat.zero_le _, rfl, Nat.zero_le _, fun h => absurd h (Nat.lt_irrefl _)⟩
 | sl _ g off c sz ms hc hm hz hr h1' hw =>
  subst hl
  have e1 : (xs.map e).flatMap VV.cells = (xs.flatMap f).map VV.s := by
   clear hn hc hm hz hr h1' hw
   induction xs with
   | nil => rfl
   | cons x xs ih => rw [List.map_cons, List.flatMap_cons, List.flatMap_cons, ih, he, List.map_append]
  rw [e1] at hr
  obtain rfl := PK _ hr
  rw [hn] at hc hm ⊢
  refine ⟨_, c, rfl, hc, rfl, by simpa [maxLen] using hm, fun _ => ⟨_, rfl, fun j p hj => ⟨f p, hsz p, hK p, fun i u hu => ?_⟩⟩⟩
  have hi : i < d.sz := by rw [← hsz p]; exact (List.getElem?_eq_some_iff.1 hu).1
  have := (hw (j * d.sz + i) u (by rw [P9 hsz xs j p hj i hi]; exact hu)).1
  have e2 : (⟨g, off, none⟩ : Addr).add (j * d.sz + i) = ⟨g, off + (j * d.sz + i), none⟩ := by unfold Addr.add; split <;> simp_all
  show w.cell? ((⟨g, off, none⟩ : Addr).add (j * d.sz + i)) = _
  rw [e2]; exact this
end
end Go.Proofs.YtieohddolkeegaaGreatDoor.VI

end
section
namespace Go.Proofs.YtieohddolkeegaaGreatDoor.VI
open Go
def tis : List (TypeId × TI) := [(3, ⟨1, 8, [.int .i64 0], .int .i64⟩),
 (4, ⟨1, 1, [.bool false], .bool⟩),
 (5, ⟨1, 1, [.int .u8 0], .int .u8⟩),
 (9, ⟨1, 16, [.string ⟨#[]⟩], .str⟩),
 (22, ⟨1, 24, [.slice none 0 0], .slice 5⟩),
 (24, ⟨1, 24, [.slice none 0 0], .slice 67⟩),
 (36, ⟨1, 24, [.slice none 0 0], .slice 9⟩),
 (64, ⟨1, 8, [.pointer none], .ptr⟩),
 (67, ⟨2, 32, [.string ⟨#[]⟩, .string ⟨#[]⟩], .agg [(0, 1), (1, 1)]⟩),
 (77, ⟨4, 48, [.int .i64 0, .int .i64 0, .int .i64 0, .slice none 0 0], .agg [(0, 1), (1, 1), (2, 1), (3, 1)]⟩),
 (104, ⟨3, 40, [.slice none 0 0, .int .i64 0, .int .i64 0], .agg [(0, 1), (1, 1), (2, 1)]⟩),
 (146, ⟨1, 24, [.slice none 0 0], .slice 3⟩)]
def ti (t : TypeId) : Option TI := look tis t
theorem hti : nH Tryz.prog ti := nH.of (l := tis) (by kernel_rfl) (by kernel_rfl)
end Go.Proofs.YtieohddolkeegaaGreatDoor.VI

end
section
namespace Go.Proofs.YtieohddolkeegaaGreatDoor.VI
open Go Go.RowKit Go.Proofs.YtieohddolkeegaaGreatDoor.G Go.Proofs.aA.aZ
abbrev nK := FuncId → Option (List VV → Option (VV × List VV))
abbrev u9 : List VV := [.un, .un, .un, .un, .un, .un, .un, .un, .un]
abbrev u12 : List VV := .un :: .un :: .un :: u9
abbrev u14 : List VV := .un :: .un :: u12
abbrev u24 : List VV := .un :: .un :: .un :: .un :: .un :: .un :: .un :: .un :: .un :: .un :: u14
abbrev u25 : List VV := .un :: u24
abbrev u26 : List VV := .un :: u25
abbrev u27 : List VV := .un :: u26
abbrev u33 : List VV := .un :: .un :: .un :: .un :: .un :: .un :: u27
abbrev u34 : List VV := .un :: u33
abbrev u36 : List VV := .un :: .un :: u34
abbrev u37 : List VV := .un :: u36
abbrev u42 : List VV := .un :: .un :: .un :: .un :: .un :: u37
abbrev u43 : List VV := .un :: u42
abbrev u55 : List VV := .un :: .un :: .un :: .un :: .un :: .un :: .un :: .un :: .un :: .un :: .un :: .un :: u43
abbrev u63 : List VV := .un :: .un :: .un :: .un :: .un :: .un :: .un :: .un :: u55
abbrev u74 : List VV := .un :: .un :: .un :: .un :: .un :: .un :: .un :: .un :: .un :: .un :: .un :: u63
abbrev u76 : List VV := .un :: .un :: u74
abbrev u82 : List VV := .un :: .un :: .un :: .un :: .un :: .un :: u76
abbrev u83 : List VV := .un :: u82
def zA (x : iR) : VV := .ag [.str x.f0, .str x.f1]
@[simp] theorem rd_T67_eq (xs : List iR) (i : Int) : dS xs i = iE z67 xs i := rfl
def keep : FuncId → Nat → Option (List Nat) := fun f b => match f, b with
  | 10, 0 => some [3, 11, 12, 13]
  | 12, 0 => some [4, 15, 16, 17]
  | 13, 0 => some [4, 5, 6]
  | 16, 0 => some [0, 5, 6, 7]
  | 17, 0 => some [0, 3]
  | 18, 0 => some [0, 3, 4]
  | 22, 0 => some [0, 5, 23, 24, 25]
  | 23, 0 => some [1, 5, 6, 7]
  | 50, 0 => some [0, 3, 4, 5]
  | 100, 0 => some [2, 4, 5, 6]
  | 102, 0 => some [1, 3, 4]
  | 107, 0 => some [2, 3, 24, 25, 26]
  | 107, 2 => some [2, 3, 56, 57]
  | 108, 0 => some [0, 1, 5]
  | 109, 0 => some [0, 1, 5, 6, 7]
  | 110, 0 => some [0, 3, 4]
  | 111, 0 => some [2, 3, 5, 6]
  | 111, 2 => some [2, 3, 7]
  | 136, 0 => some [1, 3]
  | 137, 0 => some [0, 3, 4]
  | 141, 0 => some [1, 13, 14, 15]
  | 141, 2 => some [1, 24, 25, 26]
  | 173, 0 => some [0, 3]
  | 177, 0 => some [0, 1, 7, 8]
  | 207, 0 => some [0, 3]
  | _, _ => none
def unS : List VV → Option (List ByteArray)
  | [] => some []
  | .s (.string b) :: r => jY (unS r) fun l => some (b :: l)
  | _ => none
theorem NL : ∀ l : List ByteArray, unS (l.map VV.str) = some l
  | [] => rfl
  | b :: r => by
    show jY (unS (r.map VV.str)) _ = _
    rw [NL r]
    rfl
def NM : List VV → Option (List iR)
  | [] => some []
  | .ag [.s (.string f0), .s (.string f1)] :: r => jY (NM r) fun l => some (⟨f0, f1⟩ :: l)
  | _ => none
theorem JA : ∀ l : List iR, NM (l.map zA) = some l
  | [] => rfl
  | b :: r => by
    show jY (NM (r.map zA)) _ = _
    rw [JA r]; rfl
theorem JB : ∀ (q : List VV) (l : List iR), NM q = some l → q = l.map zA
  | [], l, h => by cases h; rfl
  | v :: r, l, h => by
    unfold NM at h
    split at h
    · rename_i e; cases e
    · rename_i e
      obtain ⟨l', h1, h2⟩ := lC h
      cases h2
      cases e
      rw [JB _ l' h1]
      rfl
    · cases h
noncomputable def dL.gv : List VV → Option (VV × List VV)
  | [.sl q0] => jY (KW q0) fun l0 => (yP (fun k => dL.f k l0)).map fun r => (.sl (r.map zA), [])
  | _ => none
noncomputable def dB.gv : List VV → Option (VV × List VV)
  | [.sl q0] => jY (KW q0) fun l0 => (yP (fun k => dB.f k l0)).map fun r => (.sl (r.map zA), [])
  | _ => none
noncomputable def dD.gv : List VV → Option (VV × List VV)
  | [.sl q0] => jY (KW q0) fun l0 => (yP (fun k => dD.f k l0)).map fun r => (.str r, [])
  | _ => none
noncomputable def eF.gv : List VV → Option (VV × List VV)
  | [.sl q0] => jY (KW q0) fun l0 => (yP (fun k => eF.f k l0)).map fun r => (.str r, [])
  | _ => none
noncomputable def bD.gv : List VV → Option (VV × List VV)
  | [.sl q0, .sl q1] => jY (NM q0) fun l0 => jY (NM q1) fun l1 => (yP (fun k => bD.f k l0 l1)).map fun r => (.bool r, [])
  | _ => none
noncomputable def fZ.gv : List VV → Option (VV × List VV)
  | [.sl q0] => jY (KW q0) fun l0 => (yP (fun k => fZ.f k l0)).map fun r => (.tu [.str r.1, .sl (r.2.map zA)], [])
  | _ => none
noncomputable def strings_Join.gv : List VV → Option (VV × List VV)
  | [.sl q0, .s (.string a1)] => jY (unS q0) fun l0 => (strings_Join.f l0 a1).map fun r => (.str r, [])
  | _ => none
noncomputable def strings_Split.gv : List VV → Option (VV × List VV)
  | [.s (.string a0), .s (.string a1)] => (strings_Split.f a0 a1).map fun r => (.ow 9 1 (r.map VV.str), [])
  | _ => none
noncomputable def strings_HasPrefix.gv : List VV → Option (VV × List VV)
  | [.s (.string a0), .s (.string a1)] => (strings_HasPrefix.f a0 a1).map fun r => (.bool r, [])
  | _ => none
noncomputable def bT.gv : List VV → Option (VV × List VV)
  | [.sl q0] => jY (unS q0) fun l0 => (bT.f l0).map fun r => (.ow 9 1 (r.map VV.str), [])
  | _ => none
noncomputable def strings_Cut.gv : List VV → Option (VV × List VV)
  | [.s (.string a0), .s (.string a1)] => (strings_Cut.f a0 a1).map fun r => (.tu [.str r.1, .str r.2.1, .bool r.2.2], [])
  | _ => none
noncomputable def af.gv : List VV → Option (VV × List VV)
  | [.s (.string a0)] => (yP (fun k => af.f k a0)).map fun r => (.tu [.ag [.str r.1, .str r.2.1], .bool r.2.2], [])
  | _ => none
noncomputable def dm.gv : List VV → Option (VV × List VV)
  | [.s (.string a0)] => (dm.f a0).map fun r => (.int r, [])
  | _ => none
noncomputable def strconv_Itoa.gv : List VV → Option (VV × List VV)
  | [.s (.int .i64 a0)] => (strconv_Itoa.f a0).map fun r => (.str r, [])
  | _ => none
noncomputable def eQ.gv : List VV → Option (VV × List VV)
  | [.s (.string a0), .s (.string a1)] => (eQ.f a0 a1).map fun r => (.str r, [])
  | _ => none
noncomputable def strings_Compare.gv : List VV → Option (VV × List VV)
  | [.s (.string a0), .s (.string a1)] => (strings_Compare.f a0 a1).map fun r => (.int r, [])
  | _ => none
noncomputable def Gv0 : FuncId → Option (List VV → Option (VV × List VV)) := fun f => match f with
  | 44 => some strings_Join.gv
  | 47 => some strings_Split.gv
  | 49 => some strings_HasPrefix.gv
  | 75 => some bT.gv
  | 94 => some strings_Cut.gv
  | 104 => some dm.gv
  | 176 => some strconv_Itoa.gv
  | 182 => some eQ.gv
  | 183 => some strings_Compare.gv
  | _ => none
def Base (G : FuncId → Option (List VV → Option (VV × List VV))) : Prop := ∀ f, f ≠ 8 → f ≠ 9 → f ≠ 11 → f ≠ 14 → f ≠ 19 → f ≠ 21 → f ≠ 96 → G f = Gv0 f
theorem bq {G : nK} (hG : Base G) (f : FuncId) (h : f ≠ 8 ∧ f ≠ 9 ∧ f ≠ 11 ∧ f ≠ 14 ∧ f ≠ 19 ∧ f ≠ 21 ∧ f ≠ 96 := by decide) : G f = Gv0 f := hG f h.1 h.2.1 h.2.2.1 h.2.2.2.1 h.2.2.2.2.1 h.2.2.2.2.2.1 h.2.2.2.2.2.2
theorem base0 : Base Gv0 := fun _ _ _ _ _ _ _ _ => rfl
noncomputable def Gv : FuncId → Option (List VV → Option (VV × List VV)) := fun f => match f with
  | 8 => some dL.gv
  | 9 => some dB.gv
  | 11 => some dD.gv
  | 14 => some eF.gv
  | 19 => some bD.gv
  | 21 => some fZ.gv
  | 96 => some af.gv
  | f => Gv0 f
theorem base1 : Base Gv := fun f h8 h9 h11 h14 h19 h21 h96 => by
  unfold Gv
  split
  · exact absurd rfl h8
  · exact absurd rfl h9
  · exact absurd rfl h11
  · exact absurd rfl h14
  · exact absurd rfl h19
  · exact absurd rfl h21
  · exact absurd rfl h96
  · rfl
noncomputable abbrev cv := bI Tryz.prog ti keep Gv
end Go.Proofs.YtieohddolkeegaaGreatDoor.VI

end
section
namespace Go.Proofs.YtieohddolkeegaaGreatDoor.VI
open Go Go.RowKit Go.Proofs.YtieohddolkeegaaGreatDoor.G Go.Proofs.aA.aZ
set_option maxRecDepth 100000
set_option maxHeartbeats 16000000
attribute [local irreducible] bite jY bG
theorem dA.vi {k m : Nat} {Gv : nK} (hG : Base Gv) (hm : k + 1 ≤ m) (a0 : Int) : Im (fun r => (.str r, [])) (dA.f k a0) (bI Tryz.prog ti keep Gv m 137 [.int a0]) := by
  obtain ⟨m, rfl⟩ : ∃ m', m = m' + 1 := ⟨m - 1, by omega⟩
  rw [show bI Tryz.prog ti keep Gv (m + 1) 137 _ = _ from bC ((bq hG 137).trans rfl) Tryz.func137 (by kernel_rfl) rfl rfl]
  unfold dA.f
  repeat' first
   | (with_reducible first | exact Im.none | refine Im.ite (fun h => ?_) (fun h => ?_) | refine Im.gy ?_)
   | ((conv => arg 3; whnf); first
    | ((with_reducible refine Im.fin ?_); exact zr) | ((with_reducible refine Im.je ?_ ?_); kernel_rfl) | ((with_reducible refine Im.bH ?_ ?_); exact zq) | ((with_reducible refine Im.bJ ?_ ?_); exact zq) | ((with_reducible refine Im.bH ?_ ?_); exact zd) | ((with_reducible refine Im.must ?_ ?_); exact zd) | ((with_reducible refine Im.bJ ?_ ?_); exact zd) | (with_reducible refine Im.qc ?_) | ((with_reducible refine Im.bG ByteArray.empty ?_ ?_ ?_); exact zd; exact zd) | ((with_reducible refine Im.bG z67 ?_ ?_ ?_); exact zd; exact zd) | ((with_reducible refine Im.bG (0 : Int) ?_ ?_ ?_); exact zd; exact zd) | ((with_reducible refine Im.bG false ?_ ?_ ?_); exact zd; exact zd) | ((with_reducible refine ih1 _ ⟨_, _, _⟩ _ ?_ ?_); exact zo; exact zr) | ((with_reducible refine Im.loop (S := fun s : Int × ByteArray × Int => .int s.1 :: .un :: .un :: .str s.2.1 :: .int s.2.2 :: u25) (L := fun k s => dA.l0 k s.1 s.2.1 s.2.2) _ ?_ ?_ _ _ ⟨_, _, _⟩ _ (Nat.le_refl _) zo ?_); (next => intro s; rfl); rotate_left; exact zr; intro k1 M1 ⟨x0, x3, x4⟩ hk1 hM1 ih1; conv => arg 2; simp only [dA.l0])
    | exact zm | exact zx | fail)
theorem fJ.vi {m : Nat} {Gv : nK} (hG : Base Gv) (hm : 1 ≤ m) (a0 : Int) (a1 : Int) (a2 : Int) : Im (fun r => (.bool r, [])) (fJ.f a0 a1 a2) (bI Tryz.prog ti keep Gv m 58 [.int a0, .int a1, .int a2]) := by
  obtain ⟨m, rfl⟩ : ∃ m', m = m' + 1 := ⟨m - 1, by omega⟩
  rw [show bI Tryz.prog ti keep Gv (m + 1) 58 _ = _ from bC ((bq hG 58).trans rfl) Tryz.func58 (by kernel_rfl) rfl rfl]
  unfold fJ.f
  repeat' first
   | (with_reducible first | exact Im.none | refine Im.ite (fun h => ?_) (fun h => ?_) | refine Im.gy ?_)
   | ((conv => arg 3; whnf); first
    | ((with_reducible refine Im.fin ?_); exact zr) | ((with_reducible refine Im.je ?_ ?_); kernel_rfl) | ((with_reducible refine Im.bH ?_ ?_); exact zq) | ((with_reducible refine Im.bJ ?_ ?_); exact zq) | ((with_reducible refine Im.bH ?_ ?_); exact zd) | ((with_reducible refine Im.must ?_ ?_); exact zd) | ((with_reducible refine Im.bJ ?_ ?_); exact zd) | (with_reducible refine Im.qc ?_) | ((with_reducible refine Im.bG ByteArray.empty ?_ ?_ ?_); exact zd; exact zd) | ((with_reducible refine Im.bG z67 ?_ ?_ ?_); exact zd; exact zd) | ((with_reducible refine Im.bG (0 : Int) ?_ ?_ ?_); exact zd; exact zd) | ((with_reducible refine Im.bG false ?_ ?_ ?_); exact zd; exact zd)
    | exact zm | exact zx | fail)
theorem bW.vi {k m : Nat} {Gv : nK} (hG : Base Gv) (hm : k + 2 ≤ m) (a0 : ByteArray) : Im (fun r => (.int r, [])) (bW.f k a0) (bI Tryz.prog ti keep Gv m 110 [.str a0]) := by
  obtain ⟨m, rfl⟩ : ∃ m', m = m' + 1 := ⟨m - 1, by omega⟩
  rw [show bI Tryz.prog ti keep Gv (m + 1) 110 _ = _ from bC ((bq hG 110).trans rfl) Tryz.func110 (by kernel_rfl) rfl rfl]
  unfold bW.f
  repeat' first
   | (with_reducible first | exact Im.none | refine Im.ite (fun h => ?_) (fun h => ?_) | refine Im.gy ?_)
   | ((conv => arg 3; whnf); first
    | ((with_reducible refine Im.fin ?_); exact zr) | ((with_reducible refine Im.je ?_ ?_); kernel_rfl) | ((with_reducible refine Im.bH ?_ ?_); exact zq) | ((with_reducible refine Im.bJ ?_ ?_); exact zq) | ((with_reducible refine Im.bH ?_ ?_); exact zd) | ((with_reducible refine Im.must ?_ ?_); exact zd) | ((with_reducible refine Im.bJ ?_ ?_); exact zd) | (with_reducible refine Im.qc ?_) | ((with_reducible refine Im.bG ByteArray.empty ?_ ?_ ?_); exact zd; exact zd) | ((with_reducible refine Im.bG z67 ?_ ?_ ?_); exact zd; exact zd) | ((with_reducible refine Im.bG (0 : Int) ?_ ?_ ?_); exact zd; exact zd) | ((with_reducible refine Im.bG false ?_ ?_ ?_); exact zd; exact zd) | ((with_reducible refine Im.call (dA.vi hG ?_ _) ?_ (fun r hr => ?_)); omega; exact zr) | ((with_reducible refine Im.call (fJ.vi hG ?_ _ _ _) ?_ (fun r hr => ?_)); omega; exact zr) | ((with_reducible refine ih1 _ ⟨_, _, _⟩ _ ?_ ?_); exact zo; exact zr) | ((with_reducible refine Im.loop (S := fun s : ByteArray × Int × Int => .str s.1 :: .un :: .un :: .int s.2.1 :: .int s.2.2 :: u34) (L := fun k s => bW.l0 k s.1 s.2.1 s.2.2) _ ?_ ?_ _ _ ⟨_, _, _⟩ _ (Nat.le_refl _) zo ?_); (next => intro s; rfl); rotate_left; exact zr; intro k1 M1 ⟨x0, x3, x4⟩ hk1 hM1 ih1; conv => arg 2; simp only [bW.l0])
    | exact zm | exact zx | fail)
theorem lJ.vi {m : Nat} {Gv : nK} (hG : Base Gv) (hm : 2 ≤ m) (a0 : Int) : Im (fun r => (.bool r, [])) (lJ.f a0) (bI Tryz.prog ti keep Gv m 206 [.byte a0]) := by
  obtain ⟨m, rfl⟩ : ∃ m', m = m' + 1 := ⟨m - 1, by omega⟩
  rw [show bI Tryz.prog ti keep Gv (m + 1) 206 _ = _ from bC ((bq hG 206).trans rfl) Tryz.func206 (by kernel_rfl) rfl rfl]
  unfold lJ.f
  repeat' first
   | (with_reducible first | exact Im.none | refine Im.ite (fun h => ?_) (fun h => ?_) | refine Im.gy ?_)
   | ((conv => arg 3; whnf); first
    | ((with_reducible refine Im.fin ?_); exact zr) | ((with_reducible refine Im.je ?_ ?_); kernel_rfl) | ((with_reducible refine Im.bH ?_ ?_); exact zq) | ((with_reducible refine Im.bJ ?_ ?_); exact zq) | ((with_reducible refine Im.bH ?_ ?_); exact zd) | ((with_reducible refine Im.must ?_ ?_); exact zd) | ((with_reducible refine Im.bJ ?_ ?_); exact zd) | (with_reducible refine Im.qc ?_) | ((with_reducible refine Im.bG ByteArray.empty ?_ ?_ ?_); exact zd; exact zd) | ((with_reducible refine Im.bG z67 ?_ ?_ ?_); exact zd; exact zd) | ((with_reducible refine Im.bG (0 : Int) ?_ ?_ ?_); exact zd; exact zd) | ((with_reducible refine Im.bG false ?_ ?_ ?_); exact zd; exact zd) | ((with_reducible refine Im.call (fJ.vi hG ?_ _ _ _) ?_ (fun r hr => ?_)); omega; exact zr)
    | exact zm | exact zx | fail)
theorem kR.vi {m : Nat} {Gv : nK} (hG : Base Gv) (hm : 2 ≤ m) (a0 : Int) : Im (fun r => (.bool r, [])) (kR.f a0) (bI Tryz.prog ti keep Gv m 152 [.byte a0]) := by
  obtain ⟨m, rfl⟩ : ∃ m', m = m' + 1 := ⟨m - 1, by omega⟩
  rw [show bI Tryz.prog ti keep Gv (m + 1) 152 _ = _ from bC ((bq hG 152).trans rfl) Tryz.func152 (by kernel_rfl) rfl rfl]
  unfold kR.f
  repeat' first
   | (with_reducible first | exact Im.none | refine Im.ite (fun h => ?_) (fun h => ?_) | refine Im.gy ?_)
   | ((conv => arg 3; whnf); first
    | ((with_reducible refine Im.fin ?_); exact zr) | ((with_reducible refine Im.je ?_ ?_); kernel_rfl) | ((with_reducible refine Im.bH ?_ ?_); exact zq) | ((with_reducible refine Im.bJ ?_ ?_); exact zq) | ((with_reducible refine Im.bH ?_ ?_); exact zd) | ((with_reducible refine Im.must ?_ ?_); exact zd) | ((with_reducible refine Im.bJ ?_ ?_); exact zd) | (with_reducible refine Im.qc ?_) | ((with_reducible refine Im.bG ByteArray.empty ?_ ?_ ?_); exact zd; exact zd) | ((with_reducible refine Im.bG z67 ?_ ?_ ?_); exact zd; exact zd) | ((with_reducible refine Im.bG (0 : Int) ?_ ?_ ?_); exact zd; exact zd) | ((with_reducible refine Im.bG false ?_ ?_ ?_); exact zd; exact zd) | ((with_reducible refine Im.call (fJ.vi hG ?_ _ _ _) ?_ (fun r hr => ?_)); omega; exact zr)
    | exact zm | exact zx | fail)
theorem dE.vi {k m : Nat} {Gv : nK} (hG : Base Gv) (hm : k + 2 ≤ m) (a0 : ByteArray) : Im (fun r => (.bool r, [])) (dE.f k a0) (bI Tryz.prog ti keep Gv m 207 [.str a0]) := by
  obtain ⟨m, rfl⟩ : ∃ m', m = m' + 1 := ⟨m - 1, by omega⟩
  rw [show bI Tryz.prog ti keep Gv (m + 1) 207 _ = _ from bC ((bq hG 207).trans rfl) Tryz.func207 (by kernel_rfl) rfl rfl]
  unfold dE.f
  repeat' first
   | (with_reducible first | exact Im.none | refine Im.ite (fun h => ?_) (fun h => ?_) | refine Im.gy ?_)
   | ((conv => arg 3; whnf); first
    | ((with_reducible refine Im.fin ?_); exact zr) | ((with_reducible refine Im.je ?_ ?_); kernel_rfl) | ((with_reducible refine Im.bH ?_ ?_); exact zq) | ((with_reducible refine Im.bJ ?_ ?_); exact zq) | ((with_reducible refine Im.bH ?_ ?_); exact zd) | ((with_reducible refine Im.must ?_ ?_); exact zd) | ((with_reducible refine Im.bJ ?_ ?_); exact zd) | (with_reducible refine Im.qc ?_) | ((with_reducible refine Im.bG ByteArray.empty ?_ ?_ ?_); exact zd; exact zd) | ((with_reducible refine Im.bG z67 ?_ ?_ ?_); exact zd; exact zd) | ((with_reducible refine Im.bG (0 : Int) ?_ ?_ ?_); exact zd; exact zd) | ((with_reducible refine Im.bG false ?_ ?_ ?_); exact zd; exact zd) | ((with_reducible refine Im.call (fJ.vi hG ?_ _ _ _) ?_ (fun r hr => ?_)); omega; exact zr) | ((with_reducible refine ih1 _ ⟨_, _⟩ _ ?_ ?_); exact zo; exact zr) | ((with_reducible refine Im.loop (S := fun s : ByteArray × Int => .str s.1 :: .un :: .un :: .int s.2 :: u14) (L := fun k s => dE.l0 k s.1 s.2) _ ?_ ?_ _ _ ⟨_, _⟩ _ (Nat.le_refl _) zo ?_); (next => intro s; rfl); rotate_left; exact zr; intro k1 M1 ⟨x0, x3⟩ hk1 hM1 ih1; conv => arg 2; simp only [dE.l0])
    | exact zm | exact zx | fail)
theorem dZ.vi {k m : Nat} {Gv : nK} (hG : Base Gv) (hm : k + 3 ≤ m) (a0 : ByteArray) : Im (fun r => (.bool r, [])) (dZ.f k a0) (bI Tryz.prog ti keep Gv m 173 [.str a0]) := by
  obtain ⟨m, rfl⟩ : ∃ m', m = m' + 1 := ⟨m - 1, by omega⟩
  rw [show bI Tryz.prog ti keep Gv (m + 1) 173 _ = _ from bC ((bq hG 173).trans rfl) Tryz.func173 (by kernel_rfl) rfl rfl]
  unfold dZ.f
  repeat' first
   | (with_reducible first | exact Im.none | refine Im.ite (fun h => ?_) (fun h => ?_) | refine Im.gy ?_)
   | ((conv => arg 3; whnf); first
    | ((with_reducible refine Im.fin ?_); exact zr) | ((with_reducible refine Im.je ?_ ?_); kernel_rfl) | ((with_reducible refine Im.bH ?_ ?_); exact zq) | ((with_reducible refine Im.bJ ?_ ?_); exact zq) | ((with_reducible refine Im.bH ?_ ?_); exact zd) | ((with_reducible refine Im.must ?_ ?_); exact zd) | ((with_reducible refine Im.bJ ?_ ?_); exact zd) | (with_reducible refine Im.qc ?_) | ((with_reducible refine Im.bG ByteArray.empty ?_ ?_ ?_); exact zd; exact zd) | ((with_reducible refine Im.bG z67 ?_ ?_ ?_); exact zd; exact zd) | ((with_reducible refine Im.bG (0 : Int) ?_ ?_ ?_); exact zd; exact zd) | ((with_reducible refine Im.bG false ?_ ?_ ?_); exact zd; exact zd) | ((with_reducible refine Im.call (bW.vi hG ?_ _) ?_ (fun r hr => ?_)); omega; exact zr) | ((with_reducible refine Im.call (lJ.vi hG ?_ _) ?_ (fun r hr => ?_)); omega; exact zr) | ((with_reducible refine Im.call (fJ.vi hG ?_ _ _ _) ?_ (fun r hr => ?_)); omega; exact zr) | ((with_reducible refine Im.call (kR.vi hG ?_ _) ?_ (fun r hr => ?_)); omega; exact zr) | ((with_reducible refine Im.call (dE.vi hG ?_ _) ?_ (fun r hr => ?_)); omega; exact zr) | ((with_reducible refine ih1 _ ⟨_, _⟩ _ ?_ ?_); exact zo; exact zr) | ((with_reducible refine Im.loop (S := fun s : ByteArray × Int => .str s.1 :: .un :: .un :: .int s.2 :: u37) (L := fun k s => dZ.l0 k s.1 s.2) _ ?_ ?_ _ _ ⟨_, _⟩ _ (Nat.le_refl _) zo ?_); (next => intro s; rfl); rotate_left; exact zr; intro k1 M1 ⟨x0, x3⟩ hk1 hM1 ih1; conv => arg 2; simp only [dZ.l0])
    | exact zm | exact zx | fail)
theorem bP.vi {k m : Nat} {Gv : nK} (hG : Base Gv) (hm : k + 4 ≤ m) (iY : Int) (iq : Int) (jK : Int) (jE : List ByteArray) : Im (fun r => (.bool r, [])) (bP.f k iY iq jK jE) (bI Tryz.prog ti keep Gv m 136 [.ag [.int iY, .int iq, .int jK, .sl (jE.map VV.str)]]) := by
  obtain ⟨m, rfl⟩ : ∃ m', m = m' + 1 := ⟨m - 1, by omega⟩
  rw [show bI Tryz.prog ti keep Gv (m + 1) 136 _ = _ from bC ((bq hG 136).trans rfl) Tryz.func136 (by kernel_rfl) rfl rfl]
  unfold bP.f
  repeat' first
   | (with_reducible first | exact Im.none | refine Im.ite (fun h => ?_) (fun h => ?_) | refine Im.gy ?_)
   | ((conv => arg 3; whnf); first
    | ((with_reducible refine Im.fin ?_); exact zr) | ((with_reducible refine Im.je ?_ ?_); kernel_rfl) | ((with_reducible refine Im.bH ?_ ?_); exact zq) | ((with_reducible refine Im.bJ ?_ ?_); exact zq) | ((with_reducible refine Im.bH ?_ ?_); exact zd) | ((with_reducible refine Im.must ?_ ?_); exact zd) | ((with_reducible refine Im.bJ ?_ ?_); exact zd) | (with_reducible refine Im.qc ?_) | ((with_reducible refine Im.bG ByteArray.empty ?_ ?_ ?_); exact zd; exact zd) | ((with_reducible refine Im.bG z67 ?_ ?_ ?_); exact zd; exact zd) | ((with_reducible refine Im.bG (0 : Int) ?_ ?_ ?_); exact zd; exact zd) | ((with_reducible refine Im.bG false ?_ ?_ ?_); exact zd; exact zd) | ((with_reducible refine Im.call (fJ.vi hG ?_ _ _ _) ?_ (fun r hr => ?_)); omega; exact zr) | ((with_reducible refine Im.call (dZ.vi hG ?_ _) ?_ (fun r hr => ?_)); omega; exact zr) | ((with_reducible refine ih1 _ ⟨_, _, _, _, _⟩ _ ?_ ?_); exact zo; exact zr) | ((with_reducible refine Im.loop (S := fun s : Int × Int × Int × Int × List ByteArray => .un :: .bx [.int s.2.1, .int s.2.2.1, .int s.2.2.2.1, .sl (s.2.2.2.2.map VV.str)] :: .un :: .int s.1 :: u33) (L := fun k s => bP.l0 k s.1 s.2.1 s.2.2.1 s.2.2.2.1 s.2.2.2.2) _ ?_ ?_ _ _ ⟨_, _, _, _, _⟩ _ (Nat.le_refl _) zo ?_); (next => intro s; rfl); rotate_left; exact zr; intro k1 M1 ⟨x3, Lp, Lr, Ls, DI⟩ hk1 hM1 ih1; conv => arg 2; simp only [bP.l0])
    | exact zm | exact zx | fail)
theorem au.vi {k m : Nat} {Gv : nK} (hG : Base Gv) (hm : k + 5 ≤ m) (iY : Int) (iq : Int) (jK : Int) (jE : List ByteArray) : Im (fun r => (.str r, [])) (au.f k iY iq jK jE) (bI Tryz.prog ti keep Gv m 102 [.ag [.int iY, .int iq, .int jK, .sl (jE.map VV.str)]]) := by
  obtain ⟨m, rfl⟩ : ∃ m', m = m' + 1 := ⟨m - 1, by omega⟩
  rw [show bI Tryz.prog ti keep Gv (m + 1) 102 _ = _ from bC ((bq hG 102).trans rfl) Tryz.func102 (by kernel_rfl) rfl rfl]
  unfold au.f
  repeat' first
   | (with_reducible first | exact Im.none | refine Im.ite (fun h => ?_) (fun h => ?_) | refine Im.gy ?_)
   | ((conv => arg 3; whnf); first
    | ((with_reducible refine Im.fin ?_); exact zr) | ((with_reducible refine Im.je ?_ ?_); kernel_rfl) | ((with_reducible refine Im.bH ?_ ?_); exact zq) | ((with_reducible refine Im.bJ ?_ ?_); exact zq) | ((with_reducible refine Im.bH ?_ ?_); exact zd) | ((with_reducible refine Im.must ?_ ?_); exact zd) | ((with_reducible refine Im.bJ ?_ ?_); exact zd) | (with_reducible refine Im.qc ?_) | ((with_reducible refine Im.bG ByteArray.empty ?_ ?_ ?_); exact zd; exact zd) | ((with_reducible refine Im.bG z67 ?_ ?_ ?_); exact zd; exact zd) | ((with_reducible refine Im.bG (0 : Int) ?_ ?_ ?_); exact zd; exact zd) | ((with_reducible refine Im.bG false ?_ ?_ ?_); exact zd; exact zd) | ((with_reducible refine Im.call (dA.vi hG ?_ _) ?_ (fun r hr => ?_)); omega; exact zr) | ((with_reducible refine Im.call (bP.vi hG ?_ _ _ _ _) ?_ (fun r hr => ?_)); omega; exact zr) | ((with_reducible refine ih1 _ ⟨_, _, _, _, _, _⟩ _ ?_ ?_); exact zo; exact zr) | ((with_reducible refine Im.loop (S := fun s : ByteArray × Int × Int × Int × Int × List ByteArray => .un :: .bx [.int s.2.2.1, .int s.2.2.2.1, .int s.2.2.2.2.1, .sl (s.2.2.2.2.2.map VV.str)] :: .un :: .str s.1 :: .int s.2.1 :: u42) (L := fun k s => au.l0 k s.1 s.2.1 s.2.2.1 s.2.2.2.1 s.2.2.2.2.1 s.2.2.2.2.2) _ ?_ ?_ _ _ ⟨_, _, _, _, _, _⟩ _ (Nat.le_refl _) zo ?_); (next => intro s; rfl); rotate_left; exact zr; intro k1 M1 ⟨x3, x4, Lt, Lu, MB, wH⟩ hk1 hM1 ih1; conv => arg 2; simp only [au.l0])
    | exact zm | exact zx | fail)
theorem fK.vi {k m : Nat} {Gv : nK} (hG : Base Gv) (hm : k + 1 ≤ m) (a0 : ByteArray) (a1 : Int) : Im (fun r => (.int r, [])) (fK.f k a0 a1) (bI Tryz.prog ti keep Gv m 108 [.str a0, .byte a1]) := by
  obtain ⟨m, rfl⟩ : ∃ m', m = m' + 1 := ⟨m - 1, by omega⟩
  rw [show bI Tryz.prog ti keep Gv (m + 1) 108 _ = _ from bC ((bq hG 108).trans rfl) Tryz.func108 (by kernel_rfl) rfl rfl]
  unfold fK.f
  repeat' first
   | (with_reducible first | exact Im.none | refine Im.ite (fun h => ?_) (fun h => ?_) | refine Im.gy ?_)
   | ((conv => arg 3; whnf); first
    | ((with_reducible refine Im.fin ?_); exact zr) | ((with_reducible refine Im.je ?_ ?_); kernel_rfl) | ((with_reducible refine Im.bH ?_ ?_); exact zq) | ((with_reducible refine Im.bJ ?_ ?_); exact zq) | ((with_reducible refine Im.bH ?_ ?_); exact zd) | ((with_reducible refine Im.must ?_ ?_); exact zd) | ((with_reducible refine Im.bJ ?_ ?_); exact zd) | (with_reducible refine Im.qc ?_) | ((with_reducible refine Im.bG ByteArray.empty ?_ ?_ ?_); exact zd; exact zd) | ((with_reducible refine Im.bG z67 ?_ ?_ ?_); exact zd; exact zd) | ((with_reducible refine Im.bG (0 : Int) ?_ ?_ ?_); exact zd; exact zd) | ((with_reducible refine Im.bG false ?_ ?_ ?_); exact zd; exact zd) | ((with_reducible refine ih1 _ ⟨_, _, _⟩ _ ?_ ?_); exact zo; exact zr) | ((with_reducible refine Im.loop (S := fun s : ByteArray × Int × Int => .str s.1 :: .byte s.2.1 :: .un :: .un :: .un :: .int s.2.2 :: u12) (L := fun k s => fK.l0 k s.1 s.2.1 s.2.2) _ ?_ ?_ _ _ ⟨_, _, _⟩ _ (Nat.le_refl _) zo ?_); (next => intro s; rfl); rotate_left; exact zr; intro k1 M1 ⟨x0, x1, x5⟩ hk1 hM1 ih1; conv => arg 2; simp only [fK.l0])
    | exact zm | exact zx | fail)
theorem dF.vi {k m : Nat} {Gv : nK} (hG : Base Gv) (hm : k + 1 ≤ m) (a0 : ByteArray) (a1 : Int) : Im (fun r => (.ow 9 1 (r.map VV.str), [])) (dF.f k a0 a1) (bI Tryz.prog ti keep Gv m 109 [.str a0, .byte a1]) := by
  obtain ⟨m, rfl⟩ : ∃ m', m = m' + 1 := ⟨m - 1, by omega⟩
  rw [show bI Tryz.prog ti keep Gv (m + 1) 109 _ = _ from bC ((bq hG 109).trans rfl) Tryz.func109 (by kernel_rfl) rfl rfl]
  unfold dF.f
  repeat' first
   | (with_reducible first | exact Im.none | refine Im.ite (fun h => ?_) (fun h => ?_) | refine Im.gy ?_)
   | ((conv => arg 3; whnf); first
    | ((with_reducible refine Im.fin ?_); exact zr) | ((with_reducible refine Im.je ?_ ?_); kernel_rfl) | ((with_reducible refine Im.bH ?_ ?_); exact zq) | ((with_reducible refine Im.bJ ?_ ?_); exact zq) | ((with_reducible refine Im.bH ?_ ?_); exact zd) | ((with_reducible refine Im.must ?_ ?_); exact zd) | ((with_reducible refine Im.bJ ?_ ?_); exact zd) | (with_reducible refine Im.qc ?_) | ((with_reducible refine Im.bG ByteArray.empty ?_ ?_ ?_); exact zd; exact zd) | ((with_reducible refine Im.bG z67 ?_ ?_ ?_); exact zd; exact zd) | ((with_reducible refine Im.bG (0 : Int) ?_ ?_ ?_); exact zd; exact zd) | ((with_reducible refine Im.bG false ?_ ?_ ?_); exact zd; exact zd) | ((with_reducible refine ih1 _ ⟨_, _, _, _, _⟩ _ ?_ ?_); exact zo; exact zr) | ((with_reducible refine Im.loop (S := fun s : ByteArray × Int × List ByteArray × Int × Int => .str s.1 :: .byte s.2.1 :: .un :: .un :: .un :: .ow 9 1 (s.2.2.1.map VV.str) :: .int s.2.2.2.1 :: .int s.2.2.2.2 :: u27) (L := fun k s => dF.l0 k s.1 s.2.1 s.2.2.1 s.2.2.2.1 s.2.2.2.2) _ ?_ ?_ _ _ ⟨_, _, _, _, _⟩ _ (Nat.le_refl _) zo ?_); (next => intro s; rfl); rotate_left; exact zr; intro k1 M1 ⟨x0, x1, x5, x6, x7⟩ hk1 hM1 ih1; conv => arg 2; simp only [dF.l0])
    | exact zm | exact zx | fail)
theorem ae.vi {k m : Nat} {Gv : nK} (hG : Base Gv) (hm : k + 6 ≤ m) (a0 : ByteArray) : Im (fun r => (.tu [.ag [.int r.1, .int r.2.1, .int r.2.2.1, .sl (r.2.2.2.1.map VV.str)], .bool r.2.2.2.2], [])) (ae.f k a0) (bI Tryz.prog ti keep Gv m 61 [.str a0]) := by
  obtain ⟨m, rfl⟩ : ∃ m', m = m' + 1 := ⟨m - 1, by omega⟩
  rw [show bI Tryz.prog ti keep Gv (m + 1) 61 _ = _ from bC ((bq hG 61).trans rfl) Tryz.func61 (by kernel_rfl) rfl rfl]
  unfold ae.f
  repeat' first
   | ((with_reducible refine Im.nat (fun k => ae.j0 k _ _ _ _ _ _) _ ?_ (fun kj hkj => ?_)); rfl; (conv => arg 2; simp only [ae.j0, Bool.false_eq_true, reduceIte])) | (with_reducible first | exact Im.none | refine Im.ite (fun h => ?_) (fun h => ?_) | refine Im.gy ?_)
   | ((conv => arg 3; whnf); first
    | ((with_reducible refine Im.fin ?_); exact zr) | ((with_reducible refine Im.je ?_ ?_); kernel_rfl) | ((with_reducible refine Im.bH ?_ ?_); exact zq) | ((with_reducible refine Im.bJ ?_ ?_); exact zq) | ((with_reducible refine Im.bH ?_ ?_); exact zd) | ((with_reducible refine Im.must ?_ ?_); exact zd) | ((with_reducible refine Im.bJ ?_ ?_); exact zd) | (with_reducible refine Im.qc ?_) | ((with_reducible refine Im.bG ByteArray.empty ?_ ?_ ?_); exact zd; exact zd) | ((with_reducible refine Im.bG z67 ?_ ?_ ?_); exact zd; exact zd) | ((with_reducible refine Im.bG (0 : Int) ?_ ?_ ?_); exact zd; exact zd) | ((with_reducible refine Im.bG false ?_ ?_ ?_); exact zd; exact zd) | ((with_reducible refine Im.call (bW.vi hG ?_ _) ?_ (fun r hr => ?_)); omega; exact zr) | ((with_reducible refine Im.call (au.vi hG ?_ _ _ _ _) ?_ (fun r hr => ?_)); omega; exact zr) | ((with_reducible refine Im.call (fK.vi hG ?_ _ _) ?_ (fun r hr => ?_)); omega; exact zr) | ((with_reducible refine Im.call (dF.vi hG ?_ _ _) ?_ (fun r hr => ?_)); omega; exact zr)
    | exact zm | exact zx | fail)
theorem iH.vi {m : Nat} {Gv : nK} (hG : Base Gv) (hm : 1 ≤ m) (a0 : Int) (a1 : Int) : Im (fun r => (.int r, [])) (iH.f a0 a1) (bI Tryz.prog ti keep Gv m 145 [.int a0, .int a1]) := by
  obtain ⟨m, rfl⟩ : ∃ m', m = m' + 1 := ⟨m - 1, by omega⟩
  rw [show bI Tryz.prog ti keep Gv (m + 1) 145 _ = _ from bC ((bq hG 145).trans rfl) Tryz.func145 (by kernel_rfl) rfl rfl]
  unfold iH.f
  repeat' first
   | (with_reducible first | exact Im.none | refine Im.ite (fun h => ?_) (fun h => ?_) | refine Im.gy ?_)
   | ((conv => arg 3; whnf); first
    | ((with_reducible refine Im.fin ?_); exact zr) | ((with_reducible refine Im.je ?_ ?_); kernel_rfl) | ((with_reducible refine Im.bH ?_ ?_); exact zq) | ((with_reducible refine Im.bJ ?_ ?_); exact zq) | ((with_reducible refine Im.bH ?_ ?_); exact zd) | ((with_reducible refine Im.must ?_ ?_); exact zd) | ((with_reducible refine Im.bJ ?_ ?_); exact zd) | (with_reducible refine Im.qc ?_) | ((with_reducible refine Im.bG ByteArray.empty ?_ ?_ ?_); exact zd; exact zd) | ((with_reducible refine Im.bG z67 ?_ ?_ ?_); exact zd; exact zd) | ((with_reducible refine Im.bG (0 : Int) ?_ ?_ ?_); exact zd; exact zd) | ((with_reducible refine Im.bG false ?_ ?_ ?_); exact zd; exact zd)
    | exact zm | exact zx | fail)
theorem mM.vi {m : Nat} {Gv : nK} (hG : Base Gv) (hm : 1 ≤ m) (a0 : ByteArray) (a1 : ByteArray) : Im (fun r => (.int r, [])) (mM.f a0 a1) (bI Tryz.prog ti keep Gv m 184 [.str a0, .str a1]) := by
  obtain ⟨m, rfl⟩ : ∃ m', m = m' + 1 := ⟨m - 1, by omega⟩
  rw [show bI Tryz.prog ti keep Gv (m + 1) 184 _ = _ from bC ((bq hG 184).trans rfl) Tryz.func184 (by kernel_rfl) rfl rfl]
  unfold mM.f
  repeat' first
   | (with_reducible first | exact Im.none | refine Im.ite (fun h => ?_) (fun h => ?_) | refine Im.gy ?_)
   | ((conv => arg 3; whnf); first
    | ((with_reducible refine Im.fin ?_); exact zr) | ((with_reducible refine Im.je ?_ ?_); kernel_rfl) | ((with_reducible refine Im.bH ?_ ?_); exact zq) | ((with_reducible refine Im.bJ ?_ ?_); exact zq) | ((with_reducible refine Im.bH ?_ ?_); exact zd) | ((with_reducible refine Im.must ?_ ?_); exact zd) | ((with_reducible refine Im.bJ ?_ ?_); exact zd) | (with_reducible refine Im.qc ?_) | ((with_reducible refine Im.bG ByteArray.empty ?_ ?_ ?_); exact zd; exact zd) | ((with_reducible refine Im.bG z67 ?_ ?_ ?_); exact zd; exact zd) | ((with_reducible refine Im.bG (0 : Int) ?_ ?_ ?_); exact zd; exact zd) | ((with_reducible refine Im.bG false ?_ ?_ ?_); exact zd; exact zd)
    | exact zm | exact zx | fail)
end Go.Proofs.YtieohddolkeegaaGreatDoor.VI

end
