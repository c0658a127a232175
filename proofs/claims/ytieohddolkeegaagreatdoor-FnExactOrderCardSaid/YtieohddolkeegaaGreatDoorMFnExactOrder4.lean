/- A part of the proof that the law FnExactOrder answers true at every input that its row speaks of. Conditions: the row's own. -/
import Derived.Test.YtieohddolkeegaaGreatDoorMFnExactOrder3
import Derived.Test.YtieohddolkeegaaGreatDoorVMore
import Derived.Test.YtieohddolkeegaaGreatDoorMFnExactOrder2
import Derived.KernelRfl
import Derived.Laws.Strings
import Derived.Test.YtieohddolkeegaaGreatDoorProg
import Derived.Test.YtieohddolkeegaaGreatDoorKFnExactOrder0
section
namespace Go.Proofs.YtieohddolkeegaaGreatDoor.VI
open Go Go.RowKit
set_option linter.unusedVariables false
set_option linter.unusedSimpArgs false
theorem befores_len : ∀ (l : List Oper) (acc : List Nat), (befores l acc).length = acc.length + l.length
 | [], acc => rfl
 | o :: r, acc => by rw [befores, befores_len r]; simp; omega
theorem befores_old : ∀ (l : List Oper) (acc : List Nat) (i : Nat), i < acc.length → (befores l acc)[i]? = acc[i]?
 | [], acc, i, h => rfl
 | o :: r, acc, i, h => by rw [befores, befores_old r _ i (by simp; omega), List.getElem?_append_left h]
def edgeBits (acc : List Nat) (o : Oper) : Nat := o.after.toList.foldl (fun s e => match Region.binds .any e with
  | true => s ||| (1 <<< e.on) ||| acc.getD e.on 0
  | false => s) 0
theorem fold_bits (acc : List Nat) (j : Nat) : ∀ (es : List Edge) (s : Nat), (es.foldl (fun s e => match Region.binds .any e with
  | true => s ||| (1 <<< e.on) ||| acc.getD e.on 0
  | false => s) s).testBit j = true → s.testBit j = true ∨ ∃ e ∈ es, Region.binds .any e = true ∧ (e.on = j ∨ (acc.getD e.on 0).testBit j = true)
 | [], s, h => .inl h
 | e :: es, s, h => by
  rw [List.foldl_cons] at h
  rcases fold_bits acc j es _ h with h | ⟨e', he, h1, h2⟩
  ·split at h
   ·rename_i hb
    rw [Nat.testBit_or, Nat.testBit_or, Bool.or_eq_true, Bool.or_eq_true] at h
    rcases h with (h | h) | h
    ·exact .inl h
    ·refine .inr ⟨e, by simp, hb, .inl ?_⟩
     rw [Nat.one_shiftLeft, Nat.testBit_two_pow] at h
     simpa using h
    ·exact .inr ⟨e, by simp, hb, .inr h⟩
   ·exact .inl h
  ·exact .inr ⟨e', by simp [he], h1, h2⟩
theorem befores_at : ∀ (l : List Oper) (acc : List Nat) (i : Nat) (o : Oper), l[i]? = some o → (befores l acc)[acc.length + i]? = some (edgeBits ((befores l acc).take (acc.length + i)) o)
 | [], acc, i, o, h => by simp at h
 | x :: r, acc, 0, o, h => by
  simp at h; subst h
  rw [befores, Nat.add_zero, befores_old r _ acc.length (by simp)]
  have ht : (befores r (acc ++ [edgeBits acc x])).take acc.length = acc := by
   refine List.ext_getElem? fun k => ?_
   rw [List.getElem?_take]
   split
   ·rw [befores_old r _ k (by simp; omega), List.getElem?_append_left (by omega)]
   ·rw [List.getElem?_eq_none (by omega)]
  show (acc ++ [edgeBits acc x])[acc.length]? = _
  simp only [List.getElem?_concat_length, Option.some.injEq]
  show _ = edgeBits ((befores r (acc ++ [edgeBits acc x])).take acc.length) x
  rw [ht]
 | x :: r, acc, i + 1, o, h => by
  have := befores_at r (acc ++ [edgeBits acc x]) i o (by simpa using h)
  rw [befores]
  simp only [List.length_append, List.length_cons, List.length_nil] at this
  rw [show acc.length + (i + 1) = acc.length + (0 + 1) + i by omega]
  exact this
theorem before_edge {l : List Oper} {i j : Nat} {o : Oper} (h : l[i]? = some o) (hb : ((befores l []).getD i 0).testBit j = true) : ∃ e ∈ o.after.toList, Region.binds .any e = true ∧ (e.on = j ∨ (e.on < i ∧ ((befores l []).getD e.on 0).testBit j = true)) := by
 have h1 := befores_at l [] i o h
 simp only [List.length_nil, Nat.zero_add] at h1
 rw [List.getD_eq_getElem?_getD, h1, Option.getD_some] at hb
 rcases fold_bits _ j o.after.toList 0 hb with h2 | ⟨e, he, h2, h3⟩
 ·simp at h2
 ·refine ⟨e, he, h2, h3.imp id fun h3 => ?_⟩
  rw [List.getD_eq_getElem?_getD, List.getElem?_take] at h3
  split at h3
  ·rename_i hlt; exact ⟨hlt, by rw [List.getD_eq_getElem?_getD]; exact h3⟩
  ·simp at h3
def Down (l : List Oper) (L : Array Bool) : Prop := ∀ (i : Nat) o, l[i]? = some o → L.getD i false = true → ∀ e ∈ o.after.toList, Region.binds .any e = true → L.getD e.on false = true
theorem before_listed {l : List Oper} {L : Array Bool} (hd : Down l L) : ∀ (i : Nat) (o : Oper), l[i]? = some o → (∀ e ∈ o.after.toList, Region.binds .any e = true → L.getD e.on false = true) → ∀ j, ((befores l []).getD i 0).testBit j = true → L.getD j false = true := by
 intro i
 induction i using Nat.strongRecOn with
 | _ i ih =>
  intro o ho hr j hj
  obtain ⟨e, he, hb, h⟩ := before_edge ho hj
  have hl := hr e he hb
  rcases h with rfl | ⟨hlt, h⟩
  ·exact hl
  ·have hi : i < l.length := (List.getElem?_eq_some_iff.1 ho).1
   have ho' : l[e.on]? = some (l[e.on]'(by omega)) := List.getElem?_eq_getElem (by omega)
   exact ih e.on hlt _ ho' (hd e.on _ ho' hl) j h
theorem quietN_spec (bs : List Nat) : ∀ n, quietN bs n ≤ n ∧ ∀ j, quietN bs n ≤ j → j < n → bs.getD j 0 = 2 ^ j - 1
 | 0 => ⟨Nat.le_refl _, fun j _ h => absurd h (Nat.not_lt_zero _)⟩
 | n + 1 => by
  obtain ⟨h1, h2⟩ := quietN_spec bs n
  rw [quietN]
  split
  ·rename_i hb
   refine ⟨by omega, fun j hj hn => ?_⟩
   by_cases e : j = n
   ·subst e; exact Nat.eq_of_beq_eq_true hb
   ·exact h2 j hj (by omega)
  ·exact ⟨Nat.le_refl _, fun j hj hn => by omega⟩
theorem ready_iff {l : List Oper} {L : Array Bool} {i : Nat} : i ∈ Region.ready .any l.toArray L ↔ ∃ o, l[i]? = some o ∧ L.getD i true = false ∧ ∀ e ∈ o.after.toList, Region.binds .any e = true → L.getD e.on false = true := by
 unfold Region.ready
 simp only [List.mem_filter, List.mem_range, Bool.and_eq_true, Bool.not_eq_true', List.size_toArray, List.getElem?_toArray]
 constructor
 ·rintro ⟨h1, h2, h3⟩
  refine ⟨l[i], List.getElem?_eq_getElem h1, h2, fun e he hb => ?_⟩
  rw [List.getElem?_eq_getElem h1] at h3
  simp only [Option.map_some, Option.getD_some, Array.all_eq_true'] at h3
  have := h3 e (by simpa using he)
  rw [hb] at this
  simpa using this
 ·rintro ⟨o, h1, h2, h3⟩
  refine ⟨(List.getElem?_eq_some_iff.1 h1).1, h2, ?_⟩
  rw [h1]
  simp only [Option.map_some, Option.getD_some, Array.all_eq_true']
  intro e he
  cases hb : Region.binds .any e
  ·rfl
  ·simpa using h3 e (by simpa using he) hb
section
variable {P : Program} {NG : Nat} {GW : World → Prop} {io : List Nat} {w0 : World} {pd0 : Nat → Nat → Prop} {G : Gh} {env env' : Env} {a : Act} {w : World}
variable {R : Type} {K : Env → Option R} {r : R} {Q : Exit → Act → World → Prop} {o : Oper} {C : Cx} {ops : List Oper} {al : List Nat}
structure Agree (ops : List Oper) (al : List Nat) (o : Oper) (env env' : Env) : Prop where
 see : ∀ t ∈ o.looksAt ops.toArray, get env' t = get env t
 box : ∀ t cs, t ∉ al → get env t = .bx cs → get env' t = .bx cs
 dst : ∀ d, o.dst = some d → plain (get env' d) = true
 ref : ∀ d ∈ allocs ops, env'.any (refersD d) = false
theorem look_op {t : Nat} (h : Operand.tmp t ∈ o.op.operands.toList) : t ∈ o.looksAt ops.toArray := by
 unfold Oper.looksAt
 refine List.mem_append_left _ (List.mem_filterMap.2 ⟨_, h, rfl⟩)
theorem look_guard {j : Nat} {want : Bool} {p : Oper} {t : Nat} (hg : o.guard = some (j, want)) (hj : ops[j]? = some p) (ht : p.dst = some t) : t ∈ o.looksAt ops.toArray := by
 unfold Oper.looksAt
 refine List.mem_append_right _ ?_
 simp [hg, hj, ht]
theorem Agree.rd (h : Agree ops al o env env') : ∀ x ∈ o.op.operands.toList, rdv env' x = rdv env x := by
 intro x hx
 cases x with
 | tmp t => simp only [rdv]; rw [h.see t (look_op hx)]
 | _ => rfl
theorem vput_ok {dst : Option Nat} {v : VV} (h : ∃ r : R, vput (some al) dst v env K = some r) : (∀ d, dst = some d → plain (get env d) = true ∧ plain v = true ∧ al.all (fun t => !(refersD t v)) = true) := by
 obtain ⟨r, h⟩ := h
 intro d hd
 subst hd
 simp only [vput] at h
 split at h
 ·rename_i hp; rw [Bool.and_eq_true, Bool.and_eq_true] at hp; exact hp
 ·cases h
theorem vput_go {R' : Type} {K' : Env → Option R'} {dst : Option Nat} {v : VV} (h1 : ∀ d, dst = some d → plain (get env d) = true) (h2 : ∀ d, dst = some d → plain v = true ∧ al.all (fun t => !(refersD t v)) = true) : vput (some al) dst v env K' = K' (put dst v env) := by
 cases dst with
 | none => rfl
 | some d =>
  simp only [vput]
  rw [h1 d rfl, (h2 d rfl).1, (h2 d rfl).2]
  simp only [Bool.and_self, vset_eq]
  rfl
theorem nth_set : ∀ (env : Env) (d t : Nat) (v : VV), nth (env.set d v) t = if d = t ∧ d < env.length then v else nth env t
 | [], d, t, v => by simp [nth]
 | a :: r, 0, 0, v => by simp [nth]
 | a :: r, 0, t + 1, v => by simp [nth]
 | a :: r, d + 1, 0, v => by simp [nth]
 | a :: r, d + 1, t + 1, v => by simp only [List.set_cons_succ, nth]; rw [nth_set r d t v]; simp
def put2 (sv : Option (Nat × VV)) (env : Env) : Env := match sv with
 | some p => env.set p.1 p.2
 | none => env
def SvOk (ops : List Oper) (o : Oper) (env : Env) (t : Nat) (s : VV) : Prop := sdOf ops o = some t ∧ ((plain (get env t) = true ∧ ∃ xs, s = .sl xs) ∨ ((∃ cs, get env t = .bx cs) ∧ (∃ cs, s = .bx cs) ∧ t ∈ lowns ops))
def QStep (P : Program) (NG : Nat) (GW : World → Prop) (io : List Nat) (w0 : World) (pd0 : Nat → Nat → Prop) (Q : Exit → Act → World → Prop) (ops : List Oper) (al : List Nat) (i : Nat) (o : Oper) (env : Env) (v : VV) (sv : Option (Nat × VV)) : Prop :=
 (∀ d, o.dst = some d → plain (get env d) = true) ∧ (∀ t ∈ al, o.dst ≠ none → refersD t v = false) ∧ (∀ cs, v = .bx cs → ∀ d, o.dst = some d → d ∈ al) ∧ (∀ e z xs, v = .mr e z xs → o.dst = none) ∧ (∀ t s, sv = some (t, s) → SvOk ops o env t s) ∧
  ∀ (env' : Env) (G : Gh) (a : Act) (w : World), Agree ops al o env env' → Sim NG GW io w0 pd0 G env' a w → ∀ Nk : Act → World → Prop, (∀ G' a' w', Sim NG GW io w0 pd0 G' (put o.dst v (put2 sv env')) a' w' → Nk a' w') → wpOp P ops.toArray Q i Nk a w
theorem seen_agree (h : Agree ops al o env env') {j : Nat} {want : Bool} (hg : o.guard = some (j, want)) : seen ops env' j = seen ops env j := by
 unfold seen
 cases hj : ops[j]? with
 | none => rfl
 | some p =>
  simp only
  cases ht : p.dst with
  | none => rfl
  | some t => simp only [h.see t (look_guard hg hj ht)]
theorem quiet_step (hti : TIok P C.ti) (gws : ∀ w w', GW w → Below NG w w' → GW w') (hC : CallOk P NG GW C.call) (hq : quietB C ops o = true) (hal : ∀ d t, o.op = .alloc t → o.dst = some d → d ∈ allocs ops) (hsub : ∀ d ∈ allocs ops, d ∈ al) {i : Nat} (hi : ops[i]? = some o) {rest : List Oper} (h : vops C ops (some al) (o :: rest) env K = some r) :
  ∃ v sv, vops C ops (some al) rest (put o.dst v (put2 sv env)) K = some r ∧ QStep P NG GW io w0 pd0 Q ops al i o env v sv := by
 have run : ∀ h : vop C ops (some al) o env (fun env' => vops C ops (some al) rest env' K) = some r, ∃ v, vops C ops (some al) rest (put o.dst v env) K = some r ∧ (∀ d, o.dst = some d → plain (get env d) = true) ∧ (∀ t ∈ al, o.dst ≠ none → refersD t v = false) ∧ (∀ cs, v = .bx cs → ∀ d, o.dst = some d → d ∈ al) ∧ (∀ e z xs, v = .mr e z xs → o.dst = none) ∧
   ∀ (env' : Env), Agree ops al o env env' → ∀ {R' : Type} (K' : Env → Option R'), vop C ops (some al) o env' K' = K' (put o.dst v env') := by
  intro h
  by_cases ha : ∃ t, o.op = .alloc t
  ·obtain ⟨t, hop⟩ := ha
   simp only [vop, hop] at h
   split at h
   case h_2 => cases h
   rename_i ti d hti' hd
   have hdm := hal d t hop hd
   simp only [vnew] at h
   split at h
   case h_2 => cases h
   rename_i hc
   rw [Bool.or_eq_false_iff] at hc
   rw [vset_eq] at h
   refine ⟨.bx (ti.zero.map zcell), by rw [hd]; exact h, ?_, fun _ _ _ => rfl, ?_, fun _ _ _ he => VV.noConfusion he, ?_⟩
   ·intro d' hd'; rw [hd] at hd'; cases hd'; simpa using hc.2
   ·intro cs _ d' hd'; rw [hd] at hd'; cases hd'; exact hsub _ hdm
   ·intro env' hA R' K'
    simp only [vop, hop, hti', hd, vnew]
    rw [hA.ref d hdm, hA.dst d hd]
    simp only [Bool.not_true, Bool.or_self, vset_eq]
    rfl
  ·have ha' : ∀ t, o.op ≠ .alloc t := fun t e => ha ⟨t, e⟩
   rw [vop_quiet hq ha'] at h
   obtain ⟨v, hv, huni⟩ := vqu_val h
   have hok := vput_ok ⟨r, hv⟩
   have hK := vput_some hv
   refine ⟨v, hK, fun d hd => (hok d hd).1, fun t ht hne => ?_, fun cs e d hd => ?_, fun e z xs he => ?_, fun env' hA R' K' => ?_⟩
   ·cases hd : o.dst with
    | none => exact absurd hd hne
    | some d =>
     have := (hok d hd).2.2
     rw [List.all_eq_true] at this
     simpa using this t ht
   ·have := (hok d hd).2.1
    rw [e] at this; cases this
   ·cases hd : o.dst with
    | none => rfl
    | some d =>
     have := (hok d hd).2.1
     rw [he] at this; cases this
   ·rw [vop_quiet hq ha', vqu_congr (rd := rdv env) (gb := getB (some al) env) hA.rd ?_]
    ·rw [huni]
     exact vput_go hA.dst fun d hd => (hok d hd).2
    ·intro ty x hop t off hx
     have hb : ∃ cs, getB (some al) env t = .bx cs := by
      simp only [vqu, hop] at h
      split at h
      ·cases h
      ·rw [hx] at h
       simp only at h
       split at h
       ·exact ⟨_, by assumption⟩
       ·cases h
     obtain ⟨cs, hcs⟩ := hb
     rw [hcs]
     have hg := getB_bx hcs
     unfold getB at hcs ⊢
     simp only at hcs ⊢
     split at hcs
     ·cases hcs
     ·rename_i hm
      exact hA.box t cs (fun hmem => by
       have := List.any_eq_false.1 hm t hmem
       simp at this) hg
 have mk : ∀ v, (∀ (env' : Env), Agree ops al o env env' → ∀ {R' : Type} (K' : Env → Option R'), vop C ops (some al) o env' K' = K' (put o.dst v env')) → ∀ (env' : Env) (G : Gh) (a : Act) (w : World), Agree ops al o env env' → Sim NG GW io w0 pd0 G env' a w → ∀ Nk : Act → World → Prop, (∀ G' a' w', Sim NG GW io w0 pd0 G' (put o.dst v env') a' w' → Nk a' w') → o.wp P a w Nk Q := by
  intro v hv env' G a w hA hs Nk hNk
  have := hv env' hA (R' := Env) some
  refine vop_sound (r := put o.dst v env') (K := some) hti gws hC hs (fun G' e' a' w' hs' he => ?_) this
  cases he
  exact hNk G' a' w' hs'
 rw [vops] at h
 split at h
 ·rename_i hg
  obtain ⟨v, h1, h2, h3, h4, h5, h6⟩ := run h
  refine ⟨v, none, h1, h2, h3, h4, h5, fun t s he => (by cases he), fun env' G a w hA hs Nk hNk => ?_⟩
  unfold wpOp
  rw [show ops.toArray[i]? = some o by simpa using hi]
  simp only
  rw [if_pos (by simp [Region.wanted, hg])]
  exact .inl (mk v h6 env' G a w hA hs Nk hNk)
 ·rename_i j want hg
  have skip : ∀ h : vput (some al) o.dst (.s undef) env (fun env' => vops C ops (some al) rest env' K) = some r, (∀ (env' : Env) (G : Gh) (a : Act) (w : World), Agree ops al o env env' → Sim NG GW io w0 pd0 G env' a w → ¬ Region.wanted o (yielded ops.toArray a.tmps) = true) → ∃ v sv, vops C ops (some al) rest (put o.dst v (put2 sv env)) K = some r ∧ QStep P NG GW io w0 pd0 Q ops al i o env v sv := by
   intro h hw
   have hok := vput_ok ⟨r, h⟩
   refine ⟨.s undef, none, vput_some h, fun d hd => (hok d hd).1, fun _ _ _ => rfl, fun cs e => VV.noConfusion e, fun _ _ _ e => VV.noConfusion e, fun t s he => (by cases he), fun env' G a w hA hs Nk hNk => ?_⟩
   unfold wpOp
   rw [show ops.toArray[i]? = some o by simpa using hi]
   simp only
   rw [if_neg (hw env' G a w hA hs)]
   exact hNk G _ _ (hs.put o.dst fun d _ => VR.slot (VR.of_dr (.s _)) d)
  split at h
  ·rename_i b hb
   have hy : ∀ (env' : Env) (G : Gh) (a : Act) (w : World), Agree ops al o env env' → Sim NG GW io w0 pd0 G env' a w → yielded ops.toArray a.tmps j = some b := fun env' G a w hA hs => seen_ok hs (ops := ops.toArray) (by rw [← hb]; exact seen_agree hA hg)
   rcases bite_some h with ⟨hbw, h⟩ | ⟨hbw, h⟩
   ·obtain ⟨v, h1, h2, h3, h4, h5, h6⟩ := run h
    refine ⟨v, none, h1, h2, h3, h4, h5, fun t s he => (by cases he), fun env' G a w hA hs Nk hNk => ?_⟩
    unfold wpOp
    rw [show ops.toArray[i]? = some o by simpa using hi]
    simp only
    rw [if_pos (by simp only [Region.wanted, hg, hy env' G a w hA hs]; simpa using hbw)]
    exact .inl (mk v h6 env' G a w hA hs Nk hNk)
   ·exact skip h fun env' G a w hA hs => by simp only [Region.wanted, hg, hy env' G a w hA hs]; simpa using hbw
  ·rename_i hb
   refine skip h fun env' G a w hA hs => ?_
   have hy : yielded ops.toArray a.tmps j = none := seen_ok hs (ops := ops.toArray) (by rw [← hb]; exact seen_agree hA hg)
   simp [Region.wanted, hg, hy]
  ·cases h
theorem get_set_ne {d t : Nat} {s : VV} (h : t ≠ d) : get (env.set t s) d = get env d := by
 unfold get
 rw [nth_set, if_neg (fun e => h e.1)]
def vapp (C : Cx) (c : Call) (a b : VV) : Option (VV × VV) := match c.argTypes.toList with
 | [t, t'] => if Nat.beq t t' then (match C.ti t with
   | some i => (match i.k with
    | .slice e => (match C.ti e with
     | some ie => if 0 < ie.sz ∧ 0 < ie.bytes then (match a, b with
      | .ow e' z xs, .sl ys => if Nat.beq e' e && Nat.beq z ie.sz then bite (decide ((xs.length + ys.length) * ie.bytes ≤ 140737488355328) && ys.all fun v => Nat.beq v.cells.length ie.sz) (some (.sl xs, .ow e ie.sz (xs ++ ys))) none else none
      | .nl, .sl ys => bite (decide (ys.length * ie.bytes ≤ 140737488355328) && ys.all fun v => Nat.beq v.cells.length ie.sz) (some (.sl [], .ow e ie.sz ys)) none
      | _, _ => none) else none
     | none => none)
    | _ => none)
   | none => none) else none
 | _ => none
theorem app_mem {c : Call} {l : List Operand} (hc : c.callee = .builtin .append) (ha : c.args.toList = l) {x : Operand} (hx : x ∈ l) : x ∈ (Op.call c).operands.toList := by
 have h1 : x ∈ c.args := by rw [← Array.mem_toList_iff, ha]; exact hx
 simp [Op.operands, Call.operands, hc, h1]
theorem bite_obind {α β : Type} {b : Bool} {p : α} {f : α → Option β} : obind (bite b (some p) none) f = bite b (f p) none := by cases b <;> rfl
theorem vop_app {R' : Type} {K' : Env → Option R'} {c : Call} {u : Nat} {y : Operand} (hop : o.op = .call c) (hc : c.callee = .builtin .append) (ha : c.args.toList = [.tmp u, y]) {dr : Option (List Nat)} : vop C ops dr o env K' = obind (vapp C c (get env u) (rdv env y)) fun p => vset u p.1 env fun env' => vput dr o.dst p.2 env' K' := by
 simp only [vop, hop, hc, ha, vapp]
 split
 ·rename_i x y' t t' e1 e2
  cases e1
  (try simp only [e2])
  split
  ·rename_i hb
   (try simp only [hb, if_true])
   split
   ·rename_i i hi
    (try simp only [hi])
    split
    ·rename_i e hk
     (try simp only [hk])
     split
     ·rename_i ie hie
      (try simp only [hie])
      split
      ·rename_i hz
       (try simp only [hz, and_self, if_true])
       split
       ·rename_i h1 h2
        (try simp only [h1, h2])
        split
        ·rename_i hb2
         (try simp only [hb2, if_true, bite_obind])
        ·rename_i hb2
         (try simp only [hb2])
         rfl
       ·rename_i h1 h2
        (try simp only [h1, h2, bite_obind])
       ·rename_i h1 h2
        split
        ·exact absurd ‹_› (h1 _ _ _ _ ‹_›)
        ·exact absurd ‹_› (h2 _ ‹_›)
        ·rfl
      ·rename_i hz
       (try simp only [hz, if_false])
       rfl
     ·rename_i hie
      (try simp only [hie])
      rfl
    ·rename_i hk
     split
     ·rename_i e he
      exact absurd he (hk e)
     ·rfl
   ·rename_i hi
    (try simp only [hi])
    rfl
  ·rename_i hb
   (try simp only [hb])
   rfl
 ·rename_i hne
  split
  ·rename_i t t' e2
   exact absurd e2 (hne u y t t' rfl)
  ·rfl
theorem vapp_form {c : Call} {a b s v : VV} (h : vapp C c a b = some (s, v)) : plain a = true ∧ (∃ xs, s = .sl xs) ∧ ∃ e z xs, v = .ow e z xs := by
 unfold vapp at h
 repeat' split at h
 all_goals first
  | (cases h; done)
  | skip
 ·rcases bite_some h with ⟨_, h⟩ | ⟨_, h⟩
  ·cases h; exact ⟨rfl, ⟨_, rfl⟩, _, _, _, rfl⟩
  ·cases h
 ·rcases bite_some h with ⟨_, h⟩ | ⟨_, h⟩
  ·cases h; exact ⟨rfl, ⟨_, rfl⟩, _, _, _, rfl⟩
  ·cases h
def vlo (C : Cx) (ty : TypeId) (t : Nat) (g : VV) : Option (VV × Option VV) := match C.ti ty with
 | none => none
 | some i => match view t g with
  | .vw cs => (match vload i cs 0 with
   | some v => some (v, none)
   | none => none)
  | .pt t' off => (match Nat.beq t t' with
   | true => (match g with
    | .bx cs => (match i.k, cs[off]? with
     | .slice _, some (.ow e z xs) => some (.ow e z xs, some (.bx (cs.set off (.sl xs))))
     | .slice _, some .nl => some (.nl, none)
     | _, _ => none)
    | _ => none)
   | false => none)
  | _ => none
theorem vlo_form {ty : TypeId} {t : Nat} {g v s : VV} (h : vlo C ty t g = some (v, some s)) : (∃ cs, g = .bx cs) ∧ ∃ cs, s = .bx cs := by
 unfold vlo at h
 repeat' split at h
 all_goals first
  | (cases h; done) | (cases h; exact ⟨⟨_, rfl⟩, _, rfl⟩)
theorem vop_lo {R' : Type} {K' : Env → Option R'} {ty : TypeId} {t d : Nat} (hop : o.op = .load ty (.tmp t)) (hd : o.dst = some d) (hfd : fd ops (some d) = true) : vop C ops (some al) o env K' = obind (vlo C ty t (get env t)) fun p => match p.2 with
  | some s => vset t s env fun env' => vput (some al) (some d) p.1 env' K'
  | none => vput (some al) (some d) p.1 env K' := by
 simp only [vop, hop, hd, hfd, vlo, rdv, getL]
 cases C.ti ty with
 | none => rfl
 | some i =>
  simp only
  cases hg : get env t with
  | vw cs =>
   simp only [view]
   cases vload i cs 0 <;> rfl
  | pt t' off =>
   simp only [view]
   cases hb : Nat.beq t t' with
   | true =>
    obtain rfl := Nat.eq_of_beq_eq_true hb
    simp only [hg]
    rfl
   | false => rfl
  | bx cs =>
   simp only [view]
   rw [Nat.beq_refl]
   simp only [hg]
   cases i.k with
   | slice e =>
    cases cs[0]? with
    | none => rfl
    | some v => cases v <;> rfl
   | _ => rfl
  | _ => rfl
theorem own_step (hti : TIok P C.ti) (gws : ∀ w w', GW w → Below NG w w' → GW w') (hC : CallOk P NG GW C.call) (hq : ownMove ops o = true) {i : Nat} (hi : ops[i]? = some o) {rest : List Oper} (h : vops C ops (some al) (o :: rest) env K = some r) :
  ∃ v sv, vops C ops (some al) rest (put o.dst v (put2 sv env)) K = some r ∧ QStep P NG GW io w0 pd0 Q ops al i o env v sv := by
 unfold ownMove at hq
 split at hq
 case h_2 => cases hq
 rename_i t d hsd hg hd
 rw [Bool.and_eq_true] at hq
 obtain ⟨hq, hqL⟩ := hq
 have hne : t ≠ d := fun e => by subst e; simp at hq
 have hop : (o.op = .move (.tmp t) ∧ fd ops o.dst = true) ∨ (∃ c y, o.op = .call c ∧ c.callee = .builtin .append ∧ c.args.toList = [.tmp t, y]) ∨ ∃ ty, o.op = .load ty (.tmp t) ∧ fd ops o.dst = true := by
  have hsd' := hsd
  unfold sdOf at hsd'
  split at hsd'
  ·rename_i t' hop
   split at hsd'
   ·rename_i hf; cases hsd'; exact .inl ⟨hop, hf⟩
   ·cases hsd'
  ·rename_i ty t' hop
   split at hsd'
   ·rename_i hf; cases hsd'; exact .inr (.inr ⟨ty, hop, hf⟩)
   ·cases hsd'
  ·rename_i c hop
   split at hsd'
   ·rename_i u y hc ha; cases hsd'; exact .inr (.inl ⟨c, _, hop, hc, ha⟩)
   ·cases hsd'
  ·cases hsd'
 rw [vops, hg] at h
 have fin : ∀ (v : VV) (sv : Option (Nat × VV)), vops C ops (some al) rest (put o.dst v (put2 sv env)) K = some r → (plain (get env d) = true ∧ plain v = true ∧ al.all (fun t => !(refersD t v)) = true) → (∀ t s, sv = some (t, s) → SvOk ops o env t s) → (∀ (env' : Env), Agree ops al o env env' → ∀ {R' : Type} (K' : Env → Option R'), vop C ops (some al) o env' K' = K' (put o.dst v (put2 sv env'))) →
   ∃ v sv, vops C ops (some al) rest (put o.dst v (put2 sv env)) K = some r ∧ QStep P NG GW io w0 pd0 Q ops al i o env v sv := by
  intro v sv h1 h2 h3 h4
  refine ⟨v, sv, h1, fun d' hd' => ?_, fun u hu _ => ?_, fun cs e => ?_, fun e z xs he => ?_, h3, fun env' G a w hA hs Nk hNk => ?_⟩
  ·rw [hd] at hd'; cases hd'; exact h2.1
  ·have := h2.2.2
   rw [List.all_eq_true] at this
   simpa using this u hu
  ·have := h2.2.1
   rw [e] at this; cases this
  ·have := h2.2.1
   rw [he] at this; cases this
  ·unfold wpOp
   rw [show ops.toArray[i]? = some o by simpa using hi]
   simp only
   rw [if_pos (by simp [Region.wanted, hg])]
   refine .inl (vop_sound (r := put o.dst v (put2 sv env')) (K := some) hti gws hC hs (fun G' e' a' w' hs' he => ?_) (ops := ops) (dr := some al) ?_)
   ·cases he; exact hNk G' a' w' hs'
   ·exact h4 env' hA (R' := Env) some
 have go : ∀ (env' : Env) (s v : VV) {R' : Type} (K' : Env → Option R'), plain (get env' d) = true → plain v = true ∧ al.all (fun t => !(refersD t v)) = true → vput (some al) (some d) v (env'.set t s) K' = K' (put (some d) v (env'.set t s)) := fun env' s v R' K' h1 h2 => vput_go (fun d' hd' => by cases hd'; rw [get_set_ne hne]; exact h1) (fun d' _ => h2)
 rcases hop with ⟨hop, hfd⟩ | ⟨c, y, hop, hc, ha⟩ | ⟨ty, hop, hfd⟩
 ·rw [hd] at hfd
  have hlook : t ∈ o.looksAt ops.toArray := look_op (by rw [hop]; simp [Op.operands])
  have red : ∀ (env' : Env) {R' : Type} (K' : Env → Option R'), vop C ops (some al) o env' K' = vmove (some al) true (some d) (.tmp t) env' K' := fun env' R' K' => by simp only [vop, hop, hd, hfd]
  rw [red] at h
  cases hgt : get env t with
  | ow e z xs =>
   simp only [vmove, hgt, vset_eq] at h
   have hok := vput_ok ⟨r, h⟩ d rfl
   rw [get_set_ne hne] at hok
   refine fin (.ow e z xs) (some (t, .sl xs)) (by rw [hd]; exact vput_some h) hok (fun t' s' he => ?_) fun env' hA R' K' => ?_
   ·cases he; exact ⟨hsd, .inl ⟨by rw [hgt]; rfl, xs, rfl⟩⟩
   ·have h5 : get env' t = .ow e z xs := (hA.see t hlook).trans hgt
    rw [red]
    simp only [vmove, h5, vset_eq]
    rw [hd]
    exact go env' _ _ K' (hA.dst d hd) hok.2
  | nl =>
   simp only [vmove, hgt] at h
   have hok := vput_ok ⟨r, h⟩ d rfl
   refine fin .nl none (by rw [hd]; exact vput_some h) hok (fun t' s' he => by cases he) fun env' hA R' K' => ?_
   have h5 : get env' t = .nl := (hA.see t hlook).trans hgt
   rw [red]
   simp only [vmove, h5]
   rw [hd]
   exact vput_go (fun d' hd' => by cases hd'; exact hA.dst d hd) (fun d' _ => hok.2)
  | _ =>
   simp only [vmove, hgt] at h
   have hok := vput_ok ⟨r, h⟩ d rfl
   refine fin (rdv env (.tmp t)) none (by rw [hd]; exact vput_some h) hok (fun t' s' he => by cases he) fun env' hA R' K' => ?_
   have h5 := (hA.see t hlook).trans hgt
   have h6 : rdv env' (.tmp t) = rdv env (.tmp t) := by simp only [rdv, h5, hgt]
   rw [red]
   simp only [vmove, h5]
   rw [hd, h6]
   exact vput_go (fun d' hd' => by cases hd'; exact hA.dst d hd) (fun d' _ => hok.2)
 ·have hlook : t ∈ o.looksAt ops.toArray := look_op (by rw [hop]; exact app_mem hc ha (by simp))
  have hy : ∀ env', Agree ops al o env env' → rdv env' y = rdv env y := fun env' hA => hA.rd y (by rw [hop]; exact app_mem hc ha (by simp))
  rw [vop_app hop hc ha] at h
  cases hv : vapp C c (get env t) (rdv env y) with
  | none => rw [hv] at h; cases h
  | some p =>
   obtain ⟨s, v⟩ := p
   obtain ⟨f1, ⟨ys, rfl⟩, e, z, xs, rfl⟩ := vapp_form hv
   rw [hv] at h
   have h' : vset t (.sl ys) env (fun env' => vput (some al) o.dst (.ow e z xs) env' fun env' => vops C ops (some al) rest env' K) = some r := h
   rw [vset_eq, hd] at h'
   have hok := vput_ok ⟨r, h'⟩ d rfl
   rw [get_set_ne hne] at hok
   refine fin (.ow e z xs) (some (t, .sl ys)) (by rw [hd]; exact vput_some h') hok (fun t' s' he => ?_) fun env' hA R' K' => ?_
   ·cases he; exact ⟨hsd, .inl ⟨f1, ys, rfl⟩⟩
   ·rw [vop_app hop hc ha, hA.see t hlook, hy env' hA, hv]
    show vset t (.sl ys) env' (fun env' => vput (some al) o.dst (.ow e z xs) env' K') = _
    rw [vset_eq, hd]
    exact go env' _ _ K' (hA.dst d hd) hok.2
 ·rw [hd] at hfd
  have hlook : t ∈ o.looksAt ops.toArray := look_op (by rw [hop]; simp [Op.operands])
  have hmem : t ∈ lowns ops := by
   rw [show isLoad o = true by unfold isLoad; rw [hop]] at hqL
   simpa using hqL
  rw [vop_lo hop hd hfd] at h
  cases hv : vlo C ty t (get env t) with
  | none => rw [hv] at h; cases h
  | some p =>
   obtain ⟨v, sv⟩ := p
   rw [hv] at h
   cases sv with
   | none =>
    have h' : vput (some al) (some d) v env (fun env' => vops C ops (some al) rest env' K) = some r := h
    have hok := vput_ok ⟨r, h'⟩ d rfl
    refine fin v none (by rw [hd]; exact vput_some h') hok (fun t' s' he => by cases he) fun env' hA R' K' => ?_
    rw [vop_lo hop hd hfd, hA.see t hlook, hv]
    show vput (some al) (some d) v env' K' = _
    rw [hd]
    exact vput_go (fun d' hd' => by cases hd'; exact hA.dst d hd) (fun d' _ => hok.2)
   | some s =>
    obtain ⟨⟨cs, f1⟩, ⟨cs', rfl⟩⟩ := vlo_form hv
    have h' : vset t (.bx cs') env (fun env' => vput (some al) (some d) v env' fun env' => vops C ops (some al) rest env' K) = some r := h
    rw [vset_eq] at h'
    have hok := vput_ok ⟨r, h'⟩ d rfl
    rw [get_set_ne hne] at hok
    refine fin v (some (t, .bx cs')) (by rw [hd]; exact vput_some h') hok (fun t' s' he => ?_) fun env' hA R' K' => ?_
    ·cases he; exact ⟨hsd, .inr ⟨⟨cs, f1⟩, ⟨cs', rfl⟩, hmem⟩⟩
    ·rw [vop_lo hop hd hfd, hA.see t hlook, hv]
     show vset t (.bx cs') env' (fun env' => vput (some al) (some d) v env' K') = _
     rw [vset_eq, hd]
     exact go env' _ _ K' (hA.dst d hd) hok.2
end
section
variable {D : Nat → Option Nat} {vals : Nat → VV} {env0 env : Env} {n : Nat}
def chainE (D : Nat → Option Nat) (vals : Nat → VV) (env0 : Env) : Nat → Env
 | 0 => env0
 | k + 1 => put (D k) (vals k) (chainE D vals env0 k)
theorem chainE_congr {D' : Nat → Option Nat} {vals' : Nat → VV} : ∀ k, (∀ j, j < k → vals j = vals' j) → (∀ j, j < k → D j = D' j) → chainE D vals env0 k = chainE D' vals' env0 k
 | 0, _, _ => rfl
 | k + 1, h, g => by rw [chainE, chainE, chainE_congr k (fun j hj => h j (by omega)) (fun j hj => g j (by omega)), h k (by omega), g k (by omega)]
structure QS (D : Nat → Option Nat) (vals : Nat → VV) (env0 : Env) (n : Nat) (S : Nat → Prop) (env : Env) : Prop where
 len : env.length = env0.length
 hit : ∀ (k : Nat) d, k < n → D k = some d → S k → d < env0.length → (∀ j, k < j → j < n → D j = some d → ¬ S j) → get env d = vals k
 miss : ∀ t, (∀ (k : Nat), k < n → D k = some t → ¬ S k) → get env t = get env0 t
theorem get_put {dst : Option Nat} {v : VV} {t : Nat} : get (put dst v env) t = if dst = some t ∧ t < env.length then v else get env t := by
 cases dst with
 | none => simp [put]
 | some d =>
  simp only [put, get]
  rw [nth_set]
  by_cases h : d = t
  ·subst h; simp
  ·simp [h]
theorem put_len {dst : Option Nat} {v : VV} : (put dst v env).length = env.length := by cases dst <;> simp [put]
theorem QS.step {S : Nat → Prop} (h : QS D vals env0 n S env) {k : Nat} (hk : k < n) (hS : ¬ S k) (hlast : ∀ (j : Nat) d, k < j → j < n → D j = some d → D k = some d → ¬ S j) : QS D vals env0 n (fun j => S j ∨ j = k) (put (D k) (vals k) env) := by
 refine ⟨put_len.trans h.len, ?_, ?_⟩
 ·intro j d hj hd hSj hlt hmax
  rw [get_put]
  by_cases e : j = k
  ·subst e
   rw [if_pos ⟨hd, by rw [h.len]; exact hlt⟩]
  ·have hSj' := hSj.resolve_right e
   rw [if_neg (fun h2 => by
    rcases Nat.lt_or_gt_of_ne e with h3 | h3
    ·exact hmax k h3 hk h2.1 (.inr rfl)
    ·exact hlast j d h3 hj hd h2.1 hSj')]
   exact h.hit j d hj hd hSj' hlt fun j' h1 h2 h3 h4 => hmax j' h1 h2 h3 (.inl h4)
 ·intro t ht
  rw [get_put, if_neg (fun h2 => ht k hk h2.1 (.inr rfl))]
  exact h.miss t fun j hj hd hs => ht j hj hd (.inl hs)
theorem QS.congr {S S' : Nat → Prop} (h : QS D vals env0 n S env) (e : ∀ k, k < n → (S k ↔ S' k)) : QS D vals env0 n S' env :=
 ⟨h.len, fun k d hk hd hs hlt hm => h.hit k d hk hd ((e k hk).2 hs) hlt fun j h1 h2 h3 h4 => hm j h1 h2 h3 ((e j h2).1 h4), fun t ht => h.miss t fun k hk hd hs => ht k hk hd ((e k hk).1 hs)⟩
theorem QS.chain : ∀ k, k ≤ n → QS D vals env0 n (fun j => j < k) (chainE D vals env0 k)
 | 0, _ => ⟨rfl, fun _ _ _ _ h => absurd h (Nat.not_lt_zero _), fun _ _ => rfl⟩
 | k + 1, hk => by
  have := (QS.chain k (by omega)).step (k := k) (by omega) (by omega) (fun j d hj _ _ _ h => by omega)
  rw [chainE]
  exact this.congr fun j _ => by omega
open Classical in
theorem exists_max {p : Nat → Prop} : ∀ n, (∃ k, k < n ∧ p k) → ∃ k, k < n ∧ p k ∧ ∀ j, k < j → j < n → ¬ p j
 | 0, h => by obtain ⟨k, h1, _⟩ := h; omega
 | n + 1, h => by
  by_cases hp : p n
  ·exact ⟨n, by omega, hp, fun j h1 h2 => by omega⟩
  ·obtain ⟨k, h1, h2⟩ := h
   obtain ⟨k', h3, h4, h5⟩ := exists_max n ⟨k, by
    rcases Nat.lt_or_ge k n with h | h
    ·exact h
    ·exact absurd (by rw [show n = k by omega]; exact h2) hp, h2⟩
   exact ⟨k', by omega, h4, fun j h6 h7 => by
    rcases Nat.lt_or_ge j n with h | h
    ·exact h5 j h6 h
    ·rw [show j = n by omega]; exact hp⟩
open Classical in
theorem exists_min {p : Nat → Prop} {k : Nat} (h : p k) : ∃ k', k' ≤ k ∧ p k' ∧ ∀ j, j < k' → ¬ p j := by
 induction k using Nat.strongRecOn with
 | _ k ih =>
  by_cases hx : ∃ j, j < k ∧ p j
  ·obtain ⟨j, h1, h2⟩ := hx
   obtain ⟨k', h3, h4, h5⟩ := ih j h1 h2
   exact ⟨k', by omega, h4, h5⟩
  ·exact ⟨k, Nat.le_refl _, h, fun j h1 h2 => hx ⟨j, h1, h2⟩⟩
theorem env_ext : ∀ {e e' : Env}, e.length = e'.length → (∀ t, t < e.length → get e t = get e' t) → e = e'
 | [], [], _, _ => rfl
 | a :: r, b :: s, hl, h => by
  have h0 := h 0 (by simp)
  have := env_ext (e := r) (e' := s) (by simpa using hl) fun t ht => h (t + 1) (by simp; omega)
  simp [get, nth] at h0
  rw [h0, this]
 | [], _ :: _, hl, _ => by simp at hl
 | _ :: _, [], hl, _ => by simp at hl
open Classical in
theorem QS.uniq {S : Nat → Prop} {env' : Env} (h : QS D vals env0 n S env) (h' : QS D vals env0 n S env') : env = env' := by
 refine env_ext (h.len.trans h'.len.symm) fun t ht => ?_
 by_cases hx : ∃ k, k < n ∧ (D k = some t ∧ S k)
 ·obtain ⟨k, h1, ⟨h3, h4⟩, h5⟩ := exists_max n hx
  rw [h.len] at ht
  have h6 : ∀ j, k < j → j < n → D j = some t → ¬ S j := fun j a b c d => h5 j a b ⟨c, d⟩
  rw [h.hit k t h1 h3 h4 ht h6, h'.hit k t h1 h3 h4 ht h6]
 ·have hm : ∀ (k : Nat), k < n → D k = some t → ¬ S k := fun k h1 h3 h4 => hx ⟨k, h1, h3, h4⟩
  rw [h.miss t hm, h'.miss t hm]
end
section
variable {P : Program} {NG : Nat} {GW : World → Prop} {io : List Nat} {w0 : World} {pd0 : Nat → Nat → Prop} {C : Cx} {R : Type} {K : Env → Option R} {r : R} {Q : Exit → Act → World → Prop} {l : List Oper} {env0 : Env} {al : List Nat}
def Wr (l : List Oper) (o : Oper) (d : Nat) : Prop := o.dst = some d ∨ sdOf l o = some d
theorem wl_mem {o : Oper} {d : Nat} : d ∈ wl l o ↔ Wr l o d := by
 unfold wl Wr
 cases o.dst <;> cases sdOf l o <;> simp [eq_comm]
theorem wrIn_false {o : Oper} {ts : List Nat} (h : wrIn l o ts = false) {d : Nat} (hd : Wr l o d) : d ∉ ts := by
 unfold wrIn at h
 intro hm
 have := List.any_eq_false.1 h d (wl_mem.2 hd)
 simp only [Bool.not_eq_true, List.any_eq_false] at this
 have h2 := this d hm
 simp at h2
structure Ord (C : Cx) (l : List Oper) (n : Nat) : Prop where
 edge : ∀ (j : Nat) y, l[j]? = some y → ∀ e ∈ y.after.toList, Region.binds .any e = true → e.on < j
 quiet : ∀ (j : Nat) y, j < n → l[j]? = some y → quietB C l y = true ∨ ownMove l y = true
 dist : ∀ (i j : Nat) p o d, i < j → j < n → l[i]? = some p → l[j]? = some o → Wr l p d → Wr l o d → ((befores l []).getD j 0).testBit i = true
 apart : ∀ (i j : Nat) x y, i < j → j < n → l[i]? = some x → l[j]? = some y → ((befores l []).getD j 0).testBit i = false → (∀ d, Wr l x d → d ∉ y.looksAt l.toArray) ∧ (∀ d, Wr l y d → d ∉ x.looksAt l.toArray)
 solid : ∀ (i j : Nat), n ≤ j → j < l.length → i < j → ((befores l []).getD j 0).testBit i = true
 le : n ≤ l.length
theorem own_ne {o : Oper} (h : ownMove l o = true) {d : Nat} (h1 : o.dst = some d) : sdOf l o ≠ some d := by
 intro h2
 unfold ownMove at h
 rw [h1, h2] at h
 split at h
 ·rename_i t d' e1 e2 e3
  cases e1; cases e3
  simp at h
 ·cases h
theorem anyOrder_ord (h : anyOrder C l = true) : ∃ n, Ord C l n := by
 unfold anyOrder at h
 simp only [List.all_eq_true, List.mem_range] at h
 obtain ⟨hn1, hn2⟩ := quietN_spec (befores l []) l.length
 refine ⟨quietN (befores l []) l.length, ?_⟩
 have hj : ∀ (j : Nat) y, l[j]? = some y → (∀ e ∈ y.after.toList, Region.binds .any e = true → e.on < j) ∧ (quietN (befores l []) l.length ≤ j ∨ ((quietB C l y = true ∨ ownMove l y = true) ∧ ∀ i, i < j → ∀ x, l[i]? = some x → (((befores l []).getD j 0).testBit i = true ∨ (wrIn l x (wl l y) = false ∧ (wrIn l x (y.looksAt l.toArray) = false ∧ wrIn l y (x.looksAt l.toArray) = false))))) := by
  intro j y hy
  have := h j (List.getElem?_eq_some_iff.1 hy).1
  rw [hy] at this
  simp only [Bool.and_eq_true, List.all_eq_true, Bool.or_eq_true] at this
  refine ⟨fun e he hb => ?_, ?_⟩
  ·rcases this.1 e he with h1 | h1
   ·rw [hb] at h1; cases h1
   ·simpa [Nat.blt_eq] using h1
  ·rcases this.2 with h1 | ⟨h1, h2⟩
   ·exact .inl (by simpa using h1)
   ·refine .inr ⟨h1, fun i hi x hx => ?_⟩
    have h3 := h2 i (by simpa using hi)
    rw [hx] at h3
    simp only [Bool.and_eq_true, Bool.or_eq_true, Bool.not_eq_true'] at h3
    exact h3
 refine ⟨fun j y hy => (hj j y hy).1, ?_, ?_, ?_, ?_, hn1⟩
 ·intro j y hlt hy
  rcases (hj j y hy).2 with h1 | h1
  ·omega
  ·exact h1.1
 ·intro i j p o d hij hjn hp ho hd hd'
  rcases (hj j o ho).2 with h1 | h1
  ·omega
  ·rcases h1.2 i hij p hp with h2 | h2
   ·exact h2
   ·exact absurd (wl_mem.2 hd') (wrIn_false h2.1 hd)
 ·intro i j x y hij hjn hx hy hb
  rcases (hj j y hy).2 with h1 | h1
  ·omega
  ·rcases h1.2 i hij x hx with h2 | h2
   ·rw [hb] at h2; cases h2
   ·exact ⟨fun d hd => wrIn_false h2.2.1 hd, fun d hd => wrIn_false h2.2.2 hd⟩
 ·intro i j hnj hjl hij
  rw [hn2 j hnj hjl, Nat.testBit_two_pow_sub_one]
  simpa using hij
def DD (l : List Oper) (sv : Nat → Option (Nat × VV)) (j : Nat) : Option Nat := match j % 2 with
 | 0 => (sv (j / 2)).map Prod.fst
 | _ => (l[j / 2]?).bind (·.dst)
def VD (vals : Nat → VV) (sv : Nat → Option (Nat × VV)) (j : Nat) : VV := match j % 2 with
 | 0 => ((sv (j / 2)).map Prod.snd).getD .un
 | _ => vals (j / 2)
theorem DD_even {sv : Nat → Option (Nat × VV)} {k : Nat} : DD l sv (2 * k) = (sv k).map Prod.fst := by
 unfold DD
 rw [show 2 * k % 2 = 0 by omega, show 2 * k / 2 = k by omega]
 rfl
theorem DD_odd {sv : Nat → Option (Nat × VV)} {k : Nat} : DD l sv (2 * k + 1) = (l[k]?).bind (·.dst) := by
 unfold DD
 rw [show (2 * k + 1) % 2 = 1 by omega, show (2 * k + 1) / 2 = k by omega]
 rfl
theorem VD_even {vals : Nat → VV} {sv : Nat → Option (Nat × VV)} {k : Nat} : VD vals sv (2 * k) = ((sv k).map Prod.snd).getD .un := by
 unfold VD
 rw [show 2 * k % 2 = 0 by omega, show 2 * k / 2 = k by omega]
 rfl
theorem VD_odd {vals : Nat → VV} {sv : Nat → Option (Nat × VV)} {k : Nat} : VD vals sv (2 * k + 1) = vals k := by
 unfold VD
 rw [show (2 * k + 1) % 2 = 1 by omega, show (2 * k + 1) / 2 = k by omega]
 rfl
theorem put_put2 {sv : Option (Nat × VV)} {env : Env} : put (sv.map Prod.fst) ((sv.map Prod.snd).getD .un) env = put2 sv env := by
 cases sv <;> rfl
def chO (l : List Oper) (vals : Nat → VV) (sv : Nat → Option (Nat × VV)) (env0 : Env) (k : Nat) : Env := chainE (DD l sv) (VD vals sv) env0 (2 * k)
theorem chO_succ {vals : Nat → VV} {sv : Nat → Option (Nat × VV)} {k : Nat} {o : Oper} (ho : l[k]? = some o) : chO l vals sv env0 (k + 1) = put o.dst (vals k) (put2 (sv k) (chO l vals sv env0 k)) := by
 unfold chO
 rw [show 2 * (k + 1) = 2 * k + 1 + 1 by omega, chainE, chainE, DD_odd, VD_odd, DD_even, VD_even, put_put2, ho]
 rfl
theorem chO_congr {vals vals' : Nat → VV} {sv sv' : Nat → Option (Nat × VV)} {k : Nat} (h : ∀ j, j < k → vals j = vals' j) (g : ∀ j, j < k → sv j = sv' j) : chO l vals sv env0 k = chO l vals' sv' env0 k := by
 unfold chO
 refine chainE_congr _ (fun j hj => ?_) (fun j hj => ?_)
 ·unfold VD
  rw [h (j / 2) (by omega), g (j / 2) (by omega)]
 ·unfold DD
  rw [g (j / 2) (by omega)]
theorem canon (hti : TIok P C.ti) (gws : ∀ w w', GW w → Below NG w w' → GW w') (hC : CallOk P NG GW C.call) {n : Nat} (hO : Ord C l n) (hal : ∀ (k : Nat) o t d, l[k]? = some o → o.op = .alloc t → o.dst = some d → d ∈ allocs l) (hsub : ∀ d ∈ allocs l, d ∈ al) (h : vops C l (some al) l env0 K = some r) :
  ∀ m, m ≤ n → ∃ (vals : Nat → VV) (sv : Nat → Option (Nat × VV)), vops C l (some al) (l.drop m) (chO l vals sv env0 m) K = some r ∧ (∀ k, m ≤ k → sv k = none) ∧ ∀ (k : Nat) o, k < m → l[k]? = some o → QStep P NG GW io w0 pd0 Q l al k o (chO l vals sv env0 k) (vals k) (sv k)
 | 0, _ => ⟨fun _ => .un, fun _ => none, h, fun _ _ => rfl, fun k o hk => absurd hk (Nat.not_lt_zero _)⟩
 | m + 1, hm => by
  obtain ⟨vals, sv, h1, h0, h2⟩ := canon hti gws hC hO hal hsub h m (by omega)
  have hl := hO.le
  have ho : l[m]? = some (l[m]'(by omega)) := List.getElem?_eq_getElem (by omega)
  rw [List.drop_eq_getElem_cons (by omega)] at h1
  obtain ⟨v, s, h3, h4⟩ : ∃ v s, vops C l (some al) (l.drop (m + 1)) (put (l[m]'(by omega)).dst v (put2 s (chO l vals sv env0 m))) K = some r ∧ QStep P NG GW io w0 pd0 Q l al m (l[m]'(by omega)) (chO l vals sv env0 m) v s := by
   rcases hO.quiet m _ (by omega) ho with hq | hq
   ·exact quiet_step (io := io) (w0 := w0) (pd0 := pd0) (Q := Q) hti gws hC hq (fun d t h5 h6 => hal m _ t d ho h5 h6) hsub ho h1
   ·exact own_step (io := io) (w0 := w0) (pd0 := pd0) (Q := Q) hti gws hC hq ho h1
  let vals' : Nat → VV := fun k => if k = m then v else vals k
  let sv' : Nat → Option (Nat × VV) := fun k => if k = m then s else sv k
  have hc : ∀ k, k ≤ m → chO l vals sv env0 k = chO l vals' sv' env0 k := fun k hk => chO_congr (fun j hj => by simp only [vals']; rw [if_neg (by omega)]) (fun j hj => by simp only [sv']; rw [if_neg (by omega)])
  refine ⟨vals', sv', ?_, fun k hk => ?_, fun k o hk hok => ?_⟩
  ·rw [chO_succ ho, ← hc m (Nat.le_refl _)]
   simp only [vals', sv', if_pos]
   exact h3
  ·simp only [sv']
   rw [if_neg (by omega)]
   exact h0 k (by omega)
  ·by_cases e : k = m
   ·subst e
    rw [ho] at hok; cases hok
    rw [← hc k (Nat.le_refl _)]
    simp only [vals', sv', if_pos]
    exact h4
   ·rw [← hc k (by omega)]
    simp only [vals', sv', if_neg e]
    exact h2 k o (by omega) hok
end
def unl : List Bool → Nat
 | [] => 0
 | true :: r => unl r
 | false :: r => unl r + 1
theorem unl_set : ∀ (l : List Bool) (i : Nat), l[i]? = some false → unl (l.set i true) + 1 = unl l
 | [], i, h => by simp at h
 | true :: r, 0, h => by simp at h
 | false :: r, 0, h => rfl
 | true :: r, i + 1, h => by rw [List.set_cons_succ]; simp only [unl]; exact unl_set r i (by simpa using h)
 | false :: r, i + 1, h => by rw [List.set_cons_succ]; simp only [unl]; rw [unl_set r i (by simpa using h)]
theorem unl_zero : ∀ (l : List Bool), unl l = 0 → ∀ i : Nat, l[i]? ≠ some false
 | [], h, i => by simp
 | true :: r, h, 0 => by simp
 | false :: r, h, i => by simp [unl] at h
 | true :: r, h, i + 1 => by rw [List.getElem?_cons_succ]; exact unl_zero r (by simpa only [unl] using h) i
theorem unl_rep : ∀ n, unl (List.replicate n false) = n
 | 0 => rfl
 | n + 1 => by rw [List.replicate_succ, unl, unl_rep n]
theorem nat_eq {a b : Nat} (h : ¬ a < b) (k : ¬ b < a) : a = b := by omega
theorem listed_set {L : Array Bool} {i j : Nat} (hi : i < L.size) : (L.setIfInBounds i true).getD j false = true ↔ L.getD j false = true ∨ j = i := by
 simp only [Array.getD_eq_getD_getElem?, Array.getElem?_setIfInBounds]
 by_cases h : i = j
 ·subst h; simp [hi]
 ·rw [if_neg h]
  have : j ≠ i := fun e => h e.symm
  simp [this]
section
variable {P : Program} {NG : Nat} {GW : World → Prop} {io : List Nat} {w0 : World} {pd0 : Nat → Nat → Prop} {C : Cx} {R : Type} {K : Env → Option R} {r : R} {Q : Exit → Act → World → Prop} {env0 : Env} {ops : Array Oper} {n : Nat} {vals : Nat → VV} {sv : Nat → Option (Nat × VV)}
open Classical in
theorem QS.at {D : Nat → Option Nat} {S S' : Nat → Prop} {e e' : Env} (h : QS D vals env0 n S e) (h' : QS D vals env0 n S' e') {t : Nat} (hs : ∀ (k : Nat), k < n → D k = some t → (S k ↔ S' k)) : get e t = get e' t := by
 by_cases ht : t < env0.length
 ·by_cases hx : ∃ (k : Nat), k < n ∧ (D k = some t ∧ S k)
  ·obtain ⟨k, h1, ⟨h3, h4⟩, h5⟩ := exists_max n hx
   rw [h.hit k t h1 h3 h4 ht fun j a b c d => h5 j a b ⟨c, d⟩, h'.hit k t h1 h3 ((hs k h1 h3).1 h4) ht fun j a b c d => h5 j a b ⟨c, (hs j b c).2 d⟩]
  ·have hm : ∀ (k : Nat), k < n → D k = some t → ¬ S k := fun k h1 h3 h4 => hx ⟨k, h1, h3, h4⟩
   rw [h.miss t hm, h'.miss t fun k h1 h3 h4 => hm k h1 h3 ((hs k h1 h3).2 h4)]
 ·have hn : ∀ {e : Env}, e.length = env0.length → get e t = .un := fun he => nth_none (List.getElem?_eq_none (by omega))
  rw [hn h.len, hn h'.len]
theorem vops_step {dr : Option (List Nat)} (hti : TIok P C.ti) (gws : ∀ w w', GW w → Below NG w w' → GW w') (hC : CallOk P NG GW C.call) {G : Gh} {env : Env} {a : Act} {w : World} {i : Nat} {o : Oper} {rest : List Oper} {Nk : Act → World → Prop} (hi : ops[i]? = some o) (hs : Sim NG GW io w0 pd0 G env a w) (h : vops C ops.toList dr (o :: rest) env K = some r) (hN : ∀ G' env' a' w', Sim NG GW io w0 pd0 G' env' a' w' → vops C ops.toList dr rest env' K = some r → Nk a' w') : wpOp P ops Q i Nk a w := by
 have hnext : Nx NG GW io w0 pd0 (fun env' => vops C ops.toList dr rest env' K) r Nk := fun G' env' a' w' hs' h' => hN G' env' a' w' hs' h'
 unfold wpOp
 rw [hi]
 simp only
 rw [vops] at h
 split at h
 ·rename_i hg
  have hw : Region.wanted o (yielded ops a.tmps) = true := by simp [Region.wanted, hg]
  rw [if_pos hw]
  exact .inl (vop_sound hti gws hC hs hnext h)
 ·rename_i j want hg
  have hskip : ∀ (h2 : vput dr o.dst (.s undef) env (fun env' => vops C ops.toList dr rest env' K) = some r), Nk (a.put o.dst undef) w := fun h2 => hnext _ _ _ _ (hs.put o.dst fun d _ => VR.slot (VR.of_dr (.s _)) d) (vput_some h2)
  split at h
  ·rename_i b hb
   have hy := seen_ok hs hb
   rcases bite_some h with ⟨hbw, h⟩ | ⟨hbw, h⟩
   ·have hw : Region.wanted o (yielded ops a.tmps) = true := by simp only [Region.wanted, hg, hy]; simpa using hbw
    rw [if_pos hw]
    exact .inl (vop_sound hti gws hC hs hnext h)
   ·have hw : ¬ Region.wanted o (yielded ops a.tmps) = true := by simp only [Region.wanted, hg, hy]; simpa using hbw
    rw [if_neg hw]
    exact hskip h
  ·rename_i hb
   have hy := seen_ok hs hb
   have hw : ¬ Region.wanted o (yielded ops a.tmps) = true := by simp [Region.wanted, hg, hy]
   rw [if_neg hw]
   exact hskip h
  ·cases h
inductive AnySt (C : Cx) (ops : Array Oper) (K : Env → Option R) (r : R) (vals : Nat → VV) (sv : Nat → Option (Nat × VV)) (env0 : Env) (n : Nat) (L : Array Bool) (env : Env) : Prop where
 | quiet (h0 : ∀ j, n ≤ j → L.getD j false = false) (h1 : Down ops.toList L) (h2 : QS (DD ops.toList sv) (VD vals sv) env0 (2 * n) (fun j => L.getD (j / 2) false = true) env)
 | last (j : Nat) (h0 : ∀ i, L.getD i false = true ↔ i < j) (hn : n ≤ j) (hj : j ≤ ops.size) (h1 : vops C ops.toList (some (allocs ops.toList ++ lowns ops.toList)) (ops.toList.drop j) env K = some r)
theorem any_ok (hti : TIok P C.ti) (gws : ∀ w w', GW w → Below NG w w' → GW w') (hC : CallOk P NG GW C.call) (hO : Ord C ops.toList n)
  (hal0 : (allocs ops.toList).any (fun d => env0.any (refersD d)) = false)
  (hch : vops C ops.toList (some (allocs ops.toList ++ lowns ops.toList)) (ops.toList.drop n) (chO ops.toList vals sv env0 n) K = some r)
  (hq : ∀ (k : Nat) o, k < n → ops.toList[k]? = some o → QStep P NG GW io w0 pd0 Q ops.toList (allocs ops.toList ++ lowns ops.toList) k o (chO ops.toList vals sv env0 k) (vals k) (sv k)) (hsv : ∀ k, n ≤ k → sv k = none)
  (hn : Nx NG GW io w0 pd0 K r (Q .normal)) :
  ∀ (fuel : Nat) (L : Array Bool) (G : Gh) (env : Env) (a : Act) (w : World), L.size = ops.size → unl L.toList ≤ fuel → AnySt C ops K r vals sv env0 n L env → Sim NG GW io w0 pd0 G env a w → wpAny P .any ops Q fuel L a w := by
 have wr : ∀ (j : Nat) t, DD ops.toList sv j = some t → j < 2 * n → ∃ o, ops.toList[j / 2]? = some o ∧ Wr ops.toList o t ∧ (j % 2 = 0 → sdOf ops.toList o = some t ∧ ((plain (get (chO ops.toList vals sv env0 (j / 2)) t) = true ∧ ∃ xs, VD vals sv j = .sl xs) ∨ ((∃ cs, VD vals sv j = .bx cs) ∧ t ∈ lowns ops.toList))) ∧ (j % 2 = 1 → o.dst = some t) := by
  intro j t hj hjn
  have hlt : j / 2 < ops.toList.length := by have := hO.le; omega
  have ho : ops.toList[j / 2]? = some (ops.toList[j / 2]'hlt) := List.getElem?_eq_getElem hlt
  refine ⟨_, ho, ?_⟩
  rcases Nat.mod_two_eq_zero_or_one j with h2 | h2
  ·have e : j = 2 * (j / 2) := by omega
   rw [e, DD_even] at hj
   cases hs : sv (j / 2) with
   | none => rw [hs] at hj; cases hj
   | some p =>
    rw [hs] at hj
    obtain ⟨t', s'⟩ := p
    cases hj
    obtain ⟨h3, h4⟩ := (hq (j / 2) _ (by omega) ho).2.2.2.2.1 _ s' hs
    refine ⟨.inr h3, fun _ => ⟨h3, ?_⟩, fun h => by omega⟩
    rw [e, VD_even, hs, ← e]
    exact h4.imp id fun h => ⟨h.2.1, h.2.2⟩
  ·have e : j = 2 * (j / 2) + 1 := by omega
   rw [e, DD_odd, ho] at hj
   exact ⟨.inl hj, fun h => by omega, fun _ => hj⟩
 have full : ∀ (L : Array Bool) (G : Gh) (env : Env) (a : Act) (w : World), (∀ i, i < ops.size → L.getD i false = true) → AnySt C ops K r vals sv env0 n L env → Sim NG GW io w0 pd0 G env a w → Q .normal a w := by
  intro L G env a w hf hst hs
  have hl := hO.le
  cases hst with
  | quiet h0 h1 h2 =>
   have hnn : ops.size ≤ n := Nat.le_of_not_lt fun hlt => by have := hf n hlt; rw [h0 n (Nat.le_refl _)] at this; cases this
   have he : env = chO ops.toList vals sv env0 n := h2.uniq ((QS.chain (2 * n) (Nat.le_refl _)).congr fun k hk => ⟨fun _ => hf (k / 2) (by simp at hl; omega), fun _ => hk⟩)
   rw [List.drop_eq_nil_of_le (by simpa using hnn), ← he] at hch
   exact hn _ _ _ _ hs hch
  | last j h0 hnj hj h1 =>
   have : ops.size ≤ j := Nat.le_of_not_lt fun hlt => by have := (h0 j).1 (hf j hlt); omega
   rw [List.drop_eq_nil_of_le (by simpa using this)] at h1
   exact hn _ _ _ _ hs h1
 have noready : ∀ (L : Array Bool), L.size = ops.size → Region.ready .any ops L = [] → ∀ i, i < ops.size → L.getD i false = true := by
  intro L hsz hr i
  induction i using Nat.strongRecOn with
  | _ i ih =>
   intro hi
   by_cases hL : L.getD i false = true
   ·exact hL
   ·exfalso
    have ho : ops.toList[i]? = some (ops.toList[i]'(by simpa using hi)) := List.getElem?_eq_getElem (by simpa using hi)
    have hm : i ∈ Region.ready .any ops.toList.toArray L := ready_iff.2 ⟨_, ho, by
     simp only [Array.getD_eq_getD_getElem?] at hL ⊢
     rw [Array.getElem?_eq_getElem (by omega)] at hL ⊢
     simpa using hL, fun e he hb => by
      have := hO.edge i _ ho e he hb
      exact ih e.on this (by omega)⟩
    rw [Array.toArray_toList] at hm
    rw [hr] at hm; cases hm
 intro fuel
 induction fuel with
 | zero =>
  intro L G env a w hsz hu hst hs
  have hall : ∀ i, i < ops.size → L.getD i false = true := by
   intro i hi
   have := unl_zero L.toList (by omega) i
   rw [Array.getElem?_toList, Array.getElem?_eq_getElem (by omega)] at this
   rw [Array.getD_eq_getD_getElem?, Array.getElem?_eq_getElem (by omega)]
   simpa using this
  refine ⟨?_, full L G env a w hall hst hs⟩
  refine List.eq_nil_iff_forall_not_mem.2 fun i hi => ?_
  rw [← Array.toArray_toList (xs := ops)] at hi
  obtain ⟨o, ho, h1, h2⟩ := ready_iff.1 hi
  have hlt : i < ops.size := by simpa using (List.getElem?_eq_some_iff.1 ho).1
  have := hall i hlt
  rw [Array.getD_eq_getD_getElem?, Array.getElem?_eq_getElem (by omega)] at this h1
  simp at this h1
  rw [this] at h1; cases h1
 | succ fuel ih =>
  intro L G env a w hsz hu hst hs
  refine ⟨fun hr => full L G env a w (noready L hsz hr) hst hs, fun i hi => ?_⟩
  rw [← Array.toArray_toList (xs := ops)] at hi
  obtain ⟨o, ho, hLi, hre⟩ := ready_iff.1 hi
  have hlt : i < ops.size := by simpa using (List.getElem?_eq_some_iff.1 ho).1
  have hLi' : L.getD i false = false := by
   rw [Array.getD_eq_getD_getElem?, Array.getElem?_eq_getElem (by omega)] at hLi ⊢
   simpa using hLi
  have hget : L.toList[i]? = some false := by
   rw [Array.getD_eq_getD_getElem?, Array.getElem?_eq_getElem (by omega)] at hLi
   rw [Array.getElem?_toList, Array.getElem?_eq_getElem (by omega)]
   simpa using hLi
  have hoa : ops[i]? = some o := by rw [← ho]; simp
  have hsz' : (L.setIfInBounds i true).size = ops.size := by simpa using hsz
  have hu' : unl (L.setIfInBounds i true).toList ≤ fuel := by
   have := unl_set L.toList i hget
   rw [Array.toList_setIfInBounds]; omega
  have hset : ∀ j, (L.setIfInBounds i true).getD j false = true ↔ L.getD j false = true ∨ j = i := fun j => listed_set (by omega)
  have seq : ∀ (j : Nat), (∀ i, L.getD i false = true ↔ i < j) → n ≤ j → j ≤ ops.size → (∀ k, k < i → ((befores ops.toList []).getD i 0).testBit k = true) → Down ops.toList L → vops C ops.toList (some (allocs ops.toList ++ lowns ops.toList)) (ops.toList.drop j) env K = some r → wpOp P ops Q i (wpAny P .any ops Q fuel (L.setIfInBounds i true)) a w := by
   intro j h0 hnj hj hbs hd h1
   have hij : i = j := by
    have h3 : ¬ i < j := fun h => by have := (h0 i).2 h; rw [hLi'] at this; cases this
    have h4 : ¬ j < i := fun h => by
     have := before_listed hd i o ho hre j (hbs j h)
     have := (h0 j).1 this
     omega
    omega
   subst hij
   rw [List.drop_eq_getElem_cons (by simpa using hlt)] at h1
   have hoe : ops.toList[i]'(by simpa using hlt) = o := by
    have := List.getElem?_eq_getElem (l := ops.toList) (i := i) (by simpa using hlt)
    rw [ho] at this; exact (Option.some.inj this).symm
   rw [hoe] at h1
   refine vops_step hti gws hC hoa hs h1 fun G' env' a' w' hs' h' => ih _ G' env' a' w' hsz' hu' (.last (i + 1) (fun k => ?_) (by omega) (by omega) h') hs'
   rw [hset, h0]; omega
  cases hst with
  | quiet h0 hd0 h2 =>
   by_cases hin : i < n
   ·-- a quiet one
    have hQ := hq i o hin ho
    have hch2 := QS.chain (vals := VD vals sv) (D := DD ops.toList sv) (n := 2 * n) (env0 := env0) (2 * i) (by omega)
    have later : ∀ (k : Nat) p d, i < k → k < n → ops.toList[k]? = some p → Wr ops.toList p d → Wr ops.toList o d → ¬ L.getD k false = true := fun k p d hik hk hp h1 h3 h => by
     have := before_listed hd0 k p hp (hd0 k p hp h) i (hO.dist i k o p d hik hk ho hp h3 h1)
     rw [hLi'] at this; cases this
    have hag : Agree ops.toList (allocs ops.toList ++ lowns ops.toList) o (chO ops.toList vals sv env0 i) env := by
     refine ⟨fun t ht => ?_, fun t cs hta hb => ?_, fun d hd' => ?_, fun d hda => ?_⟩
     ·refine h2.at hch2 fun j hj hd => ?_
      obtain ⟨p, hp, hpd, _, _⟩ := wr j t hd hj
      rcases Nat.lt_trichotomy (j / 2) i with hki | hki | hki
      ·refine ⟨fun _ => by omega, fun _ => ?_⟩
       cases hb : ((befores ops.toList []).getD i 0).testBit (j / 2)
       ·exact absurd (by simpa using ht) ((hO.apart (j / 2) i p o hki hin hp ho hb).1 t hpd)
       ·exact before_listed hd0 i o ho hre (j / 2) hb
      ·rw [hki]
       exact ⟨fun h => absurd h (by rw [hLi']; decide), fun h => by omega⟩
      ·refine ⟨fun h => ?_, fun h => by omega⟩
       exfalso
       cases hb : ((befores ops.toList []).getD (j / 2) 0).testBit i
       ·exact absurd (by simpa using ht) ((hO.apart i (j / 2) o p hki (by omega) ho hp hb).2 t hpd)
       ·have := before_listed hd0 (j / 2) p hp (hd0 (j / 2) p hp h) i hb
        rw [hLi'] at this; cases this
     ·by_cases hx : ∃ (j : Nat), j < 2 * n ∧ DD ops.toList sv j = some t
      ·have htl : t < env0.length := by
        refine Nat.lt_of_not_le fun hle => ?_
        rw [get, nth_none (List.getElem?_eq_none (by rw [show (chO ops.toList vals sv env0 i).length = env0.length from hch2.len]; exact hle))] at hb
        cases hb
       by_cases hki : ∃ (j : Nat), j < 2 * n ∧ (DD ops.toList sv j = some t ∧ j < 2 * i)
       ·obtain ⟨j, hj, ⟨hd, hji⟩, hmax⟩ := exists_max _ hki
        obtain ⟨p, hp, hpd, hev, hod⟩ := wr j t hd hj
        rw [chO, hch2.hit j t hj hd hji htl fun j' a b c d => hmax j' a b ⟨c, d⟩] at hb
        rcases Nat.mod_two_eq_zero_or_one j with h6 | h6
        ·rcases (hev h6).2 with ⟨_, xs, h7⟩ | ⟨_, h7⟩
         ·rw [h7] at hb; cases hb
         ·exact absurd (List.mem_append_right _ h7) hta
        ·have e : j = 2 * (j / 2) + 1 := by omega
         rw [e, VD_odd] at hb
         exact absurd ((hq (j / 2) p (by omega) hp).2.2.1 cs hb t (hod h6)) hta
       ·obtain ⟨j0, hj0, hd0'⟩ := hx
        obtain ⟨j, hjle, hd, hmin⟩ := exists_min (p := fun j => DD ops.toList sv j = some t) hd0'
        obtain ⟨p, hp, hpd, hev, hod⟩ := wr j t hd (by omega)
        have hge : ¬ j < 2 * i := fun h => hki ⟨j, by omega, hd, h⟩
        have hchk := QS.chain (D := DD ops.toList sv) (n := 2 * n) (vals := VD vals sv) (env0 := env0) (2 * (j / 2)) (by omega)
        have h5 : get (chO ops.toList vals sv env0 i) t = get env0 t := hch2.miss t fun j' hj' hd' h => hki ⟨j', hj', hd', h⟩
        have h6 : get (chO ops.toList vals sv env0 (j / 2)) t = get env0 t := hchk.miss t fun j' hj' hd' h => hmin j' (by omega) hd'
        have h8 : plain (get (chO ops.toList vals sv env0 (j / 2)) t) = true := by
         rcases Nat.mod_two_eq_zero_or_one j with h7 | h7
         ·rcases (hev h7).2 with h9 | ⟨_, h9⟩
          ·exact h9.1
          ·exact absurd (List.mem_append_right _ h9) hta
         ·exact (hq (j / 2) p (by omega) hp).1 t (hod h7)
        rw [h6, ← h5, hb] at h8
        cases h8
      ·have hm : ∀ (j : Nat), j < 2 * n → DD ops.toList sv j ≠ some t := fun j h1 h4 => hx ⟨j, h1, h4⟩
       rw [chO, hch2.miss t fun j h1 h4 => absurd h4 (hm j h1)] at hb
       rw [h2.miss t fun j h1 h4 => absurd h4 (hm j h1)]
       exact hb
     ·have := hQ.1 d hd'
      rw [h2.at hch2 (t := d) fun j hj hd => ?_]
      ·exact this
      ·obtain ⟨p, hp, hpd, _, _⟩ := wr j d hd hj
       rcases Nat.lt_trichotomy (j / 2) i with hki | hki | hki
       ·exact ⟨fun _ => by omega, fun _ => before_listed hd0 i o ho hre (j / 2) (hO.dist (j / 2) i p o d hki hin hp ho hpd (.inl hd'))⟩
       ·rw [hki]
        exact ⟨fun h => absurd h (by rw [hLi']; decide), fun h => by omega⟩
       ·exact ⟨fun h => absurd h (later (j / 2) p d hki (by omega) hp hpd (.inl hd')), fun h => by omega⟩
     ·refine List.any_eq_false.2 fun v hv => ?_
      obtain ⟨t, ht, rfl⟩ := List.getElem_of_mem hv
      have hgt : get env t = env[t] := nth_some (List.getElem?_eq_getElem ht)
      rw [← hgt]
      by_cases hx : ∃ (j : Nat), j < 2 * n ∧ (DD ops.toList sv j = some t ∧ L.getD (j / 2) false = true)
      ·obtain ⟨j, hj, ⟨hd, hs4⟩, hmax⟩ := exists_max _ hx
       obtain ⟨p, hp, hpd, hev, hod⟩ := wr j t hd hj
       rw [h2.hit j t hj hd hs4 (by rw [← h2.len]; exact ht) fun j' a b c d => hmax j' a b ⟨c, d⟩]
       rcases Nat.mod_two_eq_zero_or_one j with h6 | h6
       ·rcases (hev h6).2 with ⟨_, xs, h7⟩ | ⟨⟨cs, h7⟩, _⟩ <;> rw [h7] <;> simp [refersD, refers]
       ·have e : j = 2 * (j / 2) + 1 := by omega
        rw [e, VD_odd]
        have := (hq (j / 2) p (by omega) hp).2.1 d (List.mem_append_left _ hda) (by rw [hod h6]; simp)
        rw [this]; simp
      ·rw [h2.miss t fun j h1 h3 h5 => hx ⟨j, h1, h3, h5⟩]
       have h7 := List.any_eq_false.1 hal0 d hda
       have h7' : env0.any (refersD d) = false := by simpa using h7
       have ht0 : t < env0.length := by rw [← h2.len]; exact ht
       have := List.any_eq_false.1 h7' env0[t] (List.getElem_mem _)
       rw [get, nth_some (List.getElem?_eq_getElem ht0)]
       exact this
    have hw := hQ.2.2.2.2.2 env G a w hag hs (wpAny P .any ops Q fuel (L.setIfInBounds i true)) (fun G' a' w' hs' => ih _ G' _ a' w' hsz' hu' (.quiet ?_ ?_ ?_) hs')
    ·rwa [Array.toArray_toList] at hw
    ·intro j hj
     have : ¬ (L.setIfInBounds i true).getD j false = true := fun h => by
      rcases (hset j).1 h with h | h
      ·rw [h0 j hj] at h; cases h
      ·omega
     simpa using this
    ·intro j p hp hj e he hb
     rw [hset]
     rcases (hset j).1 hj with h | h
     ·exact .inl (hd0 j p hp h e he hb)
     ·subst h; rw [ho] at hp; cases hp
      exact .inl (hre e he hb)
    ·have e2 : 2 * i / 2 = i := by omega
     have st1 := h2.step (k := 2 * i) (by omega) (by rw [e2, hLi']; simp) (fun j d hij hj hd hd2 h => by
      obtain ⟨p, hp, hpd, _, _⟩ := wr j d hd hj
      obtain ⟨p2, hp2, hpd2, _, _⟩ := wr (2 * i) d hd2 (by omega)
      rw [e2, ho] at hp2; cases hp2
      by_cases hji : j / 2 = i
      ·rw [hji, hLi'] at h; cases h
      ·exact later (j / 2) p d (by omega) (by omega) hp hpd hpd2 h)
     rw [DD_even, VD_even, put_put2] at st1
     have e3 : (2 * i + 1) / 2 = i := by omega
     have st2 := st1.step (k := 2 * i + 1) (by omega) (fun h => by
      rcases h with h | h
      ·rw [e3, hLi'] at h; cases h
      ·omega) (fun j d hij hj hd hd2 h => by
      obtain ⟨p, hp, hpd, _, _⟩ := wr j d hd hj
      obtain ⟨p2, hp2, hpd2, _, _⟩ := wr (2 * i + 1) d hd2 (by omega)
      rw [e3, ho] at hp2; cases hp2
      rcases h with h | h
      ·exact later (j / 2) p d (by omega) (by omega) hp hpd hpd2 h
      ·omega)
     rw [DD_odd, VD_odd, ho] at st2
     refine st2.congr fun k hk => ?_
     rw [hset]
     constructor
     ·rintro ((h | h) | h)
      ·exact .inl h
      ·exact .inr (by omega)
      ·exact .inr (by omega)
     ·rintro (h | h)
      ·exact .inl (.inl h)
      ·rcases Nat.mod_two_eq_zero_or_one k with h6 | h6
       ·exact .inl (.inr (by omega))
       ·exact .inr (by omega)
   ·-- the first of the last ones
    have hsol := fun k (hk : k < i) => hO.solid k i (by omega) (by simpa using hlt) hk
    have hall : ∀ k, k < i → L.getD k false = true := fun k hk => before_listed hd0 i o ho hre k (hsol k hk)
    have hni : n = i := by
     refine nat_eq (fun h => ?_) (fun h => by omega)
     have := hall n h
     rw [h0 n (Nat.le_refl _)] at this; cases this
    have hle : ∀ k, L.getD k false = true ↔ k < n := fun k => ⟨fun h => Nat.lt_of_not_le fun hk => absurd h (by rw [h0 k hk]; decide), fun h => hall k (by omega)⟩
    have he : env = chO ops.toList vals sv env0 n := h2.uniq ((QS.chain (2 * n) (Nat.le_refl _)).congr fun k hk => ⟨fun _ => (hle (k / 2)).2 (by omega), fun _ => hk⟩)
    rw [← he] at hch
    exact seq n hle (Nat.le_refl _) (by simpa using hO.le) hsol hd0 hch
  | last j h0 hnj hj h1 =>
   have hd : Down ops.toList L := fun k p hp hk e he hb => by
    have h5 := (h0 k).1 hk
    have := hO.edge k p hp e he hb
    exact (h0 e.on).2 (by omega)
   have hge : n ≤ i := by
    have : ¬ i < j := fun h => by have := (h0 i).2 h; rw [hLi'] at this; cases this
    omega
   exact seq j h0 hnj hj (fun k hk => hO.solid k i hge (by simpa using hlt) hk) hd h1
theorem any_sound (hm : P.follows .mixedOrders = true) (hti : TIok P C.ti) (gws : ∀ w w', GW w → Below NG w w' → GW w') (hC : CallOk P NG GW C.call) : AnyOk P NG GW C := by
 intro R io w0 pd0 G env a w K r Q id ops hO hal hs h hn
 obtain ⟨n, hO⟩ := anyOrder_ord hO
 have hmem : ∀ (k : Nat) o t d, ops.toList[k]? = some o → o.op = .alloc t → o.dst = some d → d ∈ allocs ops.toList := by
  intro k o t d ho hop hd
  unfold allocs
  exact List.mem_filterMap.2 ⟨o, List.mem_of_getElem? ho, by rw [hop]; exact hd⟩
 obtain ⟨vals, sv, h1, h0, h2⟩ := canon (io := io) (w0 := w0) (pd0 := pd0) (Q := Q) hti gws hC hO hmem (fun d h => List.mem_append_left _ h) h n (Nat.le_refl _)
 refine wp_region_any hm (any_ok hti gws hC hO hal h1 h2 h0 hn ops.size _ G env a w.drew (by simp) ?_ (.quiet ?_ ?_ ?_) (hs.drew gws))
 ·rw [Array.toList_replicate, unl_rep]; exact Nat.le_refl _
 ·intro j hj
  simp only [Array.getD_eq_getD_getElem?, Array.getElem?_replicate]
  split <;> rfl
 ·intro j o ho hj
  simp only [Array.getD_eq_getD_getElem?, Array.getElem?_replicate] at hj
  split at hj <;> simp at hj
 ·refine ⟨rfl, fun k d hk hd hsk => ?_, fun _ _ => rfl⟩
  simp only [Array.getD_eq_getD_getElem?, Array.getElem?_replicate] at hsk
  split at hsk <;> simp at hsk
end
end Go.Proofs.YtieohddolkeegaaGreatDoor.VI

end
section
namespace Go.Proofs.YtieohddolkeegaaGreatDoor.VI
open Go Go.RowKit Go.Proofs.YtieohddolkeegaaGreatDoorW.PrintWords
set_option linter.unusedVariables false
set_option linter.unusedSimpArgs false
abbrev anyP : Nat → Nat → Prop := fun _ _ => True
structure KV {α : Type} (d : Kd α) (enc : α → List VV) : Prop where
 pos : 0 < d.sz
 len : ∀ x, (enc x).length = d.sz
 rel : ∀ {w x cs}, d.K w x cs → DRs anyP w (enc x) cs
theorem kv_scalar {α : Type} {mk : α → Value} {h1 : ∀ x, (mk x).oneCell' = true} : KV (Kd.scalar mk h1) (fun x => [.s (mk x)]) :=
 ⟨Nat.one_pos, fun _ => rfl, fun {w x cs} h => by cases h; exact .cons _ _ _ _ (.s _) .nil⟩
theorem kv_string : KV Kd.string (fun x => [VV.str x]) := kv_scalar (h1 := fun _ => rfl)
theorem kv_bool : KV Kd.bool (fun x => [VV.bool x]) := kv_scalar (h1 := fun _ => rfl)
theorem dr_row {α : Type} {d : Kd α} {enc : α → VV} (h : KV d (fun x => (enc x).cells)) {w : World} {A : Option Addr} {xs : List α} {c : Nat} (hc : xs.length ≤ c) (hr : Kd.C d w A xs.length xs) : DR anyP w (.sl (xs.map enc)) (.slice A xs.length c) := by
 obtain ⟨_, hm, hA⟩ := hr
 by_cases h0 : xs.length = 0
 ·obtain rfl := List.eq_nil_of_length_eq_zero h0
  exact .sl0 _ _
 obtain ⟨ad, rfl, hrow⟩ := hA (by omega)
 have hsp : ad.spot = none := by
  obtain ⟨cs, hl, _, hcell⟩ := hrow 0 _ (List.getElem?_eq_getElem (by omega))
  have hp := h.pos
  have h1 := hcell 0 _ (List.getElem?_eq_getElem (by omega))
  rw [Nat.zero_mul, Nat.zero_add] at h1
  have h2 : ad.add 0 = ad := by simp [Addr.add]
  rw [h2] at h1
  unfold World.cell? at h1
  split at h1
  ·cases hs : ad.spot with
   | none => rfl
   | some _ => rw [hs] at h1; simp at h1
  ·cases h1
 obtain ⟨g, off, sp⟩ := ad
 subst hsp
 have key : ∀ (ys : List α) (j0 : Nat), (∀ j p, ys[j]? = some p → ∃ c, c.length = d.sz ∧ d.K w p c ∧ ∀ i u, c[i]? = some u → w.cell? ((⟨g, off, none⟩ : Addr).add ((j0 + j) * d.sz + i)) = some u) → ∃ ms : List Value, DRs anyP w (ys.flatMap fun x => (enc x).cells) ms ∧ (∀ u ∈ ms, u.oneCell' = true) ∧ ∀ (k : Nat) u, ms[k]? = some u → w.cell? ⟨g, off + (j0 * d.sz + k), none⟩ = some u := by
  intro ys
  induction ys with
  | nil => intro j0 _; exact ⟨[], .nil, by simp, fun k u hk => by simp at hk⟩
  | cons y r ih =>
   intro j0 hy
   obtain ⟨c, hl, hK, hcell⟩ := hy 0 y rfl
   obtain ⟨ms, h1, h2, h3⟩ := ih (j0 + 1) fun j p hp => by
    obtain ⟨c', q1, q2, q3⟩ := hy (j + 1) p (by simpa using hp)
    refine ⟨c', q1, q2, fun i u hu => ?_⟩
    have := q3 i u hu
    rw [show j0 + (j + 1) = j0 + 1 + j by omega] at this
    exact this
   refine ⟨c ++ ms, by rw [List.flatMap_cons]; exact (h.rel hK).app h1, fun u hu => ?_, fun k u hu => ?_⟩
   ·rcases List.mem_append.1 hu with hu | hu
    ·exact d.K_one hK u hu
    ·exact h2 u hu
   ·by_cases hk : k < c.length
    ·rw [List.getElem?_append_left hk] at hu
     have := hcell k u hu
     rw [Nat.add_zero] at this
     have hadd : ∀ n, (⟨g, off, none⟩ : Addr).add n = ⟨g, off + n, none⟩ := fun n => by unfold Addr.add; split <;> simp_all
     rw [hadd] at this
     exact this
    ·rw [List.getElem?_append_right (by omega)] at hu
     have := h3 (k - c.length) u hu
     rw [show off + ((j0 + 1) * d.sz + (k - c.length)) = off + (j0 * d.sz + k) by rw [Nat.add_mul]; omega] at this
     exact this
 obtain ⟨ms, h1, h2, h3⟩ := key xs 0 (fun j p hp => by rw [Nat.zero_add]; exact hrow j p hp)
 have := DR.sl (pd := anyP) (w := w) (xs.map enc) g off c d.sz ms (by simpa using hc) (by simpa [maxLen] using hm) (by
   intro x hx
   obtain ⟨y, _, rfl⟩ := List.mem_map.1 hx
   exact h.len y) (by rw [List.flatMap_map]; exact h1) h2 fun k u hu => ⟨by have := h3 k u hu; rw [Nat.zero_mul, Nat.zero_add] at this; exact this, trivial⟩
 rw [List.length_map] at this
 exact this
theorem kv_slice {α : Type} {e : Nat} {d : Kd α} {enc : α → VV} (h : KV d (fun x => (enc x).cells)) : KV (Kd.slice e d) (fun xs => [.sl (xs.map enc)]) :=
 ⟨Nat.one_pos, fun _ => rfl, fun {w xs cs} hK => by
  obtain ⟨A, c, rfl, hl, hr⟩ := hK
  exact .cons _ _ _ _ (dr_row h hl hr) .nil⟩
theorem kv_pair {α β : Type} {a : Kd α} {b : Kd β} {ea : α → List VV} {eb : β → List VV} (h : KV a ea) (k : KV b eb) : KV (Kd.pair a b) (fun x => ea x.1 ++ eb x.2) :=
 ⟨by show 0 < a.sz + b.sz; have := h.pos; omega, fun x => by show (ea x.1 ++ eb x.2).length = a.sz + b.sz; rw [List.length_append, h.len, k.len], fun {w x cs} hK => by
  obtain ⟨c0, c1, rfl, h0, h1⟩ := hK
  exact (h.rel h0).app (k.rel h1)⟩
theorem kv_iso {α β : Type} {d : Kd α} {f : β → α} {ea : α → List VV} {eb : β → List VV} (h : KV d ea) (he : ∀ x, eb x = ea (f x)) : KV (Kd.iso d f) eb :=
 ⟨h.pos, fun x => by rw [he]; exact h.len _, fun {w x cs} hK => by rw [he]; exact h.rel hK⟩
section
variable {P : Program} {NG : Nat} {GW : World → Prop} {f : FuncId}
theorem dr_nbx {pd : Nat → Nat → Prop} {w : World} {v : VV} {m : Value} (h : DR pd w v m) (cs : List VV) : v ≠ .bx cs := by cases h <;> exact fun e => VV.noConfusion e
theorem dr_arg {H : Gh} {w : World} {v : VV} {m : Value} (h : DR H.pd w v m) : ArgR H w v m := by cases h <;> (show DR H.pd w _ _) <;> constructor <;> assumption
theorem CallOk1.calls {vs : List VV} {ms : List Value} {v : Value} {w : World} (h : CallOk1 P NG GW f vs (.s v, [])) (hgw : GW w) (hng : NG ≤ w.heap.size) (ha : DRs anyP w vs ms) : Calls P f ms.toArray w fun e w' => e = .returned v ∧ Below w.heap.size w w' := by
 have hnb : ∀ x ∈ vs, ∀ cs, x ≠ .bx cs := fun x hx cs => by
  obtain ⟨i, hi, rfl⟩ := List.getElem_of_mem hx
  obtain ⟨m, _, hd⟩ := ha.get (List.getElem?_eq_getElem hi)
  exact dr_nbx hd cs
 have hio := ioB_none vs ms hnb
 have := h.2 w ms ⟨anyP, anyP, fun _ => 0, fun _ => none, 0⟩ hgw hng ha.length (fun i x m hx hm => dr_arg (H := ⟨anyP, anyP, fun _ => 0, fun _ => none, 0⟩) (ha.at hx hm)) (by rw [hio]; exact List.nodup_nil) (by rw [hio]; simp) (by rw [hio]; simp) (fun _ _ h => h)
 refine this.mono fun e w' he => ?_
 obtain ⟨m, rfl, hfr, pd', _, hres, _⟩ := he
 have hd : DR pd' w' (.s v) m := hres
 cases hd
 exact ⟨rfl, hfr.os, hfr.tape, hfr.output, hfr.size, fun k hk => hfr.block k hk (by rw [hio]; simp)⟩
end
section
variable {P : Program} {NG : Nat} {GW : World → Prop} {f : FuncId}
end
def fixT (ti : TypeId → Option TI) (t : Option TypeId) (v : VV) : VV := match v with
 | .nl => (match t with
  | some t => (match ti t with
   | some i => (match i.k with
    | .slice e => (match ti e with
     | some ie => .ow e ie.sz []
     | none => .nl)
    | _ => .nl)
   | none => .nl)
  | none => .nl)
 | v => v
def partsT (ti : TypeId → Option TI) (env : Env) : List ResultVar → List TypeId → Option (List VV)
 | [], _ => some []
 | r :: rs, ts => match resv ti env r, partsT ti env rs ts.tail with
  | some v, some vs => some (fixT ti ts.head? v :: vs)
  | _, _ => none
def bodyT (C : Cx) (kp : Nat → Option (List Nat)) (fn : Func) (c : Code) (args : List VV) : Option (List VV) :=
 run C kp c 0 (start fn args) fun e env => match e with
  | .normal => partsT C.ti env fn.results.toList fn.resultTypes.toList
  | .ret => partsT C.ti env fn.results.toList fn.resultTypes.toList
  | _ => none
section
variable {P : Program} {NG : Nat} {GW : World → Prop} {io : List Nat} {w0 : World} {pd0 : Nat → Nat → Prop} {G : Gh} {env : Env} {a : Act} {w : World} {ti : TypeId → Option TI}
inductive ResRs (B : Nat) (pd : Nat → Nat → Prop) (w : World) : List VV → List Value → Prop where
 | nil : ResRs B pd w [] []
 | cons (v m vs ms) : ResR B pd w v m → ResRs B pd w vs ms → ResRs B pd w (v :: vs) (m :: ms)
theorem ResRs.length {B : Nat} {pd : Nat → Nat → Prop} : ∀ {vs : List VV} {ms : List Value}, ResRs B pd w vs ms → vs.length = ms.length
 | _, _, .nil => rfl
 | _, _, .cons _ _ _ _ _ h => by rw [List.length_cons, List.length_cons, h.length]
theorem fixT_ok {B : Nat} {pd : Nat → Nat → Prop} {t : Option TypeId} {v : VV} {m : Value} (h : ResR B pd w v m) : ResR B pd w (fixT ti t v) m := by
 cases v <;> first
  | exact h
  | skip
 have hm : m = .slice none 0 0 := h
 subst hm
 unfold fixT
 simp only
 repeat' split
 all_goals first
  | rfl
  | exact ⟨[], World.ownsRow_nil w _ _ _, .nil, fun x h => (by cases h), fun u h => (by cases h), Nat.zero_le _, fun g h => (by simp [Value.ownBlock] at h)⟩
theorem partsT_ok (hti : TIok P ti) (hs : Sim NG GW io w0 pd0 G env a w) : ∀ (rs : List ResultVar) (ts : List TypeId) (vs : List VV), partsT ti env rs ts = some vs →
  rs.length = vs.length ∧ ∃ ms : List Value, (rs.mapM (rvSem a.tmps)).run P w = .ok ms w ∧ ResRs w0.heap.size (endPd G env) w vs ms
 | [], ts, vs, h => by simp [partsT] at h; subst h; exact ⟨rfl, [], rfl, .nil⟩
 | r :: rs, ts, vs, h => by
  simp only [partsT] at h
  split at h
  case h_2 => cases h
  rename_i v vs' hv hvs
  cases h
  obtain ⟨m, h1, h2⟩ := resv_ok (P := P) hti hs hv
  obtain ⟨hl, ms, h3, h4⟩ := partsT_ok hti hs rs ts.tail vs' hvs
  refine ⟨by simp [hl], m :: ms, ?_, .cons _ _ _ _ (fixT_ok h2) h4⟩
  rw [List.mapM_cons]
  simp only [Sem.run_bind]
  rw [h1]
  simp only [Result.andThen_ok]
  rw [h3]
  rfl
theorem callT_ok (hm' : P.follows .mixedOrders = true) (hti : TIok P ti) (gws : ∀ w w', GW w → Below NG w w' → GW w') {C : Cx} (hCt : C.ti = ti) (hC : CallOk P NG GW C.call) {f : FuncId} {fn : Func} {c : Code} {kp : Nat → Option (List Nat)} {vs : List VV} {ms : List Value} {rs : List VV}
  (hf : P.funcs[f]? = some fn) (hb : fn.body = some c) (hbx : ∀ v ∈ vs, ∀ cs, v ≠ .bx cs) (hr : fn.results.size ≠ 1) (h : bodyT C kp fn c vs = some rs) (hgw : GW w) (hng : NG ≤ w.heap.size) (ha : DRs anyP w vs ms) :
  Calls P f ms.toArray w fun e w' => ∃ ls pd', e = .returned (.tuple ls.toArray) ∧ ResRs w.heap.size pd' w' rs ls ∧ Below w.heap.size w w' := by
 subst hCt
 let G0 : Gh := ⟨anyP, anyP, fun _ => 0, fun _ => none, w.heap.size⟩
 have hl : vs.length = ms.length := ha.length
 have hlen : (start fn vs).length = (ms.toArray ++ Array.replicate (fn.ntmps - ms.toArray.size) undef).size := by
  simp [start, hl]
 have hs0 : Sim NG GW [] w anyP G0 (start fn vs) { tmps := ms.toArray ++ Array.replicate (fn.ntmps - ms.toArray.size) undef, defers := [] } w := by
  refine { size := hlen, slot := ?_, df := rfl, fr := Fr.refl _ _ _, gw := hgw, ng := hng, ngio := (by simp), own := (fun g p h => by cases h), ownp := (fun g k h => absurd rfl h), dv := (fun _ _ h => h), B := rfl, old := (fun g k _ h => h) }
  intro t v u hv hu
  by_cases ht : t < vs.length
  ·rw [start, List.getElem?_append_left ht] at hv
   rw [Array.getElem?_append_left (by simpa [← hl] using ht)] at hu
   have hA := dr_arg (H := ⟨anyP, anyP, fun _ => 0, fun _ => none, 0⟩) (ha.at hv (by simpa using hu))
   cases v <;> first
    | exact absurd rfl (hbx _ (List.mem_of_getElem? hv) _) | exact hA.elim | exact hA
    | skip
   obtain ⟨us, e1, e2, e3⟩ := hA
   refine ⟨us, e1, e2, fun i x y hx hy => ?_⟩
   obtain ⟨cs, rfl, hV⟩ := e3 i x y hx hy
   exact hV
  ·rw [start, List.getElem?_append_right (by omega)] at hv
   have := List.eq_of_mem_replicate (List.mem_of_getElem? hv)
   subst this
   exact SlotR.un
 refine calls_of_wp hf hb (run_sound (r := rs) (C := C) hti gws hC (any_sound hm' hti gws hC) kp c 0 G0 _ _ w _ _ hs0 h fun e G' env' a' w' hs' h' => ?_)
 have key : partsT C.ti env' fn.results.toList fn.resultTypes.toList = some rs → a'.defers = [] ∧ ∃ v, (results fn a'.tmps).run P w' = .ok v w' ∧ ∃ ls pd', (Ending.returned v) = .returned (.tuple ls.toArray) ∧ ResRs w.heap.size pd' w' rs ls ∧ Below w.heap.size w w' := by
  intro hq
  obtain ⟨h1, ls, h2, h3⟩ := partsT_ok (P := P) hti hs' _ _ rs hq
  have := results_run (P := P) (w := w') fn a'.tmps h2
  have hl1 : ls.length = rs.length := h3.length.symm
  have hne : ls.length ≠ 1 := by rw [hl1, ← h1]; simpa using hr
  rw [dif_neg hne] at this
  have fr := hs'.fr
  exact ⟨hs'.df, _, this, ls, _, rfl, h3, fr.os, fr.tape, fr.output, fr.size, fun k hk => fr.block k hk (by simp)⟩
 cases e with
 | normal => exact key h'
 | ret => exact key h'
 | _ => cases h'
theorem resR_row {α : Type} {enc : α → Value} {h1 : ∀ x, (enc x).oneCell' = true} {e : Nat} {xs : List α} {B : Nat} {pd : Nat → Nat → Prop} {m : Value} (h : ResR B pd w (.ow e 1 (xs.map fun x => .s (enc x))) m) : Kd.R (Kd.scalar enc h1) e w B (fun _ => True) m xs := by
 obtain ⟨us, ho, hr, hz, hu, hl, hg⟩ := h
 have e2 : (xs.map fun x => VV.s (enc x)).flatMap VV.cells = (xs.map enc).map VV.s := by
  clear ho hr hz hu hl hg
  induction xs with
  | nil => rfl
  | cons x xs ih => rw [List.map_cons, List.flatMap_cons, ih]; rfl
 rw [e2] at hr
 obtain rfl := drs_s _ hr
 rw [List.length_map] at ho
 exact Kd.R_of_own ho (fun _ _ => trivial)
theorem resR_s {v : Value} {B : Nat} {pd : Nat → Nat → Prop} {m : Value} (h : ResR B pd w (.s v) m) : m = v := by
 have h' : DR pd w (.s v) m := h
 cases h'
 rfl
end
end Go.Proofs.YtieohddolkeegaaGreatDoor.VI

end
section
namespace Go.Proofs.YtieohddolkeegaaGreatDoor.VI
open Go
set_option linter.unusedSimpArgs false
set_option linter.unusedVariables false
def Im {α β : Type} (e : α → β) (x : Option α) (y : Option β) : Prop := ∀ r, x = some r → y = some (e r)
section
variable {α β γ δ : Type} {e : α → β} {x : Option α} {y z : Option β}
theorem Im.none : Im e .none y := fun _ h => by cases h
theorem Im.ret {r : α} (h : y = some (e r)) : Im e (some r) y := fun s hs => by cases hs; exact h
theorem Im.sbind {a : γ} {f : γ → Option α} (h : Im e (f a) y) : Im e ((some a).bind f) y := h
theorem Im.ite {c : Prop} [Decidable c] {a b : Option α} (ht : c → Im e a y) (hf : ¬ c → Im e b y) : Im e (if c then a else b) y := by
 by_cases h : c
 ·rw [if_pos h]; exact ht h
 ·rw [if_neg h]; exact hf h
theorem Im.bite_t {b : Bool} (hb : b = true) (h : Im e x y) : Im e x (bite b y z) := by subst hb; exact h
theorem Im.bite_f {b : Bool} (hb : b = false) (h : Im e x z) : Im e x (bite b y z) := by subst hb; exact h
theorem Im.must {b : Bool} (hb : b = true) (h : Im e x y) : Im e x (VI.must b y) := by subst hb; exact h
theorem Im.bind {e' : γ → δ} {u : Option γ} {v : Option δ} {f : γ → Option α} {g : δ → Option β} (h : Im e' u v) (k : ∀ a, u = some a → Im e (f a) (g (e' a))) : Im e (u.bind f) (obind v g) := by
 intro r hr
 obtain ⟨a, ha, hr⟩ := Option.bind_eq_some_iff.1 hr
 rw [h a ha]
 exact k a ha r hr
end
end Go.Proofs.YtieohddolkeegaaGreatDoor.VI

end
section
namespace Go.Proofs.YtieohddolkeegaaGreatDoor.VI
open Go Go.RowKit Go.Proofs.YtieohddolkeegaaGreatDoorW.PrintWords
set_option linter.unusedVariables false
set_option linter.unusedSimpArgs false
theorem frc1_eq' {α : Type} (v : VV) (k : VV → α) : frc1 v k = k v := by cases v <;> rfl
theorem frcL_eq' {α : Type} : ∀ (l : List VV) (k : List VV → α), frcL l k = k l
 | [], _ => rfl
 | v :: r, k => by rw [frcL, frc1_eq', frcL_eq' r]
theorem clr_clr : ∀ (l : List Nat) (env : Env) (i : Nat), clr l i (clr l i env) = clr l i env
 | l, [], i => rfl
 | l, v :: r, i => by
  simp only [clr]
  rw [clr_clr l r (i + 1)]
  split <;> rfl
theorem clear_clear (l : Option (List Nat)) (env : Env) : clear l (clear l env) = clear l env := by
 cases l with
 | none => rfl
 | some l => exact clr_clr l env 0
section
variable {α β γ δ : Type} {e : α → β} {x : Option α} {y z : Option β}
theorem iter_clear {l : Option (List Nat)} {g : Env → (Exit → Env → Option β) → Option β} {K : Exit → Env → Option β} : ∀ {M : Nat} {env : Env}, iter (fun env' K' => clearK l env' fun e => g e K') M env K = iter (fun env' K' => clearK l env' fun e => g e K') M (clear l env) K
 | 0, _ => rfl
 | M + 1, env => by simp only [iter, clearK, frcL_eq', clear_clear]
theorem Im.loop {σ : Type} {l : Option (List Nat)} {g : Env → (Exit → Env → Option β) → Option β} {K : Exit → Env → Option β} (S : σ → Env) (L : Nat → σ → Option α) (k0 : Nat) (h0 : ∀ s, L 0 s = Option.none)
  (hs : ∀ k M s, k + 1 ≤ k0 → k ≤ M → (∀ k' s' env, k' ≤ k → clear l env = S s' → Im e (L k' s') (iter (fun env' K' => clearK l env' fun e => g e K') M env K)) → Im e (L (k + 1) s) (iter (fun env' K' => clearK l env' fun e => g e K') (M + 1) (S s) K)) :
  ∀ k M s env, k ≤ k0 → k ≤ M → clear l env = S s → Im e (L k s) (iter (fun env' K' => clearK l env' fun e => g e K') M env K) := by
 intro k
 induction k using Nat.strongRecOn with
 | _ k IH =>
  intro M s env hk hM hc
  cases k with
  | zero => rw [h0]; exact Im.none
  | succ k =>
   obtain ⟨M, rfl⟩ : ∃ M', M = M' + 1 := ⟨M - 1, by omega⟩
   rw [iter_clear, hc]
   exact hs k M s hk (by omega) fun k' s' env' hk' hc' => IH k' (by omega) M s' env' (by omega) (by omega) hc'
theorem Im.nat (F : Nat → Option α) (k : Nat) (h0 : F 0 = Option.none) (hs : ∀ k', k = k' + 1 → Im e (F (k' + 1)) y) : Im e (F k) y := by
 cases k with
 | zero => rw [h0]; exact Im.none
 | succ k => exact hs k rfl
theorem Im.vget {τ : Type} {l : List τ} {enc : τ → VV} {i : Int} {f : VV → Option β} (d : τ) (h0 : 0 ≤ i) (h1 : i < (l.length : Int)) (h : Im e x (f (enc (rdOf d l i)))) : Im e x (vget (l.map enc) i f) := by
 unfold VI.vget
 have hl : i.toNat < l.length := by omega
 rw [List.getElem?_map, List.getElem?_eq_getElem hl]
 simp only [Option.map_some]
 unfold rdOf at h
 rw [List.getD_eq_getElem?_getD, List.getElem?_eq_getElem hl] at h
 exact h
theorem Im.anyo {C : Cx} {l : List Oper} (h : anyOrder C l = true) (k : Im e x y) : Im e x (bite (anyOrder C l) y z) := Im.bite_t h k
theorem Im.fin {b : β} {r : α} (h : b = e r) : Im e (some r) (some b) := Im.ret (congrArg some h)
theorem Im.call {e' : γ → VV × List VV} {u : Option γ} {fn : List VV → Option (VV × List VV)} {us bs : List VV} {f : γ → Option α} {g : VV × List VV → Option β} (h : Im e' u (fn bs)) (ha : us = bs) (k : ∀ a, u = some a → Im e (f a) (g (e' a))) : Im e (u.bind f) (obind (fn us) g) := by
 subst ha
 exact Im.bind h k
end
theorem byL_of : ∀ l : List Int, byL (l.map VV.byte) = some l
 | [] => rfl
 | n :: r => by
  show obind (byL (r.map VV.byte)) _ = _
  rw [byL_of r]
  rfl
theorem wr_i64 (n : Int) : wr .i64 n = wrap64 n := rfl
theorem wr_u8 (n : Int) : wr .u8 n = n % 256 := rfl
theorem bt_bt (s : ByteArray) (i : Int) : VI.bt s i = Go.Proofs.YtieohddolkeegaaGreatDoorW.PrintWords.bt s i := rfl
theorem ba_size (a : Array UInt8) : (⟨a⟩ : ByteArray).size = a.size := rfl
theorem ba_toList (a : Array UInt8) : (⟨a⟩ : ByteArray).toList = a.toList := by
 rw [Go.ByteArray.toList_eq]
theorem rd_rdOf (xs : List Int) (i : Int) : Go.Proofs.YtieohddolkeegaaGreatDoorW.PrintWords.rd xs i = rdOf 0 xs i := rfl
theorem u8_bits : IntKind.bits .u8 = 8 := rfl
theorem fdiv_16 (x : Int) : x.fdiv 16 = x / 16 := Int.fdiv_eq_ediv_of_nonneg x (by decide)
theorem fdiv_16b (x : Int) : x.fdiv (2 ^ min (Int.toNat 4) 8) = x / 16 := Int.fdiv_eq_ediv_of_nonneg x (by decide)
theorem bits_and8 (x y : Int) : IntKind.wrap .u8 ((BitVec.ofInt 8 x &&& BitVec.ofInt 8 y).toNat : Int) = Go.bits .and .u8 x y := rfl
theorem bits_and (x y : Int) : IntKind.wrap .u8 ((BitVec.ofInt IntKind.u8.bits x &&& BitVec.ofInt IntKind.u8.bits y).toNat : Int) = Go.bits .and .u8 x y := rfl
theorem and_t {a b : Bool} (h : a = true) (k : b = true) : (a && b) = true := by rw [h, k]; rfl
theorem all_cells {α : Type} {enc : α → VV} {z : Nat} {l : List α} (h : ∀ x, Nat.beq (enc x).cells.length z = true) : ((l.map enc).all fun v => Nat.beq v.cells.length z) = true := by
 rw [List.all_map, List.all_eq_true]
 exact fun x _ => h x
theorem beq_self (n : Nat) : Nat.beq n n = true := Nat.beq_refl n
noncomputable def limF {α : Type} (g : Nat → Option α) : Option α := open Classical in if h : ∃ k r, g k = some r then some (Classical.choose (Classical.choose_spec h)) else none
theorem bnd_ok {n : Nat} {l h : Int} (h0 : 0 ≤ l) (h1 : l ≤ h) (h2 : h ≤ (n : Int)) : bndOk n l h = true := by
 unfold bndOk
 rw [decide_eq_true (Int.le_trans h0 h1), decide_eq_true h2, decide_eq_true h0, decide_eq_true h1]
 rfl
def keepT : Bool → Option Bool
 | true => some true
 | false => none
theorem Im.keepT {β : Type} {e : Bool → β} {b : Bool} {y : β} (h : y = e b) : Im e (keepT b) (some y) := by
 intro r hr
 cases b with
 | true => cases hr; rw [h]
 | false => cases hr
def nlw (e : Nat) (b : Bool) (l : List ByteArray) : VV := match b, l with
 | true, [] => .nl
 | _, l => .ow e 1 (l.map VV.str)
theorem nlw_f (e : Nat) (l : List ByteArray) : nlw e false l = .ow e 1 (l.map VV.str) := rfl
theorem nlw_t (e : Nat) (a : ByteArray) (l : List ByteArray) : nlw e true (a :: l) = .ow e 1 ((a :: l).map VV.str) := rfl
theorem nlw_n (e : Nat) : nlw e true [] = .nl := rfl
theorem zr {P : Prop} (h : P := by first | (first | rfl | (simp only [List.length_map, List.length_set, List.length_replicate, List.map_append, List.map_set, List.map_cons, List.map_nil, List.map_replicate, List.map_take, List.map_drop, wr_i64, wr_u8, bt_bt, rd_rdOf, u8_bits, fdiv_16, fdiv_16b, bits_and, bits_and8, ba_toList, bne, Int.zero_sub, nlw_f, nlw_t, nlw_n, List.cons_append]; first | done | rfl)) | fail) : P := h
theorem zq {P : Prop} (h : P := by first | assumption | exact bq_ne (by assumption) | exact bq_ne2 (by assumption) | exact decide_eq_true (by assumption) | exact decide_eq_false (by assumption) | ((try clear ih1); (try clear ih2); (try clear ih3); simp only [*, decide_true, decide_false, Bool.beq_true, Bool.beq_false, Bool.not_true, Bool.not_false, beq_self_eq_true, Bool.true_and, Bool.and_true, Bool.eq_false_iff, ne_eq, not_false_eq_true, not_true_eq_false, Bool.not_eq_true', Bool.not_eq_eq_eq_not, Bool.not_true, Bool.not_false, Bool.and_false, Bool.false_and]; done) | fail) : P := h
theorem zd {P : Prop} (h : P := by first | ((try clear ih1); (try clear ih2); (try clear ih3); (simp only [Option.getD_some, Option.getD_none, wr_i64]); (refine bnd_ok ?_ ?_ ?_ <;> (first | assumption | omega))) | (((try clear ih1); (try clear ih2); (try clear ih3); first | assumption | exact decide_eq_true (by assumption) | exact decide_eq_false (by assumption) | (simp [*, wr_i64, wr_u8, bt_bt, rd_rdOf, u8_bits, fdiv_16, fdiv_16b, bits_and, bits_and8, ba_size, ba_toList, bndOk, VV.cells, Nat.beq_eq]; done) | (simp [*, wr_i64, wr_u8, bt_bt, rd_rdOf, u8_bits, fdiv_16, fdiv_16b, bits_and, bits_and8, ba_size, ba_toList, bndOk, VV.cells, Nat.beq_eq]; omega) | ((try simp only [← List.map_take, ← List.map_drop]); refine and_t ?_ (all_cells (fun _ => rfl)); first | (simp [*, bndOk]; done) | (simp [*, bndOk]; omega) | (simp only [List.length_append, List.length_map, List.length_cons, List.length_nil, List.length_take, List.length_drop, Option.getD_none, Option.getD_some, decide_eq_true_eq] at *; omega)) | omega | (simp_all [wr_i64, wr_u8, bt_bt, rd_rdOf, u8_bits, fdiv_16, fdiv_16b, bits_and, bits_and8, ba_size, ba_toList, bndOk, VV.cells, Nat.beq_eq]; done) | (simp [wr_i64, wr_u8, bt_bt, rd_rdOf, u8_bits, fdiv_16, fdiv_16b, bits_and, bits_and8, ba_size, ba_toList, bndOk, VV.cells, Nat.beq_eq] at *; omega))) | fail) : P := h
theorem zx {P : Prop} (h : P := by first | ((exfalso; (try clear ih1); (try clear ih2); (try clear ih3); simp_all; done)) | fail) : P := h
theorem zo {P : Prop} (h : P := by first | (first | omega | (dsimp only; omega)) | fail) : P := h
def argD : VV → Bool
 | .s _ => true
 | .sl _ => true
 | .ag _ => true
 | _ => false
def ResOf (pd : Nat → Nat → Prop) (w : World) (r : VV) (m : Value) (w' : World) : Prop := ∃ pd' : Nat → Nat → Prop, (∀ g k, g < w.heap.size → pd' g k → pd g k) ∧ ResR w.heap.size pd' w' r m
section
variable {P : Program} {NG : Nat} {GW : World → Prop} {f : FuncId}
theorem giv_ok {vs : List VV} {r : VV} (hf : FnOk P f) (hv : vs.all argD = true) (h : ∀ (w : World) (ms : List Value) (pd : Nat → Nat → Prop), GW w → DRs pd w vs ms → Calls P f ms.toArray w fun e w' => ∃ m, e = .returned m ∧ Below w.heap.size w w' ∧ ResOf pd w r m w') : CallOk1 P NG GW f vs (r, []) := by
 refine ⟨hf, fun w ms H hgw hng hl ha hnd _ _ _ => ?_⟩
 have hd : ∀ v ∈ vs, argD v = true := fun v hx => List.all_eq_true.1 hv v hx
 have hnb : ∀ x ∈ vs, ∀ cs, x ≠ .bx cs := fun x hx cs e => by have := hd x hx; rw [e] at this; cases this
 have key : ∀ (vs : List VV) (ms : List Value), (∀ v ∈ vs, argD v = true) → vs.length = ms.length → (∀ (i : Nat) v m, vs[i]? = some v → ms[i]? = some m → ArgR H w v m) → DRs H.pd w vs ms := by
  intro vs
  induction vs with
  | nil => intro ms _ hl _; cases ms with
   | nil => exact .nil
   | cons _ _ => cases hl
  | cons v vs ih => intro ms hd hl ha; cases ms with
   | nil => cases hl
   | cons m ms =>
    refine .cons _ _ _ _ ?_ (ih ms (fun x hx => hd x (by simp [hx])) (by simpa using hl) fun i v m h1 h2 => ha (i + 1) v m (by simpa using h1) (by simpa using h2))
    have h1 := ha 0 v m rfl rfl
    have h2 := hd v (by simp)
    cases v <;> first | (cases h2; done) | exact h1
 rw [ioB_none vs ms hnb]
 refine (h w ms H.pd hgw (key vs ms hd hl ha)).mono fun e w' he => ?_
 obtain ⟨m, rfl, hb, pd', h1, h2⟩ := he
 exact ⟨m, rfl, ⟨hb.os, hb.tape, hb.output, hb.size, fun k hk _ => hb.block k hk⟩, pd', h1, h2, rfl, fun j g v hj => by simp at hj⟩
theorem drs_cons {pd : Nat → Nat → Prop} {w : World} {v : VV} {vs : List VV} {ms : List Value} (h : DRs pd w (v :: vs) ms) : ∃ m ms', ms = m :: ms' ∧ DR pd w v m ∧ DRs pd w vs ms' := by
 cases h with
 | cons _ m _ ms h1 h2 => exact ⟨m, ms, rfl, h1, h2⟩
theorem drs_nil {pd : Nat → Nat → Prop} {w : World} {ms : List Value} (h : DRs pd w [] ms) : ms = [] := by cases h; rfl
theorem dr_s {pd : Nat → Nat → Prop} {w : World} {v m : Value} (h : DR pd w (.s v) m) : m = v := by cases h; rfl
theorem resOf_s {pd : Nat → Nat → Prop} {w w' : World} (v : Value) : ResOf pd w (.s v) v w' := ⟨pd, fun _ _ _ h => h, .s v⟩
theorem resOf_tu {pd : Nat → Nat → Prop} {w w' : World} (ls : List Value) : ResOf pd w (.tu (ls.map VV.s)) (.tuple ls.toArray) w' :=
 ⟨pd, fun _ _ _ h => h, .tu _ _ (by
  induction ls with
  | nil => exact .nil
  | cons a ls ih => exact .cons _ _ _ _ (.s a) ih)⟩
theorem drs_sR : ∀ {pd : Nat → Nat → Prop} {w : World} (ls : List Value), DRs pd w (ls.map VV.s) ls
 | _, _, [] => .nil
 | _, _, a :: ls => .cons _ _ _ _ (.s a) (drs_sR ls)
theorem resOf_ow {pd : Nat → Nat → Prop} {w w' : World} {α : Type} {mk : α → Value} (h1 : ∀ x, (mk x).oneCell' = true) {e : Nat} {xs : List α} {m : Value} (hl : xs.length ≤ maxLen) (ho : w'.ownsRow w.heap.size e 1 m xs.length (xs.map mk)) : ResOf pd w (.ow e 1 (xs.map fun x => .s (mk x))) m w' := by
 refine ⟨fun g k => (g < w.heap.size ∧ pd g k) ∨ (m.ownBlock = some g ∧ k < xs.length * 1), fun g k hg h => ?_, xs.map mk, by rw [List.length_map]; exact ho, ?_, ?_, ?_, by rw [List.length_map]; exact hl, ?_⟩
 ·rcases h with h | ⟨h, _⟩
  ·exact h.2
  ·have := own_base ho g h; omega
 ·have := drs_sR (pd := fun g k => (g < w.heap.size ∧ pd g k) ∨ (m.ownBlock = some g ∧ k < xs.length * 1)) (w := w') (xs.map mk)
  rw [List.map_map] at this
  have e : (List.map (fun x => VV.s (mk x)) xs).flatMap VV.cells = xs.map (VV.s ∘ mk) := by
   rw [List.flatMap_map]
   clear this ho hl
   induction xs with
   | nil => rfl
   | cons x xs ih => rw [List.flatMap_cons, ih]; rfl
  rw [e]; exact this
 ·intro x hx
  obtain ⟨y, _, rfl⟩ := List.mem_map.1 hx
  rfl
 ·intro u hu
  obtain ⟨y, _, rfl⟩ := List.mem_map.1 hu
  exact h1 y
 ·intro g hg k
  have := own_base ho g hg
  rw [List.length_map]
  constructor
  ·rintro (⟨h, _⟩ | ⟨_, h⟩)
   ·omega
   ·exact h
  ·intro h; exact .inr ⟨hg, h⟩
theorem flat_at2 {α : Type} {f : α → List Value} {sz : Nat} (hf : ∀ x, (f x).length = sz) : ∀ (xs : List α) (j : Nat) (p : α), xs[j]? = some p → ∀ i, i < sz → (xs.flatMap f)[j * sz + i]? = (f p)[i]?
 | [], j, p, h, _, _ => by simp at h
 | x :: xs, 0, p, h, i, hi => by
  have : x = p := by simpa using h
  subst this
  rw [List.flatMap_cons, Nat.zero_mul, Nat.zero_add, List.getElem?_append_left (by rw [hf]; exact hi)]
 | x :: xs, j + 1, p, h, i, hi => by
  rw [List.flatMap_cons, List.getElem?_append_right (by rw [hf, Nat.add_mul]; omega), hf, show (j + 1) * sz + i - sz = j * sz + i by rw [Nat.add_mul]; omega]
  exact flat_at2 hf xs j p (by simpa using h) i hi
end
end Go.Proofs.YtieohddolkeegaaGreatDoor.VI

end
section
namespace Go.Proofs.YtieohddolkeegaaGreatDoor.VI
open Go
def tis : List (TypeId × TI) := [(3, ⟨1, 8, [.int .i64 0], .int .i64⟩),
 (4, ⟨1, 1, [.bool false], .bool⟩),
 (5, ⟨1, 1, [.int .u8 0], .int .u8⟩),
 (9, ⟨1, 16, [.string ⟨#[]⟩], .str⟩),
 (22, ⟨1, 24, [.slice none 0 0], .slice 5⟩),
 (24, ⟨1, 24, [.slice none 0 0], .slice 67⟩),
 (36, ⟨1, 24, [.slice none 0 0], .slice 9⟩),
 (37, ⟨1, 24, [.slice none 0 0], .slice 47⟩),
 (39, ⟨2, 48, [.slice none 0 0, .slice none 0 0], .agg [(0, 1), (1, 1)]⟩),
 (45, ⟨1, 24, [.slice none 0 0], .slice 130⟩),
 (47, ⟨6, 104, [.string ⟨#[]⟩, .string ⟨#[]⟩, .string ⟨#[]⟩, .slice none 0 0, .bool false, .slice none 0 0], .agg [(0, 1), (1, 1), (2, 1), (3, 1), (4, 1), (5, 1)]⟩),
 (52, ⟨1, 24, [.slice none 0 0], .slice 139⟩),
 (54, ⟨2, 48, [.slice none 0 0, .slice none 0 0], .agg [(0, 1), (1, 1)]⟩),
 (67, ⟨2, 32, [.string ⟨#[]⟩, .string ⟨#[]⟩], .agg [(0, 1), (1, 1)]⟩),
 (77, ⟨4, 48, [.int .i64 0, .int .i64 0, .int .i64 0, .slice none 0 0], .agg [(0, 1), (1, 1), (2, 1), (3, 1)]⟩),
 (130, ⟨2, 32, [.string ⟨#[]⟩, .string ⟨#[]⟩], .agg [(0, 1), (1, 1)]⟩),
 (137, ⟨1, 24, [.slice none 0 0], .slice 185⟩),
 (139, ⟨6, 104, [.string ⟨#[]⟩, .string ⟨#[]⟩, .string ⟨#[]⟩, .slice none 0 0, .bool false, .slice none 0 0], .agg [(0, 1), (1, 1), (2, 1), (3, 1), (4, 1), (5, 1)]⟩),
 (146, ⟨1, 24, [.slice none 0 0], .slice 3⟩),
 (185, ⟨2, 32, [.string ⟨#[]⟩, .string ⟨#[]⟩], .agg [(0, 1), (1, 1)]⟩)]
def ti (t : TypeId) : Option TI := look tis t
theorem hti : TIok Tryz.prog ti := TIok.of (l := tis) (by kernel_rfl) (by kernel_rfl)
end Go.Proofs.YtieohddolkeegaaGreatDoor.VI

end
section
namespace Go.Proofs.YtieohddolkeegaaGreatDoor.VI
open Go Go.RowKit Go.Proofs.YtieohddolkeegaaGreatDoor.G Go.Proofs.YtieohddolkeegaaGreatDoorW.PrintWords
abbrev GvT := FuncId → Option (List VV → Option (VV × List VV))
abbrev u9 : List VV := [.un, .un, .un, .un, .un, .un, .un, .un, .un]
abbrev u10 : List VV := .un :: u9
abbrev u12 : List VV := .un :: .un :: u10
abbrev u14 : List VV := .un :: .un :: u12
abbrev u15 : List VV := .un :: u14
abbrev u16 : List VV := .un :: u15
abbrev u19 : List VV := .un :: .un :: .un :: u16
abbrev u20 : List VV := .un :: u19
abbrev u21 : List VV := .un :: u20
abbrev u22 : List VV := .un :: u21
abbrev u23 : List VV := .un :: u22
abbrev u25 : List VV := .un :: .un :: u23
abbrev u26 : List VV := .un :: u25
abbrev u27 : List VV := .un :: u26
abbrev u29 : List VV := .un :: .un :: u27
abbrev u33 : List VV := .un :: .un :: .un :: .un :: u29
abbrev u34 : List VV := .un :: u33
abbrev u37 : List VV := .un :: .un :: .un :: u34
abbrev u41 : List VV := .un :: .un :: .un :: .un :: u37
abbrev u42 : List VV := .un :: u41
abbrev u44 : List VV := .un :: .un :: u42
abbrev u55 : List VV := .un :: .un :: .un :: .un :: .un :: .un :: .un :: .un :: .un :: .un :: .un :: u44
abbrev u57 : List VV := .un :: .un :: u55
abbrev u62 : List VV := .un :: .un :: .un :: .un :: .un :: u57
abbrev u64 : List VV := .un :: .un :: u62
abbrev u67 : List VV := .un :: .un :: .un :: u64
abbrev u68 : List VV := .un :: u67
abbrev u82 : List VV := .un :: .un :: .un :: .un :: .un :: .un :: .un :: .un :: .un :: .un :: .un :: .un :: .un :: .un :: u68
abbrev u83 : List VV := .un :: u82
def e130 (x : S130) : VV := .ag [.str x.f0, .str x.f1]
def e47 (x : S47) : VV := .ag [.str x.f0, .str x.f1, .str x.f2, .sl (x.f3.map e130), .bool x.f4, .sl (x.f5.map VV.str)]
def e39 (x : S39) : VV := .ag [.sl (x.f0.map VV.str), .sl (x.f1.map e47)]
def e67 (x : S67) : VV := .ag [.str x.f0, .str x.f1]
def e185 (x : S185) : VV := .ag [.str x.f0, .str x.f1]
def e139 (x : S139) : VV := .ag [.str x.f0, .str x.f1, .str x.f2, .sl (x.f3.map e185), .bool x.f4, .sl (x.f5.map VV.str)]
theorem rd_T130_eq (xs : List S130) (i : Int) : rd_T130 xs i = rdOf z130 xs i := rfl
theorem rd_T47_eq (xs : List S47) (i : Int) : rd_T47 xs i = rdOf z47 xs i := rfl
theorem rd_T39_eq (xs : List S39) (i : Int) : rd_T39 xs i = rdOf z39 xs i := rfl
theorem rd_T67_eq (xs : List S67) (i : Int) : rd_T67 xs i = rdOf z67 xs i := rfl
theorem rd_T185_eq (xs : List S185) (i : Int) : rd_T185 xs i = rdOf z185 xs i := rfl
theorem rd_T139_eq (xs : List S139) (i : Int) : rd_T139 xs i = rdOf z139 xs i := rfl
def keep : FuncId → Nat → Option (List Nat) := fun f b => match f, b with
  | 25, 0 => some [1, 4, 12, 13]
  | 26, 0 => some [1, 4, 5]
  | 26, 2 => some [1, 4, 5, 6]
  | 26, 4 => some [1, 4, 5, 6, 7, 8, 9]
  | 28, 0 => some [1, 3]
  | 35, 0 => some [0, 1, 5]
  | 38, 0 => some [0, 1, 5]
  | 39, 0 => some [0, 1, 5]
  | 64, 0 => some [1, 6, 7, 8]
  | 65, 0 => some [0, 1, 7, 8]
  | 71, 0 => some [0, 1, 5]
  | 72, 0 => some [1, 3]
  | 73, 0 => some [1, 2, 5]
  | 77, 0 => some [0, 1, 5]
  | 78, 0 => some [0, 1, 5]
  | 79, 0 => some [0, 3, 4, 7]
  | 80, 0 => some [0, 3, 4, 7]
  | 81, 0 => some [0, 1, 5]
  | 83, 0 => some [0, 3]
  | 84, 0 => some [1, 2, 5]
  | 102, 0 => some [1, 3, 4]
  | 108, 0 => some [0, 1, 5]
  | 109, 0 => some [0, 1, 5, 6, 7]
  | 110, 0 => some [0, 3, 4]
  | 111, 0 => some [2, 3, 5, 6]
  | 111, 2 => some [2, 3, 7]
  | 115, 0 => some [1, 2, 7, 8, 9]
  | 116, 0 => some [0, 1, 7, 8]
  | 117, 0 => some [0, 1, 7, 8]
  | 119, 0 => some [0, 3, 4]
  | 119, 2 => some [0, 3, 4, 5, 6]
  | 120, 0 => some [0, 3]
  | 126, 0 => some [0, 1, 5]
  | 136, 0 => some [1, 3]
  | 137, 0 => some [0, 3, 4]
  | 141, 0 => some [1, 13, 14, 15]
  | 141, 2 => some [1, 24, 25, 26]
  | 149, 0 => some [0, 3, 10, 11, 12]
  | 151, 0 => some [0, 5, 6, 7]
  | 164, 0 => some [0, 1, 5]
  | 165, 0 => some [0, 3, 4, 7]
  | 166, 0 => some [0, 1, 5]
  | 173, 0 => some [0, 3]
  | 177, 0 => some [0, 1, 7, 8]
  | 207, 0 => some [0, 3]
  | _, _ => none
def unS : List VV → Option (List ByteArray)
  | [] => some []
  | .s (.string b) :: r => obind (unS r) fun l => some (b :: l)
  | _ => none
theorem unS_map : ∀ l : List ByteArray, unS (l.map VV.str) = some l
  | [] => rfl
  | b :: r => by
    show obind (unS (r.map VV.str)) _ = _
    rw [unS_map r]
    rfl
noncomputable def strings_Join.gv : List VV → Option (VV × List VV)
  | [.sl q0, .s (.string a1)] => obind (unS q0) fun l0 => (strings_Join.f l0 a1).map fun r => (.str r, [])
  | _ => none
noncomputable def strings_Split.gv : List VV → Option (VV × List VV)
  | [.s (.string a0), .s (.string a1)] => (strings_Split.f a0 a1).map fun r => (.ow 9 1 (r.map VV.str), [])
  | _ => none
noncomputable def strings_HasPrefix.gv : List VV → Option (VV × List VV)
  | [.s (.string a0), .s (.string a1)] => (strings_HasPrefix.f a0 a1).map fun r => (.bool r, [])
  | _ => none
noncomputable def slices_Clone_string_string.gv : List VV → Option (VV × List VV)
  | [.sl q0] => obind (unS q0) fun l0 => (slices_Clone_string_string.f l0).map fun r => (.ow 9 1 (r.map VV.str), [])
  | _ => none
noncomputable def strings_Cut.gv : List VV → Option (VV × List VV)
  | [.s (.string a0), .s (.string a1)] => (strings_Cut.f a0 a1).map fun r => (.tu [.str r.1, .str r.2.1, .bool r.2.2], [])
  | _ => none
noncomputable def impl_ReadDec.gv : List VV → Option (VV × List VV)
  | [.s (.string a0)] => (impl_ReadDec.f a0).map fun r => (.int r, [])
  | _ => none
noncomputable def strconv_Itoa.gv : List VV → Option (VV × List VV)
  | [.s (.int .i64 a0)] => (strconv_Itoa.f a0).map fun r => (.str r, [])
  | _ => none
noncomputable def strings_TrimPrefix.gv : List VV → Option (VV × List VV)
  | [.s (.string a0), .s (.string a1)] => (strings_TrimPrefix.f a0 a1).map fun r => (.str r, [])
  | _ => none
noncomputable def Gv0 : FuncId → Option (List VV → Option (VV × List VV)) := fun f => match f with
  | 44 => some strings_Join.gv
  | 47 => some strings_Split.gv
  | 49 => some strings_HasPrefix.gv
  | 75 => some slices_Clone_string_string.gv
  | 94 => some strings_Cut.gv
  | 104 => some impl_ReadDec.gv
  | 176 => some strconv_Itoa.gv
  | 187 => some strings_TrimPrefix.gv
  | _ => none
def Base (G : FuncId → Option (List VV → Option (VV × List VV))) : Prop := ∀ f, G f = Gv0 f
theorem bq {G : GvT} (hG : Base G) (f : FuncId) (_h : True := by decide) : G f = Gv0 f := hG f
theorem base0 : Base Gv0 := fun _ => rfl
noncomputable def Gv : FuncId → Option (List VV → Option (VV × List VV)) := Gv0
noncomputable abbrev cv := callv Tryz.prog ti keep Gv
end Go.Proofs.YtieohddolkeegaaGreatDoor.VI

end
section
namespace Go.Proofs.YtieohddolkeegaaGreatDoor.VI
open Go Go.RowKit Go.Proofs.YtieohddolkeegaaGreatDoor.G Go.Proofs.YtieohddolkeegaaGreatDoorW.PrintWords
set_option maxRecDepth 100000
set_option maxHeartbeats 16000000
attribute [local irreducible] bite obind vget
attribute [local simp] rd_T130_eq rd_T47_eq rd_T39_eq rd_T67_eq rd_T185_eq rd_T139_eq
theorem impl_KeyOf.vi {m : Nat} {Gv : GvT} (hG : Base Gv) (hm : 1 ≤ m) (a0_0 : ByteArray) (a0_1 : ByteArray) (a0_2 : ByteArray) (l0_3 : List (S130)) (a0_4 : Bool) (l0_5 : List ByteArray) : Im (fun r => (.str r, [])) (impl_KeyOf.f a0_0 a0_1 a0_2 l0_3 a0_4 l0_5) (callv Tryz.prog ti keep Gv m 32 [.ag [.str a0_0, .str a0_1, .str a0_2, .sl (l0_3.map e130), .bool a0_4, .sl (l0_5.map VV.str)]]) := by
  obtain ⟨m, rfl⟩ : ∃ m', m = m' + 1 := ⟨m - 1, by omega⟩
  rw [show callv Tryz.prog ti keep Gv (m + 1) 32 _ = _ from callv_enter ((bq hG 32).trans rfl) Tryz.func32 (by kernel_rfl) rfl rfl]
  unfold impl_KeyOf.f
  repeat' first
   | (with_reducible first | exact Im.none | refine Im.ite (fun h => ?_) (fun h => ?_) | refine Im.sbind ?_)
   | ((conv => arg 3; whnf); first
    | ((with_reducible refine Im.fin ?_); exact zr) | ((with_reducible refine Im.anyo ?_ ?_); kernel_rfl) | ((with_reducible refine Im.bite_t ?_ ?_); exact zq) | ((with_reducible refine Im.bite_f ?_ ?_); exact zq) | ((with_reducible refine Im.bite_t ?_ ?_); exact zd) | ((with_reducible refine Im.must ?_ ?_); exact zd) | ((with_reducible refine Im.bite_f ?_ ?_); exact zd) | (with_reducible refine Im.byl ?_) | ((with_reducible refine Im.vget ByteArray.empty ?_ ?_ ?_); exact zd; exact zd) | ((with_reducible refine Im.vget z130 ?_ ?_ ?_); exact zd; exact zd) | ((with_reducible refine Im.vget z47 ?_ ?_ ?_); exact zd; exact zd) | ((with_reducible refine Im.vget z39 ?_ ?_ ?_); exact zd; exact zd) | ((with_reducible refine Im.vget z67 ?_ ?_ ?_); exact zd; exact zd) | ((with_reducible refine Im.vget z185 ?_ ?_ ?_); exact zd; exact zd) | ((with_reducible refine Im.vget z139 ?_ ?_ ?_); exact zd; exact zd) | ((with_reducible refine Im.vget (0 : Int) ?_ ?_ ?_); exact zd; exact zd) | ((with_reducible refine Im.vget false ?_ ?_ ?_); exact zd; exact zd)
    | exact zm | exact zx | fail)
theorem impl_isDigit.vi {m : Nat} {Gv : GvT} (hG : Base Gv) (hm : 1 ≤ m) (a0 : Int) : Im (fun r => (.bool r, [])) (impl_isDigit.f a0) (callv Tryz.prog ti keep Gv m 180 [.byte a0]) := by
  obtain ⟨m, rfl⟩ : ∃ m', m = m' + 1 := ⟨m - 1, by omega⟩
  rw [show callv Tryz.prog ti keep Gv (m + 1) 180 _ = _ from callv_enter ((bq hG 180).trans rfl) Tryz.func180 (by kernel_rfl) rfl rfl]
  unfold impl_isDigit.f
  repeat' first
   | (with_reducible first | exact Im.none | refine Im.ite (fun h => ?_) (fun h => ?_) | refine Im.sbind ?_)
   | ((conv => arg 3; whnf); first
    | ((with_reducible refine Im.fin ?_); exact zr) | ((with_reducible refine Im.anyo ?_ ?_); kernel_rfl) | ((with_reducible refine Im.bite_t ?_ ?_); exact zq) | ((with_reducible refine Im.bite_f ?_ ?_); exact zq) | ((with_reducible refine Im.bite_t ?_ ?_); exact zd) | ((with_reducible refine Im.must ?_ ?_); exact zd) | ((with_reducible refine Im.bite_f ?_ ?_); exact zd) | (with_reducible refine Im.byl ?_) | ((with_reducible refine Im.vget ByteArray.empty ?_ ?_ ?_); exact zd; exact zd) | ((with_reducible refine Im.vget z130 ?_ ?_ ?_); exact zd; exact zd) | ((with_reducible refine Im.vget z47 ?_ ?_ ?_); exact zd; exact zd) | ((with_reducible refine Im.vget z39 ?_ ?_ ?_); exact zd; exact zd) | ((with_reducible refine Im.vget z67 ?_ ?_ ?_); exact zd; exact zd) | ((with_reducible refine Im.vget z185 ?_ ?_ ?_); exact zd; exact zd) | ((with_reducible refine Im.vget z139 ?_ ?_ ?_); exact zd; exact zd) | ((with_reducible refine Im.vget (0 : Int) ?_ ?_ ?_); exact zd; exact zd) | ((with_reducible refine Im.vget false ?_ ?_ ?_); exact zd; exact zd)
    | exact zm | exact zx | fail)
theorem impl_isLower.vi {m : Nat} {Gv : GvT} (hG : Base Gv) (hm : 1 ≤ m) (a0 : Int) : Im (fun r => (.bool r, [])) (impl_isLower.f a0) (callv Tryz.prog ti keep Gv m 189 [.byte a0]) := by
  obtain ⟨m, rfl⟩ : ∃ m', m = m' + 1 := ⟨m - 1, by omega⟩
  rw [show callv Tryz.prog ti keep Gv (m + 1) 189 _ = _ from callv_enter ((bq hG 189).trans rfl) Tryz.func189 (by kernel_rfl) rfl rfl]
  unfold impl_isLower.f
  repeat' first
   | (with_reducible first | exact Im.none | refine Im.ite (fun h => ?_) (fun h => ?_) | refine Im.sbind ?_)
   | ((conv => arg 3; whnf); first
    | ((with_reducible refine Im.fin ?_); exact zr) | ((with_reducible refine Im.anyo ?_ ?_); kernel_rfl) | ((with_reducible refine Im.bite_t ?_ ?_); exact zq) | ((with_reducible refine Im.bite_f ?_ ?_); exact zq) | ((with_reducible refine Im.bite_t ?_ ?_); exact zd) | ((with_reducible refine Im.must ?_ ?_); exact zd) | ((with_reducible refine Im.bite_f ?_ ?_); exact zd) | (with_reducible refine Im.byl ?_) | ((with_reducible refine Im.vget ByteArray.empty ?_ ?_ ?_); exact zd; exact zd) | ((with_reducible refine Im.vget z130 ?_ ?_ ?_); exact zd; exact zd) | ((with_reducible refine Im.vget z47 ?_ ?_ ?_); exact zd; exact zd) | ((with_reducible refine Im.vget z39 ?_ ?_ ?_); exact zd; exact zd) | ((with_reducible refine Im.vget z67 ?_ ?_ ?_); exact zd; exact zd) | ((with_reducible refine Im.vget z185 ?_ ?_ ?_); exact zd; exact zd) | ((with_reducible refine Im.vget z139 ?_ ?_ ?_); exact zd; exact zd) | ((with_reducible refine Im.vget (0 : Int) ?_ ?_ ?_); exact zd; exact zd) | ((with_reducible refine Im.vget false ?_ ?_ ?_); exact zd; exact zd)
    | exact zm | exact zx | fail)
theorem impl_isLetter.vi {m : Nat} {Gv : GvT} (hG : Base Gv) (hm : 2 ≤ m) (a0 : Int) : Im (fun r => (.bool r, [])) (impl_isLetter.f a0) (callv Tryz.prog ti keep Gv m 179 [.byte a0]) := by
  obtain ⟨m, rfl⟩ : ∃ m', m = m' + 1 := ⟨m - 1, by omega⟩
  rw [show callv Tryz.prog ti keep Gv (m + 1) 179 _ = _ from callv_enter ((bq hG 179).trans rfl) Tryz.func179 (by kernel_rfl) rfl rfl]
  unfold impl_isLetter.f
  repeat' first
   | (with_reducible first | exact Im.none | refine Im.ite (fun h => ?_) (fun h => ?_) | refine Im.sbind ?_)
   | ((conv => arg 3; whnf); first
    | ((with_reducible refine Im.fin ?_); exact zr) | ((with_reducible refine Im.anyo ?_ ?_); kernel_rfl) | ((with_reducible refine Im.bite_t ?_ ?_); exact zq) | ((with_reducible refine Im.bite_f ?_ ?_); exact zq) | ((with_reducible refine Im.bite_t ?_ ?_); exact zd) | ((with_reducible refine Im.must ?_ ?_); exact zd) | ((with_reducible refine Im.bite_f ?_ ?_); exact zd) | (with_reducible refine Im.byl ?_) | ((with_reducible refine Im.vget ByteArray.empty ?_ ?_ ?_); exact zd; exact zd) | ((with_reducible refine Im.vget z130 ?_ ?_ ?_); exact zd; exact zd) | ((with_reducible refine Im.vget z47 ?_ ?_ ?_); exact zd; exact zd) | ((with_reducible refine Im.vget z39 ?_ ?_ ?_); exact zd; exact zd) | ((with_reducible refine Im.vget z67 ?_ ?_ ?_); exact zd; exact zd) | ((with_reducible refine Im.vget z185 ?_ ?_ ?_); exact zd; exact zd) | ((with_reducible refine Im.vget z139 ?_ ?_ ?_); exact zd; exact zd) | ((with_reducible refine Im.vget (0 : Int) ?_ ?_ ?_); exact zd; exact zd) | ((with_reducible refine Im.vget false ?_ ?_ ?_); exact zd; exact zd) | ((with_reducible refine Im.call (impl_isLower.vi hG ?_ _) ?_ (fun r hr => ?_)); omega; exact zr)
    | exact zm | exact zx | fail)
theorem impl_VersionOk_1.vi {m : Nat} {Gv : GvT} (hG : Base Gv) (hm : 3 ≤ m) (a0 : Int) : Im (fun r => (.bool r, [])) (impl_VersionOk_1.f a0) (callv Tryz.prog ti keep Gv m 178 [.byte a0]) := by
  obtain ⟨m, rfl⟩ : ∃ m', m = m' + 1 := ⟨m - 1, by omega⟩
  rw [show callv Tryz.prog ti keep Gv (m + 1) 178 _ = _ from callv_enter ((bq hG 178).trans rfl) Tryz.func178 (by kernel_rfl) rfl rfl]
  unfold impl_VersionOk_1.f
  repeat' first
   | (with_reducible first | exact Im.none | refine Im.ite (fun h => ?_) (fun h => ?_) | refine Im.sbind ?_)
   | ((conv => arg 3; whnf); first
    | ((with_reducible refine Im.fin ?_); exact zr) | ((with_reducible refine Im.anyo ?_ ?_); kernel_rfl) | ((with_reducible refine Im.bite_t ?_ ?_); exact zq) | ((with_reducible refine Im.bite_f ?_ ?_); exact zq) | ((with_reducible refine Im.bite_t ?_ ?_); exact zd) | ((with_reducible refine Im.must ?_ ?_); exact zd) | ((with_reducible refine Im.bite_f ?_ ?_); exact zd) | (with_reducible refine Im.byl ?_) | ((with_reducible refine Im.vget ByteArray.empty ?_ ?_ ?_); exact zd; exact zd) | ((with_reducible refine Im.vget z130 ?_ ?_ ?_); exact zd; exact zd) | ((with_reducible refine Im.vget z47 ?_ ?_ ?_); exact zd; exact zd) | ((with_reducible refine Im.vget z39 ?_ ?_ ?_); exact zd; exact zd) | ((with_reducible refine Im.vget z67 ?_ ?_ ?_); exact zd; exact zd) | ((with_reducible refine Im.vget z185 ?_ ?_ ?_); exact zd; exact zd) | ((with_reducible refine Im.vget z139 ?_ ?_ ?_); exact zd; exact zd) | ((with_reducible refine Im.vget (0 : Int) ?_ ?_ ?_); exact zd; exact zd) | ((with_reducible refine Im.vget false ?_ ?_ ?_); exact zd; exact zd) | ((with_reducible refine Im.call (impl_isDigit.vi hG ?_ _) ?_ (fun r hr => ?_)); omega; exact zr) | ((with_reducible refine Im.call (impl_isLetter.vi hG ?_ _) ?_ (fun r hr => ?_)); omega; exact zr)
    | exact zm | exact zx | fail)
theorem impl_all__impl_VersionOk_1.vi {k m : Nat} {Gv : GvT} (hG : Base Gv) (hm : k + 4 ≤ m) (a0 : ByteArray) : Im (fun r => (.bool r, [])) (impl_all__impl_VersionOk_1.f k a0) (callv Tryz.prog ti keep Gv m 177 [.str a0, .cl 178 []]) := by
  obtain ⟨m, rfl⟩ : ∃ m', m = m' + 1 := ⟨m - 1, by omega⟩
  rw [show callv Tryz.prog ti keep Gv (m + 1) 177 _ = _ from callv_enter ((bq hG 177).trans rfl) Tryz.func177 (by kernel_rfl) rfl rfl]
  unfold impl_all__impl_VersionOk_1.f
  repeat' first
   | (with_reducible first | exact Im.none | refine Im.ite (fun h => ?_) (fun h => ?_) | refine Im.sbind ?_)
   | ((conv => arg 3; whnf); first
    | ((with_reducible refine Im.fin ?_); exact zr) | ((with_reducible refine Im.anyo ?_ ?_); kernel_rfl) | ((with_reducible refine Im.bite_t ?_ ?_); exact zq) | ((with_reducible refine Im.bite_f ?_ ?_); exact zq) | ((with_reducible refine Im.bite_t ?_ ?_); exact zd) | ((with_reducible refine Im.must ?_ ?_); exact zd) | ((with_reducible refine Im.bite_f ?_ ?_); exact zd) | (with_reducible refine Im.byl ?_) | ((with_reducible refine Im.vget ByteArray.empty ?_ ?_ ?_); exact zd; exact zd) | ((with_reducible refine Im.vget z130 ?_ ?_ ?_); exact zd; exact zd) | ((with_reducible refine Im.vget z47 ?_ ?_ ?_); exact zd; exact zd) | ((with_reducible refine Im.vget z39 ?_ ?_ ?_); exact zd; exact zd) | ((with_reducible refine Im.vget z67 ?_ ?_ ?_); exact zd; exact zd) | ((with_reducible refine Im.vget z185 ?_ ?_ ?_); exact zd; exact zd) | ((with_reducible refine Im.vget z139 ?_ ?_ ?_); exact zd; exact zd) | ((with_reducible refine Im.vget (0 : Int) ?_ ?_ ?_); exact zd; exact zd) | ((with_reducible refine Im.vget false ?_ ?_ ?_); exact zd; exact zd) | ((with_reducible refine Im.call (impl_VersionOk_1.vi hG ?_ _) ?_ (fun r hr => ?_)); omega; exact zr) | ((with_reducible refine ih1 _ ⟨_, _, _⟩ _ ?_ ?_); exact zo; exact zr) | ((with_reducible refine Im.loop (S := fun s : ByteArray × Int × Int => .str s.1 :: .cl 178 [] :: .un :: .un :: .un :: .un :: .un :: .int s.2.1 :: .int s.2.2 :: u9) (L := fun k s => impl_all__impl_VersionOk_1.l0 k s.1 s.2.1 s.2.2) _ ?_ ?_ _ _ ⟨_, _, _⟩ _ (Nat.le_refl _) zo ?_); (next => intro s; rfl); rotate_left; exact zr; intro k1 M1 ⟨x0, x7, x8⟩ hk1 hM1 ih1; conv => arg 2; simp only [impl_all__impl_VersionOk_1.l0])
    | exact zm | exact zx | fail)
theorem impl_all__impl_isDigit.vi {k m : Nat} {Gv : GvT} (hG : Base Gv) (hm : k + 2 ≤ m) (a0 : ByteArray) : Im (fun r => (.bool r, [])) (impl_all__impl_isDigit.f k a0) (callv Tryz.prog ti keep Gv m 177 [.str a0, .cl 180 []]) := by
  obtain ⟨m, rfl⟩ : ∃ m', m = m' + 1 := ⟨m - 1, by omega⟩
  rw [show callv Tryz.prog ti keep Gv (m + 1) 177 _ = _ from callv_enter ((bq hG 177).trans rfl) Tryz.func177 (by kernel_rfl) rfl rfl]
  unfold impl_all__impl_isDigit.f
  repeat' first
   | (with_reducible first | exact Im.none | refine Im.ite (fun h => ?_) (fun h => ?_) | refine Im.sbind ?_)
   | ((conv => arg 3; whnf); first
    | ((with_reducible refine Im.fin ?_); exact zr) | ((with_reducible refine Im.anyo ?_ ?_); kernel_rfl) | ((with_reducible refine Im.bite_t ?_ ?_); exact zq) | ((with_reducible refine Im.bite_f ?_ ?_); exact zq) | ((with_reducible refine Im.bite_t ?_ ?_); exact zd) | ((with_reducible refine Im.must ?_ ?_); exact zd) | ((with_reducible refine Im.bite_f ?_ ?_); exact zd) | (with_reducible refine Im.byl ?_) | ((with_reducible refine Im.vget ByteArray.empty ?_ ?_ ?_); exact zd; exact zd) | ((with_reducible refine Im.vget z130 ?_ ?_ ?_); exact zd; exact zd) | ((with_reducible refine Im.vget z47 ?_ ?_ ?_); exact zd; exact zd) | ((with_reducible refine Im.vget z39 ?_ ?_ ?_); exact zd; exact zd) | ((with_reducible refine Im.vget z67 ?_ ?_ ?_); exact zd; exact zd) | ((with_reducible refine Im.vget z185 ?_ ?_ ?_); exact zd; exact zd) | ((with_reducible refine Im.vget z139 ?_ ?_ ?_); exact zd; exact zd) | ((with_reducible refine Im.vget (0 : Int) ?_ ?_ ?_); exact zd; exact zd) | ((with_reducible refine Im.vget false ?_ ?_ ?_); exact zd; exact zd) | ((with_reducible refine Im.call (impl_isDigit.vi hG ?_ _) ?_ (fun r hr => ?_)); omega; exact zr) | ((with_reducible refine ih1 _ ⟨_, _, _⟩ _ ?_ ?_); exact zo; exact zr) | ((with_reducible refine Im.loop (S := fun s : ByteArray × Int × Int => .str s.1 :: .cl 180 [] :: .un :: .un :: .un :: .un :: .un :: .int s.2.1 :: .int s.2.2 :: u9) (L := fun k s => impl_all__impl_isDigit.l0 k s.1 s.2.1 s.2.2) _ ?_ ?_ _ _ ⟨_, _, _⟩ _ (Nat.le_refl _) zo ?_); (next => intro s; rfl); rotate_left; exact zr; intro k1 M1 ⟨x0, x7, x8⟩ hk1 hM1 ih1; conv => arg 2; simp only [impl_all__impl_isDigit.l0])
    | exact zm | exact zx | fail)
theorem impl_isNumber.vi {k m : Nat} {Gv : GvT} (hG : Base Gv) (hm : k + 3 ≤ m) (a0 : ByteArray) : Im (fun r => (.bool r, [])) (impl_isNumber.f k a0) (callv Tryz.prog ti keep Gv m 181 [.str a0]) := by
  obtain ⟨m, rfl⟩ : ∃ m', m = m' + 1 := ⟨m - 1, by omega⟩
  rw [show callv Tryz.prog ti keep Gv (m + 1) 181 _ = _ from callv_enter ((bq hG 181).trans rfl) Tryz.func181 (by kernel_rfl) rfl rfl]
  unfold impl_isNumber.f
  repeat' first
   | (with_reducible first | exact Im.none | refine Im.ite (fun h => ?_) (fun h => ?_) | refine Im.sbind ?_)
   | ((conv => arg 3; whnf); first
    | ((with_reducible refine Im.fin ?_); exact zr) | ((with_reducible refine Im.anyo ?_ ?_); kernel_rfl) | ((with_reducible refine Im.bite_t ?_ ?_); exact zq) | ((with_reducible refine Im.bite_f ?_ ?_); exact zq) | ((with_reducible refine Im.bite_t ?_ ?_); exact zd) | ((with_reducible refine Im.must ?_ ?_); exact zd) | ((with_reducible refine Im.bite_f ?_ ?_); exact zd) | (with_reducible refine Im.byl ?_) | ((with_reducible refine Im.vget ByteArray.empty ?_ ?_ ?_); exact zd; exact zd) | ((with_reducible refine Im.vget z130 ?_ ?_ ?_); exact zd; exact zd) | ((with_reducible refine Im.vget z47 ?_ ?_ ?_); exact zd; exact zd) | ((with_reducible refine Im.vget z39 ?_ ?_ ?_); exact zd; exact zd) | ((with_reducible refine Im.vget z67 ?_ ?_ ?_); exact zd; exact zd) | ((with_reducible refine Im.vget z185 ?_ ?_ ?_); exact zd; exact zd) | ((with_reducible refine Im.vget z139 ?_ ?_ ?_); exact zd; exact zd) | ((with_reducible refine Im.vget (0 : Int) ?_ ?_ ?_); exact zd; exact zd) | ((with_reducible refine Im.vget false ?_ ?_ ?_); exact zd; exact zd) | ((with_reducible refine Im.call (impl_all__impl_isDigit.vi hG ?_ _) ?_ (fun r hr => ?_)); omega; exact zr)
    | exact zm | exact zx | fail)
theorem impl_within.vi {m : Nat} {Gv : GvT} (hG : Base Gv) (hm : 1 ≤ m) (a0 : Int) (a1 : Int) (a2 : Int) : Im (fun r => (.bool r, [])) (impl_within.f a0 a1 a2) (callv Tryz.prog ti keep Gv m 56 [.int a0, .int a1, .int a2]) := by
  obtain ⟨m, rfl⟩ : ∃ m', m = m' + 1 := ⟨m - 1, by omega⟩
  rw [show callv Tryz.prog ti keep Gv (m + 1) 56 _ = _ from callv_enter ((bq hG 56).trans rfl) Tryz.func56 (by kernel_rfl) rfl rfl]
  unfold impl_within.f
  repeat' first
   | (with_reducible first | exact Im.none | refine Im.ite (fun h => ?_) (fun h => ?_) | refine Im.sbind ?_)
   | ((conv => arg 3; whnf); first
    | ((with_reducible refine Im.fin ?_); exact zr) | ((with_reducible refine Im.anyo ?_ ?_); kernel_rfl) | ((with_reducible refine Im.bite_t ?_ ?_); exact zq) | ((with_reducible refine Im.bite_f ?_ ?_); exact zq) | ((with_reducible refine Im.bite_t ?_ ?_); exact zd) | ((with_reducible refine Im.must ?_ ?_); exact zd) | ((with_reducible refine Im.bite_f ?_ ?_); exact zd) | (with_reducible refine Im.byl ?_) | ((with_reducible refine Im.vget ByteArray.empty ?_ ?_ ?_); exact zd; exact zd) | ((with_reducible refine Im.vget z130 ?_ ?_ ?_); exact zd; exact zd) | ((with_reducible refine Im.vget z47 ?_ ?_ ?_); exact zd; exact zd) | ((with_reducible refine Im.vget z39 ?_ ?_ ?_); exact zd; exact zd) | ((with_reducible refine Im.vget z67 ?_ ?_ ?_); exact zd; exact zd) | ((with_reducible refine Im.vget z185 ?_ ?_ ?_); exact zd; exact zd) | ((with_reducible refine Im.vget z139 ?_ ?_ ?_); exact zd; exact zd) | ((with_reducible refine Im.vget (0 : Int) ?_ ?_ ?_); exact zd; exact zd) | ((with_reducible refine Im.vget false ?_ ?_ ?_); exact zd; exact zd)
    | exact zm | exact zx | fail)
theorem impl_NameOk_1.vi {m : Nat} {Gv : GvT} (hG : Base Gv) (hm : 2 ≤ m) (a0 : Int) : Im (fun r => (.bool r, [])) (impl_NameOk_1.f a0) (callv Tryz.prog ti keep Gv m 188 [.byte a0]) := by
  obtain ⟨m, rfl⟩ : ∃ m', m = m' + 1 := ⟨m - 1, by omega⟩
  rw [show callv Tryz.prog ti keep Gv (m + 1) 188 _ = _ from callv_enter ((bq hG 188).trans rfl) Tryz.func188 (by kernel_rfl) rfl rfl]
  unfold impl_NameOk_1.f
  repeat' first
   | (with_reducible first | exact Im.none | refine Im.ite (fun h => ?_) (fun h => ?_) | refine Im.sbind ?_)
   | ((conv => arg 3; whnf); first
    | ((with_reducible refine Im.fin ?_); exact zr) | ((with_reducible refine Im.anyo ?_ ?_); kernel_rfl) | ((with_reducible refine Im.bite_t ?_ ?_); exact zq) | ((with_reducible refine Im.bite_f ?_ ?_); exact zq) | ((with_reducible refine Im.bite_t ?_ ?_); exact zd) | ((with_reducible refine Im.must ?_ ?_); exact zd) | ((with_reducible refine Im.bite_f ?_ ?_); exact zd) | (with_reducible refine Im.byl ?_) | ((with_reducible refine Im.vget ByteArray.empty ?_ ?_ ?_); exact zd; exact zd) | ((with_reducible refine Im.vget z130 ?_ ?_ ?_); exact zd; exact zd) | ((with_reducible refine Im.vget z47 ?_ ?_ ?_); exact zd; exact zd) | ((with_reducible refine Im.vget z39 ?_ ?_ ?_); exact zd; exact zd) | ((with_reducible refine Im.vget z67 ?_ ?_ ?_); exact zd; exact zd) | ((with_reducible refine Im.vget z185 ?_ ?_ ?_); exact zd; exact zd) | ((with_reducible refine Im.vget z139 ?_ ?_ ?_); exact zd; exact zd) | ((with_reducible refine Im.vget (0 : Int) ?_ ?_ ?_); exact zd; exact zd) | ((with_reducible refine Im.vget false ?_ ?_ ?_); exact zd; exact zd) | ((with_reducible refine Im.call (impl_isDigit.vi hG ?_ _) ?_ (fun r hr => ?_)); omega; exact zr) | ((with_reducible refine Im.call (impl_isLower.vi hG ?_ _) ?_ (fun r hr => ?_)); omega; exact zr)
    | exact zm | exact zx | fail)
theorem impl_all__impl_NameOk_1.vi {k m : Nat} {Gv : GvT} (hG : Base Gv) (hm : k + 3 ≤ m) (a0 : ByteArray) : Im (fun r => (.bool r, [])) (impl_all__impl_NameOk_1.f k a0) (callv Tryz.prog ti keep Gv m 177 [.str a0, .cl 188 []]) := by
  obtain ⟨m, rfl⟩ : ∃ m', m = m' + 1 := ⟨m - 1, by omega⟩
  rw [show callv Tryz.prog ti keep Gv (m + 1) 177 _ = _ from callv_enter ((bq hG 177).trans rfl) Tryz.func177 (by kernel_rfl) rfl rfl]
  unfold impl_all__impl_NameOk_1.f
  repeat' first
   | (with_reducible first | exact Im.none | refine Im.ite (fun h => ?_) (fun h => ?_) | refine Im.sbind ?_)
   | ((conv => arg 3; whnf); first
    | ((with_reducible refine Im.fin ?_); exact zr) | ((with_reducible refine Im.anyo ?_ ?_); kernel_rfl) | ((with_reducible refine Im.bite_t ?_ ?_); exact zq) | ((with_reducible refine Im.bite_f ?_ ?_); exact zq) | ((with_reducible refine Im.bite_t ?_ ?_); exact zd) | ((with_reducible refine Im.must ?_ ?_); exact zd) | ((with_reducible refine Im.bite_f ?_ ?_); exact zd) | (with_reducible refine Im.byl ?_) | ((with_reducible refine Im.vget ByteArray.empty ?_ ?_ ?_); exact zd; exact zd) | ((with_reducible refine Im.vget z130 ?_ ?_ ?_); exact zd; exact zd) | ((with_reducible refine Im.vget z47 ?_ ?_ ?_); exact zd; exact zd) | ((with_reducible refine Im.vget z39 ?_ ?_ ?_); exact zd; exact zd) | ((with_reducible refine Im.vget z67 ?_ ?_ ?_); exact zd; exact zd) | ((with_reducible refine Im.vget z185 ?_ ?_ ?_); exact zd; exact zd) | ((with_reducible refine Im.vget z139 ?_ ?_ ?_); exact zd; exact zd) | ((with_reducible refine Im.vget (0 : Int) ?_ ?_ ?_); exact zd; exact zd) | ((with_reducible refine Im.vget false ?_ ?_ ?_); exact zd; exact zd) | ((with_reducible refine Im.call (impl_NameOk_1.vi hG ?_ _) ?_ (fun r hr => ?_)); omega; exact zr) | ((with_reducible refine ih1 _ ⟨_, _, _⟩ _ ?_ ?_); exact zo; exact zr) | ((with_reducible refine Im.loop (S := fun s : ByteArray × Int × Int => .str s.1 :: .cl 188 [] :: .un :: .un :: .un :: .un :: .un :: .int s.2.1 :: .int s.2.2 :: u9) (L := fun k s => impl_all__impl_NameOk_1.l0 k s.1 s.2.1 s.2.2) _ ?_ ?_ _ _ ⟨_, _, _⟩ _ (Nat.le_refl _) zo ?_); (next => intro s; rfl); rotate_left; exact zr; intro k1 M1 ⟨x0, x7, x8⟩ hk1 hM1 ih1; conv => arg 2; simp only [impl_all__impl_NameOk_1.l0])
    | exact zm | exact zx | fail)
theorem impl_PlainOk_1.vi {m : Nat} {Gv : GvT} (hG : Base Gv) (hm : 1 ≤ m) (a0 : Int) : Im (fun r => (.bool r, [])) (impl_PlainOk_1.f a0) (callv Tryz.prog ti keep Gv m 190 [.byte a0]) := by
  obtain ⟨m, rfl⟩ : ∃ m', m = m' + 1 := ⟨m - 1, by omega⟩
  rw [show callv Tryz.prog ti keep Gv (m + 1) 190 _ = _ from callv_enter ((bq hG 190).trans rfl) Tryz.func190 (by kernel_rfl) rfl rfl]
  unfold impl_PlainOk_1.f
  repeat' first
   | (with_reducible first | exact Im.none | refine Im.ite (fun h => ?_) (fun h => ?_) | refine Im.sbind ?_)
   | ((conv => arg 3; whnf); first
    | ((with_reducible refine Im.fin ?_); exact zr) | ((with_reducible refine Im.anyo ?_ ?_); kernel_rfl) | ((with_reducible refine Im.bite_t ?_ ?_); exact zq) | ((with_reducible refine Im.bite_f ?_ ?_); exact zq) | ((with_reducible refine Im.bite_t ?_ ?_); exact zd) | ((with_reducible refine Im.must ?_ ?_); exact zd) | ((with_reducible refine Im.bite_f ?_ ?_); exact zd) | (with_reducible refine Im.byl ?_) | ((with_reducible refine Im.vget ByteArray.empty ?_ ?_ ?_); exact zd; exact zd) | ((with_reducible refine Im.vget z130 ?_ ?_ ?_); exact zd; exact zd) | ((with_reducible refine Im.vget z47 ?_ ?_ ?_); exact zd; exact zd) | ((with_reducible refine Im.vget z39 ?_ ?_ ?_); exact zd; exact zd) | ((with_reducible refine Im.vget z67 ?_ ?_ ?_); exact zd; exact zd) | ((with_reducible refine Im.vget z185 ?_ ?_ ?_); exact zd; exact zd) | ((with_reducible refine Im.vget z139 ?_ ?_ ?_); exact zd; exact zd) | ((with_reducible refine Im.vget (0 : Int) ?_ ?_ ?_); exact zd; exact zd) | ((with_reducible refine Im.vget false ?_ ?_ ?_); exact zd; exact zd)
    | exact zm | exact zx | fail)
end Go.Proofs.YtieohddolkeegaaGreatDoor.VI

end
