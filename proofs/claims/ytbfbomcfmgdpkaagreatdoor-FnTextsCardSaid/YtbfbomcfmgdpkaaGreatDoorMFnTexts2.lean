/- A part of the proof that the law FnTexts answers true at every input that its row speaks of. Conditions: the row's own. -/
import Derived.Test.YtbfbomcfmgdpkaaGreatDoorMFnTexts1
import Derived.Test.YtbfbomcfmgdpkaaGreatDoorMFnTexts0
import Derived.Test.YtbfbomcfmgdpkaaGreatDoorVMore
import Derived.KernelRfl
import Derived.Laws.Strings
import Derived.Test.YtbfbomcfmgdpkaaGreatDoorProg
import Derived.Test.YtbfbomcfmgdpkaaGreatDoorKFnTexts0
import Derived.Test.YtbfbomcfmgdpkaaGreatDoorGlob
import Derived.Test.YtbfbomcfmgdpkaaGreatDoorOpZ
section
namespace Go.Proofs.YtbfbomcfmgdpkaaGreatDoor.VI
open Go Go.RowKit
set_option linter.unusedVariables false
set_option linter.unusedSimpArgs false
theorem befores_len : ∀ (l : List Oper) (acc : List Nat), (befores l acc).length = acc.length + l.length
  | [], acc => rfl
  | o :: r, acc => by rw [befores, befores_len r]; simp; omega
theorem befores_old : ∀ (l : List Oper) (acc : List Nat) (i : Nat), i < acc.length → (befores l acc)[i]? = acc[i]?
  | [], acc, i, h => rfl
  | o :: r, acc, i, h => by rw [befores, befores_old r _ i (by simp; omega), List.getElem?_append_left h]
def edgeBits (acc : List Nat) (o : Oper) : Nat := o.after.toList.foldl (fun s e => match Region.binds .any e with
    | true => s ||| (1 <<< e.on) ||| acc.getD e.on 0
    | false => s) 0
theorem fold_bits (acc : List Nat) (j : Nat) : ∀ (es : List Edge) (s : Nat), (es.foldl (fun s e => match Region.binds .any e with
    | true => s ||| (1 <<< e.on) ||| acc.getD e.on 0
    | false => s) s).testBit j = true → s.testBit j = true ∨ ∃ e ∈ es, Region.binds .any e = true ∧ (e.on = j ∨ (acc.getD e.on 0).testBit j = true)
  | [], s, h => .inl h
  | e :: es, s, h => by
    rw [List.foldl_cons] at h
    rcases fold_bits acc j es _ h with h | ⟨e', he, h1, h2⟩
    · split at h
      · rename_i hb
        rw [Nat.testBit_or, Nat.testBit_or, Bool.or_eq_true, Bool.or_eq_true] at h
        rcases h with (h | h) | h
        · exact .inl h
        · refine .inr ⟨e, by simp, hb, .inl ?_⟩
          rw [Nat.one_shiftLeft, Nat.testBit_two_pow] at h
          simpa using h
        · exact .inr ⟨e, by simp, hb, .inr h⟩
      · exact .inl h
    · exact .inr ⟨e', by simp [he], h1, h2⟩
theorem befores_at : ∀ (l : List Oper) (acc : List Nat) (i : Nat) (o : Oper), l[i]? = some o → (befores l acc)[acc.length + i]? = some (edgeBits ((befores l acc).take (acc.length + i)) o)
  | [], acc, i, o, h => by simp at h
  | x :: r, acc, 0, o, h => by
    simp at h; subst h
    rw [befores, Nat.add_zero, befores_old r _ acc.length (by simp)]
    have ht : (befores r (acc ++ [edgeBits acc x])).take acc.length = acc := by
      refine List.ext_getElem? fun k => ?_
      rw [List.getElem?_take]
      split
      · rw [befores_old r _ k (by simp; omega), List.getElem?_append_left (by omega)]
      · rw [List.getElem?_eq_none (by omega)]
    show (acc ++ [edgeBits acc x])[acc.length]? = _
    simp only [List.getElem?_concat_length, Option.some.injEq]
    show _ = edgeBits ((befores r (acc ++ [edgeBits acc x])).take acc.length) x
    rw [ht]
  | x :: r, acc, i + 1, o, h => by
    have := befores_at r (acc ++ [edgeBits acc x]) i o (by simpa using h)
    rw [befores]
    simp only [List.length_append, List.length_cons, List.length_nil] at this
    rw [show acc.length + (i + 1) = acc.length + (0 + 1) + i by omega]
    exact this
theorem before_edge {l : List Oper} {i j : Nat} {o : Oper} (h : l[i]? = some o) (hb : ((befores l []).getD i 0).testBit j = true) : ∃ e ∈ o.after.toList, Region.binds .any e = true ∧ (e.on = j ∨ (e.on < i ∧ ((befores l []).getD e.on 0).testBit j = true)) := by
  have h1 := befores_at l [] i o h
  simp only [List.length_nil, Nat.zero_add] at h1
  rw [List.getD_eq_getElem?_getD, h1, Option.getD_some] at hb
  rcases fold_bits _ j o.after.toList 0 hb with h2 | ⟨e, he, h2, h3⟩
  · simp at h2
  · refine ⟨e, he, h2, h3.imp id fun h3 => ?_⟩
    rw [List.getD_eq_getElem?_getD, List.getElem?_take] at h3
    split at h3
    · rename_i hlt; exact ⟨hlt, by rw [List.getD_eq_getElem?_getD]; exact h3⟩
    · simp at h3
def Down (l : List Oper) (L : Array Bool) : Prop := ∀ (i : Nat) o, l[i]? = some o → L.getD i false = true → ∀ e ∈ o.after.toList, Region.binds .any e = true → L.getD e.on false = true
theorem before_listed {l : List Oper} {L : Array Bool} (hd : Down l L) : ∀ (i : Nat) (o : Oper), l[i]? = some o → (∀ e ∈ o.after.toList, Region.binds .any e = true → L.getD e.on false = true) → ∀ j, ((befores l []).getD i 0).testBit j = true → L.getD j false = true := by
  intro i
  induction i using Nat.strongRecOn with
  | _ i ih =>
    intro o ho hr j hj
    obtain ⟨e, he, hb, h⟩ := before_edge ho hj
    have hl := hr e he hb
    rcases h with rfl | ⟨hlt, h⟩
    · exact hl
    · have hi : i < l.length := (List.getElem?_eq_some_iff.1 ho).1
      have ho' : l[e.on]? = some (l[e.on]'(by omega)) := List.getElem?_eq_getElem (by omega)
      exact ih e.on hlt _ ho' (hd e.on _ ho' hl) j h
theorem quietN_spec (bs : List Nat) : ∀ n, quietN bs n ≤ n ∧ ∀ j, quietN bs n ≤ j → j < n → bs.getD j 0 = 2 ^ j - 1
  | 0 => ⟨Nat.le_refl _, fun j _ h => absurd h (Nat.not_lt_zero _)⟩
  | n + 1 => by
    obtain ⟨h1, h2⟩ := quietN_spec bs n
    rw [quietN]
    split
    · rename_i hb
      refine ⟨by omega, fun j hj hn => ?_⟩
      by_cases e : j = n
      · subst e; exact Nat.eq_of_beq_eq_true hb
      · exact h2 j hj (by omega)
    · exact ⟨Nat.le_refl _, fun j hj hn => by omega⟩
theorem ready_iff {l : List Oper} {L : Array Bool} {i : Nat} : i ∈ Region.ready .any l.toArray L ↔ ∃ o, l[i]? = some o ∧ L.getD i true = false ∧ ∀ e ∈ o.after.toList, Region.binds .any e = true → L.getD e.on false = true := by
  unfold Region.ready
  simp only [List.mem_filter, List.mem_range, Bool.and_eq_true, Bool.not_eq_true', List.size_toArray, List.getElem?_toArray]
  constructor
  · rintro ⟨h1, h2, h3⟩
    refine ⟨l[i], List.getElem?_eq_getElem h1, h2, fun e he hb => ?_⟩
    rw [List.getElem?_eq_getElem h1] at h3
    simp only [Option.map_some, Option.getD_some, Array.all_eq_true'] at h3
    have := h3 e (by simpa using he)
    rw [hb] at this
    simpa using this
  · rintro ⟨o, h1, h2, h3⟩
    refine ⟨(List.getElem?_eq_some_iff.1 h1).1, h2, ?_⟩
    rw [h1]
    simp only [Option.map_some, Option.getD_some, Array.all_eq_true']
    intro e he
    cases hb : Region.binds .any e
    · rfl
    · simpa using h3 e (by simpa using he) hb
section
variable {P : Program} {NG : Nat} {GW : World → Prop} {io : List Nat} {w0 : World} {pd0 : Nat → Nat → Prop} {G : Gh} {env env' : Env} {a : Act} {w : World}
variable {R : Type} {K : Env → Option R} {r : R} {Q : Exit → Act → World → Prop} {o : Oper} {C : Cx} {ops : List Oper} {al : List Nat}
structure Agree (ops : List Oper) (al : List Nat) (o : Oper) (env env' : Env) : Prop where
  see : ∀ t ∈ o.looksAt ops.toArray, get env' t = get env t
  box : ∀ t cs, t ∉ al → get env t = .bx cs → get env' t = .bx cs
  dst : ∀ d, o.dst = some d → plain (get env' d) = true
  ref : ∀ d ∈ al, env'.any (refersD d) = false
theorem look_op {t : Nat} (h : Operand.tmp t ∈ o.op.operands.toList) : t ∈ o.looksAt ops.toArray := by
  unfold Oper.looksAt
  refine List.mem_append_left _ (List.mem_filterMap.2 ⟨_, h, rfl⟩)
theorem look_guard {j : Nat} {want : Bool} {p : Oper} {t : Nat} (hg : o.guard = some (j, want)) (hj : ops[j]? = some p) (ht : p.dst = some t) : t ∈ o.looksAt ops.toArray := by
  unfold Oper.looksAt
  refine List.mem_append_right _ ?_
  simp [hg, hj, ht]
theorem Agree.rd (h : Agree ops al o env env') : ∀ x ∈ o.op.operands.toList, rdv env' x = rdv env x := by
  intro x hx
  cases x with
  | tmp t => simp only [rdv]; rw [h.see t (look_op hx)]
  | _ => rfl
theorem vput_ok {dst : Option Nat} {v : VV} (h : ∃ r : R, vput (some al) dst v env K = some r) : (∀ d, dst = some d → plain (get env d) = true ∧ plain v = true ∧ al.all (fun t => !(refersD t v)) = true) := by
  obtain ⟨r, h⟩ := h
  intro d hd
  subst hd
  simp only [vput] at h
  split at h
  · rename_i hp; rw [Bool.and_eq_true, Bool.and_eq_true] at hp; exact hp
  · cases h
theorem vput_go {R' : Type} {K' : Env → Option R'} {dst : Option Nat} {v : VV} (h1 : ∀ d, dst = some d → plain (get env d) = true) (h2 : ∀ d, dst = some d → plain v = true ∧ al.all (fun t => !(refersD t v)) = true) : vput (some al) dst v env K' = K' (put dst v env) := by
  cases dst with
  | none => rfl
  | some d =>
    simp only [vput]
    rw [h1 d rfl, (h2 d rfl).1, (h2 d rfl).2]
    simp only [Bool.and_self, vset_eq]
    rfl
theorem nth_set : ∀ (env : Env) (d t : Nat) (v : VV), nth (env.set d v) t = if d = t ∧ d < env.length then v else nth env t
  | [], d, t, v => by simp [nth]
  | a :: r, 0, 0, v => by simp [nth]
  | a :: r, 0, t + 1, v => by simp [nth]
  | a :: r, d + 1, 0, v => by simp [nth]
  | a :: r, d + 1, t + 1, v => by simp only [List.set_cons_succ, nth]; rw [nth_set r d t v]; simp
def put2 (sv : Option (Nat × VV)) (env : Env) : Env := match sv with
  | some p => env.set p.1 p.2
  | none => env
def QStep (P : Program) (NG : Nat) (GW : World → Prop) (io : List Nat) (w0 : World) (pd0 : Nat → Nat → Prop) (Q : Exit → Act → World → Prop) (ops : List Oper) (al : List Nat) (i : Nat) (o : Oper) (env : Env) (v : VV) (sv : Option (Nat × VV)) : Prop :=
  (∀ d, o.dst = some d → plain (get env d) = true) ∧ (∀ t ∈ al, o.dst ≠ none → refersD t v = false) ∧ (∀ cs, v = .bx cs → ∀ d, o.dst = some d → d ∈ al) ∧ (∀ e z xs, v = .mr e z xs → o.dst = none) ∧ (∀ t s, sv = some (t, s) → sdOf ops o = some t ∧ plain (get env t) = true ∧ ∃ xs, s = .sl xs) ∧
    ∀ (env' : Env) (G : Gh) (a : Act) (w : World), Agree ops al o env env' → Sim NG GW io w0 pd0 G env' a w → ∀ Nk : Act → World → Prop, (∀ G' a' w', Sim NG GW io w0 pd0 G' (put o.dst v (put2 sv env')) a' w' → Nk a' w') → wpOp P ops.toArray Q i Nk a w
theorem seen_agree (h : Agree ops al o env env') {j : Nat} {want : Bool} (hg : o.guard = some (j, want)) : seen ops env' j = seen ops env j := by
  unfold seen
  cases hj : ops[j]? with
  | none => rfl
  | some p =>
    simp only
    cases ht : p.dst with
    | none => rfl
    | some t => simp only [h.see t (look_guard hg hj ht)]
theorem quiet_step (hti : TIok P C.ti) (gws : ∀ w w', GW w → Below NG w w' → GW w') (hC : CallOk P NG GW C.call) (hq : quietB C ops o = true) (hal : ∀ d t, o.op = .alloc t → o.dst = some d → d ∈ al) {i : Nat} (hi : ops[i]? = some o) {rest : List Oper} (h : vops C ops (some al) (o :: rest) env K = some r) :
    ∃ v sv, vops C ops (some al) rest (put o.dst v (put2 sv env)) K = some r ∧ QStep P NG GW io w0 pd0 Q ops al i o env v sv := by
  have run : ∀ h : vop C ops (some al) o env (fun env' => vops C ops (some al) rest env' K) = some r, ∃ v, vops C ops (some al) rest (put o.dst v env) K = some r ∧ (∀ d, o.dst = some d → plain (get env d) = true) ∧ (∀ t ∈ al, o.dst ≠ none → refersD t v = false) ∧ (∀ cs, v = .bx cs → ∀ d, o.dst = some d → d ∈ al) ∧ (∀ e z xs, v = .mr e z xs → o.dst = none) ∧
      ∀ (env' : Env), Agree ops al o env env' → ∀ {R' : Type} (K' : Env → Option R'), vop C ops (some al) o env' K' = K' (put o.dst v env') := by
    intro h
    by_cases ha : ∃ t, o.op = .alloc t
    · obtain ⟨t, hop⟩ := ha
      simp only [vop, hop] at h
      split at h
      case h_2 => cases h
      rename_i ti d hti' hd
      have hdm := hal d t hop hd
      simp only [vnew] at h
      split at h
      case h_2 => cases h
      rename_i hc
      rw [Bool.or_eq_false_iff] at hc
      rw [vset_eq] at h
      refine ⟨.bx (ti.zero.map zcell), by rw [hd]; exact h, ?_, fun _ _ _ => rfl, ?_, fun _ _ _ he => VV.noConfusion he, ?_⟩
      · intro d' hd'; rw [hd] at hd'; cases hd'; simpa using hc.2
      · intro cs _ d' hd'; rw [hd] at hd'; cases hd'; exact hdm
      · intro env' hA R' K'
        simp only [vop, hop, hti', hd, vnew]
        rw [hA.ref d hdm, hA.dst d hd]
        simp only [Bool.not_true, Bool.or_self, vset_eq]
        rfl
    · have ha' : ∀ t, o.op ≠ .alloc t := fun t e => ha ⟨t, e⟩
      rw [vop_quiet hq ha'] at h
      obtain ⟨v, hv, huni⟩ := vqu_val h
      have hok := vput_ok ⟨r, hv⟩
      have hK := vput_some hv
      refine ⟨v, hK, fun d hd => (hok d hd).1, fun t ht hne => ?_, fun cs e d hd => ?_, fun e z xs he => ?_, fun env' hA R' K' => ?_⟩
      · cases hd : o.dst with
        | none => exact absurd hd hne
        | some d =>
          have := (hok d hd).2.2
          rw [List.all_eq_true] at this
          simpa using this t ht
      · have := (hok d hd).2.1
        rw [e] at this; cases this
      · cases hd : o.dst with
        | none => rfl
        | some d =>
          have := (hok d hd).2.1
          rw [he] at this; cases this
      · rw [vop_quiet hq ha', vqu_congr (rd := rdv env) (gb := getB (some al) env) hA.rd ?_]
        · rw [huni]
          exact vput_go hA.dst fun d hd => (hok d hd).2
        · intro ty x hop t off hx
          have hb : ∃ cs, getB (some al) env t = .bx cs := by
            simp only [vqu, hop] at h
            split at h
            · cases h
            · rw [hx] at h
              simp only at h
              split at h
              · exact ⟨_, by assumption⟩
              · cases h
          obtain ⟨cs, hcs⟩ := hb
          rw [hcs]
          have hg := getB_bx hcs
          unfold getB at hcs ⊢
          simp only at hcs ⊢
          split at hcs
          · cases hcs
          · rename_i hm
            exact hA.box t cs (fun hmem => by
              have := List.any_eq_false.1 hm t hmem
              simp at this) hg
  have mk : ∀ v, (∀ (env' : Env), Agree ops al o env env' → ∀ {R' : Type} (K' : Env → Option R'), vop C ops (some al) o env' K' = K' (put o.dst v env')) → ∀ (env' : Env) (G : Gh) (a : Act) (w : World), Agree ops al o env env' → Sim NG GW io w0 pd0 G env' a w → ∀ Nk : Act → World → Prop, (∀ G' a' w', Sim NG GW io w0 pd0 G' (put o.dst v env') a' w' → Nk a' w') → o.wp P a w Nk Q := by
    intro v hv env' G a w hA hs Nk hNk
    have := hv env' hA (R' := Env) some
    refine vop_sound (r := put o.dst v env') (K := some) hti gws hC hs (fun G' e' a' w' hs' he => ?_) this
    cases he
    exact hNk G' a' w' hs'
  rw [vops] at h
  split at h
  · rename_i hg
    obtain ⟨v, h1, h2, h3, h4, h5, h6⟩ := run h
    refine ⟨v, none, h1, h2, h3, h4, h5, fun t s he => (by cases he), fun env' G a w hA hs Nk hNk => ?_⟩
    unfold wpOp
    rw [show ops.toArray[i]? = some o by simpa using hi]
    simp only
    rw [if_pos (by simp [Region.wanted, hg])]
    exact .inl (mk v h6 env' G a w hA hs Nk hNk)
  · rename_i j want hg
    have skip : ∀ h : vput (some al) o.dst (.s undef) env (fun env' => vops C ops (some al) rest env' K) = some r, (∀ (env' : Env) (G : Gh) (a : Act) (w : World), Agree ops al o env env' → Sim NG GW io w0 pd0 G env' a w → ¬ Region.wanted o (yielded ops.toArray a.tmps) = true) → ∃ v sv, vops C ops (some al) rest (put o.dst v (put2 sv env)) K = some r ∧ QStep P NG GW io w0 pd0 Q ops al i o env v sv := by
      intro h hw
      have hok := vput_ok ⟨r, h⟩
      refine ⟨.s undef, none, vput_some h, fun d hd => (hok d hd).1, fun _ _ _ => rfl, fun cs e => VV.noConfusion e, fun _ _ _ e => VV.noConfusion e, fun t s he => (by cases he), fun env' G a w hA hs Nk hNk => ?_⟩
      unfold wpOp
      rw [show ops.toArray[i]? = some o by simpa using hi]
      simp only
      rw [if_neg (hw env' G a w hA hs)]
      exact hNk G _ _ (hs.put o.dst fun d _ => VR.slot (VR.of_dr (.s _)) d)
    split at h
    · rename_i b hb
      have hy : ∀ (env' : Env) (G : Gh) (a : Act) (w : World), Agree ops al o env env' → Sim NG GW io w0 pd0 G env' a w → yielded ops.toArray a.tmps j = some b := fun env' G a w hA hs => seen_ok hs (ops := ops.toArray) (by rw [← hb]; exact seen_agree hA hg)
      rcases bite_some h with ⟨hbw, h⟩ | ⟨hbw, h⟩
      · obtain ⟨v, h1, h2, h3, h4, h5, h6⟩ := run h
        refine ⟨v, none, h1, h2, h3, h4, h5, fun t s he => (by cases he), fun env' G a w hA hs Nk hNk => ?_⟩
        unfold wpOp
        rw [show ops.toArray[i]? = some o by simpa using hi]
        simp only
        rw [if_pos (by simp only [Region.wanted, hg, hy env' G a w hA hs]; simpa using hbw)]
        exact .inl (mk v h6 env' G a w hA hs Nk hNk)
      · exact skip h fun env' G a w hA hs => by simp only [Region.wanted, hg, hy env' G a w hA hs]; simpa using hbw
    · rename_i hb
      refine skip h fun env' G a w hA hs => ?_
      have hy : yielded ops.toArray a.tmps j = none := seen_ok hs (ops := ops.toArray) (by rw [← hb]; exact seen_agree hA hg)
      simp [Region.wanted, hg, hy]
    · cases h
theorem get_set_ne {d t : Nat} {s : VV} (h : t ≠ d) : get (env.set t s) d = get env d := by
  unfold get
  rw [nth_set, if_neg (fun e => h e.1)]
def vapp (C : Cx) (c : Call) (a b : VV) : Option (VV × VV) := match c.argTypes.toList with
  | [t, t'] => if Nat.beq t t' then (match C.ti t with
      | some i => (match i.k with
        | .slice e => (match C.ti e with
          | some ie => if 0 < ie.sz ∧ 0 < ie.bytes then (match a, b with
            | .ow e' z xs, .sl ys => if Nat.beq e' e && Nat.beq z ie.sz then bite (decide ((xs.length + ys.length) * ie.bytes ≤ 140737488355328) && ys.all fun v => Nat.beq v.cells.length ie.sz) (some (.sl xs, .ow e ie.sz (xs ++ ys))) none else none
            | .nl, .sl ys => bite (decide (ys.length * ie.bytes ≤ 140737488355328) && ys.all fun v => Nat.beq v.cells.length ie.sz) (some (.sl [], .ow e ie.sz ys)) none
            | _, _ => none) else none
          | none => none)
        | _ => none)
      | none => none) else none
  | _ => none
theorem app_mem {c : Call} {l : List Operand} (hc : c.callee = .builtin .append) (ha : c.args.toList = l) {x : Operand} (hx : x ∈ l) : x ∈ (Op.call c).operands.toList := by
  have h1 : x ∈ c.args := by rw [← Array.mem_toList_iff, ha]; exact hx
  simp [Op.operands, Call.operands, hc, h1]
theorem bite_obind {α β : Type} {b : Bool} {p : α} {f : α → Option β} : obind (bite b (some p) none) f = bite b (f p) none := by cases b <;> rfl
theorem vop_app {R' : Type} {K' : Env → Option R'} {c : Call} {u : Nat} {y : Operand} (hop : o.op = .call c) (hc : c.callee = .builtin .append) (ha : c.args.toList = [.tmp u, y]) {dr : Option (List Nat)} : vop C ops dr o env K' = obind (vapp C c (get env u) (rdv env y)) fun p => vset u p.1 env fun env' => vput dr o.dst p.2 env' K' := by
  simp only [vop, hop, hc, ha, vapp]
  split
  · rename_i x y' t t' e1 e2
    cases e1
    (try simp only [e2])
    split
    · rename_i hb
      (try simp only [hb, if_true])
      split
      · rename_i i hi
        (try simp only [hi])
        split
        · rename_i e hk
          (try simp only [hk])
          split
          · rename_i ie hie
            (try simp only [hie])
            split
            · rename_i hz
              (try simp only [hz, and_self, if_true])
              split
              · rename_i h1 h2
                (try simp only [h1, h2])
                split
                · rename_i hb2
                  (try simp only [hb2, if_true, bite_obind])
                · rename_i hb2
                  (try simp only [hb2])
                  rfl
              · rename_i h1 h2
                (try simp only [h1, h2, bite_obind])
              · rename_i h1 h2
                split
                · exact absurd ‹_› (h1 _ _ _ _ ‹_›)
                · exact absurd ‹_› (h2 _ ‹_›)
                · rfl
            · rename_i hz
              (try simp only [hz, if_false])
              rfl
          · rename_i hie
            (try simp only [hie])
            rfl
        · rename_i hk
          split
          · rename_i e he
            exact absurd he (hk e)
          · rfl
      · rename_i hi
        (try simp only [hi])
        rfl
    · rename_i hb
      (try simp only [hb])
      rfl
  · rename_i hne
    split
    · rename_i t t' e2
      exact absurd e2 (hne u y t t' rfl)
    · rfl
theorem vapp_form {c : Call} {a b s v : VV} (h : vapp C c a b = some (s, v)) : plain a = true ∧ (∃ xs, s = .sl xs) ∧ ∃ e z xs, v = .ow e z xs := by
  unfold vapp at h
  repeat' split at h
  all_goals first
    | (cases h; done)
    | skip
  · rcases bite_some h with ⟨_, h⟩ | ⟨_, h⟩
    · cases h; exact ⟨rfl, ⟨_, rfl⟩, _, _, _, rfl⟩
    · cases h
  · rcases bite_some h with ⟨_, h⟩ | ⟨_, h⟩
    · cases h; exact ⟨rfl, ⟨_, rfl⟩, _, _, _, rfl⟩
    · cases h
theorem own_step (hti : TIok P C.ti) (gws : ∀ w w', GW w → Below NG w w' → GW w') (hC : CallOk P NG GW C.call) (hq : ownMove ops o = true) {i : Nat} (hi : ops[i]? = some o) {rest : List Oper} (h : vops C ops (some al) (o :: rest) env K = some r) :
    ∃ v sv, vops C ops (some al) rest (put o.dst v (put2 sv env)) K = some r ∧ QStep P NG GW io w0 pd0 Q ops al i o env v sv := by
  unfold ownMove at hq
  split at hq
  case h_2 => cases hq
  rename_i t d hsd hg hd
  have hne : t ≠ d := fun e => by subst e; simp at hq
  have hop : (o.op = .move (.tmp t) ∧ fd ops o.dst = true) ∨ ∃ c y, o.op = .call c ∧ c.callee = .builtin .append ∧ c.args.toList = [.tmp t, y] := by
    have hsd' := hsd
    unfold sdOf at hsd'
    split at hsd'
    · rename_i t' hop
      split at hsd'
      · rename_i hf; cases hsd'; exact .inl ⟨hop, hf⟩
      · cases hsd'
    · rename_i c hop
      split at hsd'
      · rename_i u y hc ha; cases hsd'; exact .inr ⟨c, _, hop, hc, ha⟩
      · cases hsd'
    · cases hsd'
  rw [vops, hg] at h
  have fin : ∀ (v : VV) (sv : Option (Nat × VV)), vops C ops (some al) rest (put o.dst v (put2 sv env)) K = some r → (plain (get env d) = true ∧ plain v = true ∧ al.all (fun t => !(refersD t v)) = true) → (∀ t s, sv = some (t, s) → sdOf ops o = some t ∧ plain (get env t) = true ∧ ∃ xs, s = .sl xs) → (∀ (env' : Env), Agree ops al o env env' → ∀ {R' : Type} (K' : Env → Option R'), vop C ops (some al) o env' K' = K' (put o.dst v (put2 sv env'))) →
      ∃ v sv, vops C ops (some al) rest (put o.dst v (put2 sv env)) K = some r ∧ QStep P NG GW io w0 pd0 Q ops al i o env v sv := by
    intro v sv h1 h2 h3 h4
    refine ⟨v, sv, h1, fun d' hd' => ?_, fun u hu _ => ?_, fun cs e => ?_, fun e z xs he => ?_, h3, fun env' G a w hA hs Nk hNk => ?_⟩
    · rw [hd] at hd'; cases hd'; exact h2.1
    · have := h2.2.2
      rw [List.all_eq_true] at this
      simpa using this u hu
    · have := h2.2.1
      rw [e] at this; cases this
    · have := h2.2.1
      rw [he] at this; cases this
    · unfold wpOp
      rw [show ops.toArray[i]? = some o by simpa using hi]
      simp only
      rw [if_pos (by simp [Region.wanted, hg])]
      refine .inl (vop_sound (r := put o.dst v (put2 sv env')) (K := some) hti gws hC hs (fun G' e' a' w' hs' he => ?_) (ops := ops) (dr := some al) ?_)
      · cases he; exact hNk G' a' w' hs'
      · exact h4 env' hA (R' := Env) some
  have go : ∀ (env' : Env) (s v : VV) {R' : Type} (K' : Env → Option R'), plain (get env' d) = true → plain v = true ∧ al.all (fun t => !(refersD t v)) = true → vput (some al) (some d) v (env'.set t s) K' = K' (put (some d) v (env'.set t s)) := fun env' s v R' K' h1 h2 => vput_go (fun d' hd' => by cases hd'; rw [get_set_ne hne]; exact h1) (fun d' _ => h2)
  rcases hop with ⟨hop, hfd⟩ | ⟨c, y, hop, hc, ha⟩
  · rw [hd] at hfd
    have hlook : t ∈ o.looksAt ops.toArray := look_op (by rw [hop]; simp [Op.operands])
    have red : ∀ (env' : Env) {R' : Type} (K' : Env → Option R'), vop C ops (some al) o env' K' = vmove (some al) true (some d) (.tmp t) env' K' := fun env' R' K' => by simp only [vop, hop, hd, hfd]
    rw [red] at h
    cases hgt : get env t with
    | ow e z xs =>
      simp only [vmove, hgt, vset_eq] at h
      have hok := vput_ok ⟨r, h⟩ d rfl
      rw [get_set_ne hne] at hok
      refine fin (.ow e z xs) (some (t, .sl xs)) (by rw [hd]; exact vput_some h) hok (fun t' s' he => ?_) fun env' hA R' K' => ?_
      · cases he; exact ⟨hsd, by rw [hgt]; rfl, xs, rfl⟩
      · have h5 : get env' t = .ow e z xs := (hA.see t hlook).trans hgt
        rw [red]
        simp only [vmove, h5, vset_eq]
        rw [hd]
        exact go env' _ _ K' (hA.dst d hd) hok.2
    | nl =>
      simp only [vmove, hgt] at h
      have hok := vput_ok ⟨r, h⟩ d rfl
      refine fin .nl none (by rw [hd]; exact vput_some h) hok (fun t' s' he => by cases he) fun env' hA R' K' => ?_
      have h5 : get env' t = .nl := (hA.see t hlook).trans hgt
      rw [red]
      simp only [vmove, h5]
      rw [hd]
      exact vput_go (fun d' hd' => by cases hd'; exact hA.dst d hd) (fun d' _ => hok.2)
    | _ =>
      simp only [vmove, hgt] at h
      have hok := vput_ok ⟨r, h⟩ d rfl
      refine fin (rdv env (.tmp t)) none (by rw [hd]; exact vput_some h) hok (fun t' s' he => by cases he) fun env' hA R' K' => ?_
      have h5 := (hA.see t hlook).trans hgt
      have h6 : rdv env' (.tmp t) = rdv env (.tmp t) := by simp only [rdv, h5, hgt]
      rw [red]
      simp only [vmove, h5]
      rw [hd, h6]
      exact vput_go (fun d' hd' => by cases hd'; exact hA.dst d hd) (fun d' _ => hok.2)
  · have hlook : t ∈ o.looksAt ops.toArray := look_op (by rw [hop]; exact app_mem hc ha (by simp))
    have hy : ∀ env', Agree ops al o env env' → rdv env' y = rdv env y := fun env' hA => hA.rd y (by rw [hop]; exact app_mem hc ha (by simp))
    rw [vop_app hop hc ha] at h
    cases hv : vapp C c (get env t) (rdv env y) with
    | none => rw [hv] at h; cases h
    | some p =>
      obtain ⟨s, v⟩ := p
      obtain ⟨f1, ⟨ys, rfl⟩, e, z, xs, rfl⟩ := vapp_form hv
      rw [hv] at h
      have h' : vset t (.sl ys) env (fun env' => vput (some al) o.dst (.ow e z xs) env' fun env' => vops C ops (some al) rest env' K) = some r := h
      rw [vset_eq, hd] at h'
      have hok := vput_ok ⟨r, h'⟩ d rfl
      rw [get_set_ne hne] at hok
      refine fin (.ow e z xs) (some (t, .sl ys)) (by rw [hd]; exact vput_some h') hok (fun t' s' he => ?_) fun env' hA R' K' => ?_
      · cases he; exact ⟨hsd, f1, ys, rfl⟩
      · rw [vop_app hop hc ha, hA.see t hlook, hy env' hA, hv]
        show vset t (.sl ys) env' (fun env' => vput (some al) o.dst (.ow e z xs) env' K') = _
        rw [vset_eq, hd]
        exact go env' _ _ K' (hA.dst d hd) hok.2
end
section
variable {D : Nat → Option Nat} {vals : Nat → VV} {env0 env : Env} {n : Nat}
def chainE (D : Nat → Option Nat) (vals : Nat → VV) (env0 : Env) : Nat → Env
  | 0 => env0
  | k + 1 => put (D k) (vals k) (chainE D vals env0 k)
theorem chainE_congr {D' : Nat → Option Nat} {vals' : Nat → VV} : ∀ k, (∀ j, j < k → vals j = vals' j) → (∀ j, j < k → D j = D' j) → chainE D vals env0 k = chainE D' vals' env0 k
  | 0, _, _ => rfl
  | k + 1, h, g => by rw [chainE, chainE, chainE_congr k (fun j hj => h j (by omega)) (fun j hj => g j (by omega)), h k (by omega), g k (by omega)]
structure QS (D : Nat → Option Nat) (vals : Nat → VV) (env0 : Env) (n : Nat) (S : Nat → Prop) (env : Env) : Prop where
  len : env.length = env0.length
  hit : ∀ (k : Nat) d, k < n → D k = some d → S k → d < env0.length → (∀ j, k < j → j < n → D j = some d → ¬ S j) → get env d = vals k
  miss : ∀ t, (∀ (k : Nat), k < n → D k = some t → ¬ S k) → get env t = get env0 t
theorem get_put {dst : Option Nat} {v : VV} {t : Nat} : get (put dst v env) t = if dst = some t ∧ t < env.length then v else get env t := by
  cases dst with
  | none => simp [put]
  | some d =>
    simp only [put, get]
    rw [nth_set]
    by_cases h : d = t
    · subst h; simp
    · simp [h]
theorem put_len {dst : Option Nat} {v : VV} : (put dst v env).length = env.length := by cases dst <;> simp [put]
theorem QS.step {S : Nat → Prop} (h : QS D vals env0 n S env) {k : Nat} (hk : k < n) (hS : ¬ S k) (hlast : ∀ (j : Nat) d, k < j → j < n → D j = some d → D k = some d → ¬ S j) : QS D vals env0 n (fun j => S j ∨ j = k) (put (D k) (vals k) env) := by
  refine ⟨put_len.trans h.len, ?_, ?_⟩
  · intro j d hj hd hSj hlt hmax
    rw [get_put]
    by_cases e : j = k
    · subst e
      rw [if_pos ⟨hd, by rw [h.len]; exact hlt⟩]
    · have hSj' := hSj.resolve_right e
      rw [if_neg (fun h2 => by
        rcases Nat.lt_or_gt_of_ne e with h3 | h3
        · exact hmax k h3 hk h2.1 (.inr rfl)
        · exact hlast j d h3 hj hd h2.1 hSj')]
      exact h.hit j d hj hd hSj' hlt fun j' h1 h2 h3 h4 => hmax j' h1 h2 h3 (.inl h4)
  · intro t ht
    rw [get_put, if_neg (fun h2 => ht k hk h2.1 (.inr rfl))]
    exact h.miss t fun j hj hd hs => ht j hj hd (.inl hs)
theorem QS.congr {S S' : Nat → Prop} (h : QS D vals env0 n S env) (e : ∀ k, k < n → (S k ↔ S' k)) : QS D vals env0 n S' env :=
  ⟨h.len, fun k d hk hd hs hlt hm => h.hit k d hk hd ((e k hk).2 hs) hlt fun j h1 h2 h3 h4 => hm j h1 h2 h3 ((e j h2).1 h4), fun t ht => h.miss t fun k hk hd hs => ht k hk hd ((e k hk).1 hs)⟩
theorem QS.chain : ∀ k, k ≤ n → QS D vals env0 n (fun j => j < k) (chainE D vals env0 k)
  | 0, _ => ⟨rfl, fun _ _ _ _ h => absurd h (Nat.not_lt_zero _), fun _ _ => rfl⟩
  | k + 1, hk => by
    have := (QS.chain k (by omega)).step (k := k) (by omega) (by omega) (fun j d hj _ _ _ h => by omega)
    rw [chainE]
    exact this.congr fun j _ => by omega
open Classical in
theorem exists_max {p : Nat → Prop} : ∀ n, (∃ k, k < n ∧ p k) → ∃ k, k < n ∧ p k ∧ ∀ j, k < j → j < n → ¬ p j
  | 0, h => by obtain ⟨k, h1, _⟩ := h; omega
  | n + 1, h => by
    by_cases hp : p n
    · exact ⟨n, by omega, hp, fun j h1 h2 => by omega⟩
    · obtain ⟨k, h1, h2⟩ := h
      obtain ⟨k', h3, h4, h5⟩ := exists_max n ⟨k, by
        rcases Nat.lt_or_ge k n with h | h
        · exact h
        · exact absurd (by rw [show n = k by omega]; exact h2) hp, h2⟩
      exact ⟨k', by omega, h4, fun j h6 h7 => by
        rcases Nat.lt_or_ge j n with h | h
        · exact h5 j h6 h
        · rw [show j = n by omega]; exact hp⟩
open Classical in
theorem exists_min {p : Nat → Prop} {k : Nat} (h : p k) : ∃ k', k' ≤ k ∧ p k' ∧ ∀ j, j < k' → ¬ p j := by
  induction k using Nat.strongRecOn with
  | _ k ih =>
    by_cases hx : ∃ j, j < k ∧ p j
    · obtain ⟨j, h1, h2⟩ := hx
      obtain ⟨k', h3, h4, h5⟩ := ih j h1 h2
      exact ⟨k', by omega, h4, h5⟩
    · exact ⟨k, Nat.le_refl _, h, fun j h1 h2 => hx ⟨j, h1, h2⟩⟩
theorem env_ext : ∀ {e e' : Env}, e.length = e'.length → (∀ t, t < e.length → get e t = get e' t) → e = e'
  | [], [], _, _ => rfl
  | a :: r, b :: s, hl, h => by
    have h0 := h 0 (by simp)
    have := env_ext (e := r) (e' := s) (by simpa using hl) fun t ht => h (t + 1) (by simp; omega)
    simp [get, nth] at h0
    rw [h0, this]
  | [], _ :: _, hl, _ => by simp at hl
  | _ :: _, [], hl, _ => by simp at hl
open Classical in
theorem QS.uniq {S : Nat → Prop} {env' : Env} (h : QS D vals env0 n S env) (h' : QS D vals env0 n S env') : env = env' := by
  refine env_ext (h.len.trans h'.len.symm) fun t ht => ?_
  by_cases hx : ∃ k, k < n ∧ (D k = some t ∧ S k)
  · obtain ⟨k, h1, ⟨h3, h4⟩, h5⟩ := exists_max n hx
    rw [h.len] at ht
    have h6 : ∀ j, k < j → j < n → D j = some t → ¬ S j := fun j a b c d => h5 j a b ⟨c, d⟩
    rw [h.hit k t h1 h3 h4 ht h6, h'.hit k t h1 h3 h4 ht h6]
  · have hm : ∀ (k : Nat), k < n → D k = some t → ¬ S k := fun k h1 h3 h4 => hx ⟨k, h1, h3, h4⟩
    rw [h.miss t hm, h'.miss t hm]
end
section
variable {P : Program} {NG : Nat} {GW : World → Prop} {io : List Nat} {w0 : World} {pd0 : Nat → Nat → Prop} {C : Cx} {R : Type} {K : Env → Option R} {r : R} {Q : Exit → Act → World → Prop} {l : List Oper} {env0 : Env} {al : List Nat}
def Wr (l : List Oper) (o : Oper) (d : Nat) : Prop := o.dst = some d ∨ sdOf l o = some d
theorem wl_mem {o : Oper} {d : Nat} : d ∈ wl l o ↔ Wr l o d := by
  unfold wl Wr
  cases o.dst <;> cases sdOf l o <;> simp [eq_comm]
theorem wrIn_false {o : Oper} {ts : List Nat} (h : wrIn l o ts = false) {d : Nat} (hd : Wr l o d) : d ∉ ts := by
  unfold wrIn at h
  intro hm
  have := List.any_eq_false.1 h d (wl_mem.2 hd)
  simp only [Bool.not_eq_true, List.any_eq_false] at this
  have h2 := this d hm
  simp at h2
structure Ord (C : Cx) (l : List Oper) (n : Nat) : Prop where
  edge : ∀ (j : Nat) y, l[j]? = some y → ∀ e ∈ y.after.toList, Region.binds .any e = true → e.on < j
  quiet : ∀ (j : Nat) y, j < n → l[j]? = some y → quietB C l y = true ∨ ownMove l y = true
  dist : ∀ (i j : Nat) p o d, i < j → j < n → l[i]? = some p → l[j]? = some o → Wr l p d → Wr l o d → ((befores l []).getD j 0).testBit i = true
  apart : ∀ (i j : Nat) x y, i < j → j < n → l[i]? = some x → l[j]? = some y → ((befores l []).getD j 0).testBit i = false → (∀ d, Wr l x d → d ∉ y.looksAt l.toArray) ∧ (∀ d, Wr l y d → d ∉ x.looksAt l.toArray)
  solid : ∀ (i j : Nat), n ≤ j → j < l.length → i < j → ((befores l []).getD j 0).testBit i = true
  le : n ≤ l.length
theorem own_ne {o : Oper} (h : ownMove l o = true) {d : Nat} (h1 : o.dst = some d) : sdOf l o ≠ some d := by
  intro h2
  unfold ownMove at h
  rw [h1, h2] at h
  split at h
  · rename_i t d' e1 e2 e3
    cases e1; cases e3
    simp at h
  · cases h
theorem anyOrder_ord (h : anyOrder C l = true) : ∃ n, Ord C l n := by
  unfold anyOrder at h
  simp only [List.all_eq_true, List.mem_range] at h
  obtain ⟨hn1, hn2⟩ := quietN_spec (befores l []) l.length
  refine ⟨quietN (befores l []) l.length, ?_⟩
  have hj : ∀ (j : Nat) y, l[j]? = some y → (∀ e ∈ y.after.toList, Region.binds .any e = true → e.on < j) ∧ (quietN (befores l []) l.length ≤ j ∨ ((quietB C l y = true ∨ ownMove l y = true) ∧ ∀ i, i < j → ∀ x, l[i]? = some x → (((befores l []).getD j 0).testBit i = true ∨ (wrIn l x (wl l y) = false ∧ (wrIn l x (y.looksAt l.toArray) = false ∧ wrIn l y (x.looksAt l.toArray) = false))))) := by
    intro j y hy
    have := h j (List.getElem?_eq_some_iff.1 hy).1
    rw [hy] at this
    simp only [Bool.and_eq_true, List.all_eq_true, Bool.or_eq_true] at this
    refine ⟨fun e he hb => ?_, ?_⟩
    · rcases this.1 e he with h1 | h1
      · rw [hb] at h1; cases h1
      · simpa [Nat.blt_eq] using h1
    · rcases this.2 with h1 | ⟨h1, h2⟩
      · exact .inl (by simpa using h1)
      · refine .inr ⟨h1, fun i hi x hx => ?_⟩
        have h3 := h2 i (by simpa using hi)
        rw [hx] at h3
        simp only [Bool.and_eq_true, Bool.or_eq_true, Bool.not_eq_true'] at h3
        exact h3
  refine ⟨fun j y hy => (hj j y hy).1, ?_, ?_, ?_, ?_, hn1⟩
  · intro j y hlt hy
    rcases (hj j y hy).2 with h1 | h1
    · omega
    · exact h1.1
  · intro i j p o d hij hjn hp ho hd hd'
    rcases (hj j o ho).2 with h1 | h1
    · omega
    · rcases h1.2 i hij p hp with h2 | h2
      · exact h2
      · exact absurd (wl_mem.2 hd') (wrIn_false h2.1 hd)
  · intro i j x y hij hjn hx hy hb
    rcases (hj j y hy).2 with h1 | h1
    · omega
    · rcases h1.2 i hij x hx with h2 | h2
      · rw [hb] at h2; cases h2
      · exact ⟨fun d hd => wrIn_false h2.2.1 hd, fun d hd => wrIn_false h2.2.2 hd⟩
  · intro i j hnj hjl hij
    rw [hn2 j hnj hjl, Nat.testBit_two_pow_sub_one]
    simpa using hij
def DD (l : List Oper) (sv : Nat → Option (Nat × VV)) (j : Nat) : Option Nat := match j % 2 with
  | 0 => (sv (j / 2)).map Prod.fst
  | _ => (l[j / 2]?).bind (·.dst)
def VD (vals : Nat → VV) (sv : Nat → Option (Nat × VV)) (j : Nat) : VV := match j % 2 with
  | 0 => ((sv (j / 2)).map Prod.snd).getD .un
  | _ => vals (j / 2)
theorem DD_even {sv : Nat → Option (Nat × VV)} {k : Nat} : DD l sv (2 * k) = (sv k).map Prod.fst := by
  unfold DD
  rw [show 2 * k % 2 = 0 by omega, show 2 * k / 2 = k by omega]
  rfl
theorem DD_odd {sv : Nat → Option (Nat × VV)} {k : Nat} : DD l sv (2 * k + 1) = (l[k]?).bind (·.dst) := by
  unfold DD
  rw [show (2 * k + 1) % 2 = 1 by omega, show (2 * k + 1) / 2 = k by omega]
  rfl
theorem VD_even {vals : Nat → VV} {sv : Nat → Option (Nat × VV)} {k : Nat} : VD vals sv (2 * k) = ((sv k).map Prod.snd).getD .un := by
  unfold VD
  rw [show 2 * k % 2 = 0 by omega, show 2 * k / 2 = k by omega]
  rfl
theorem VD_odd {vals : Nat → VV} {sv : Nat → Option (Nat × VV)} {k : Nat} : VD vals sv (2 * k + 1) = vals k := by
  unfold VD
  rw [show (2 * k + 1) % 2 = 1 by omega, show (2 * k + 1) / 2 = k by omega]
  rfl
theorem put_put2 {sv : Option (Nat × VV)} {env : Env} : put (sv.map Prod.fst) ((sv.map Prod.snd).getD .un) env = put2 sv env := by
  cases sv <;> rfl
def chO (l : List Oper) (vals : Nat → VV) (sv : Nat → Option (Nat × VV)) (env0 : Env) (k : Nat) : Env := chainE (DD l sv) (VD vals sv) env0 (2 * k)
theorem chO_succ {vals : Nat → VV} {sv : Nat → Option (Nat × VV)} {k : Nat} {o : Oper} (ho : l[k]? = some o) : chO l vals sv env0 (k + 1) = put o.dst (vals k) (put2 (sv k) (chO l vals sv env0 k)) := by
  unfold chO
  rw [show 2 * (k + 1) = 2 * k + 1 + 1 by omega, chainE, chainE, DD_odd, VD_odd, DD_even, VD_even, put_put2, ho]
  rfl
theorem chO_congr {vals vals' : Nat → VV} {sv sv' : Nat → Option (Nat × VV)} {k : Nat} (h : ∀ j, j < k → vals j = vals' j) (g : ∀ j, j < k → sv j = sv' j) : chO l vals sv env0 k = chO l vals' sv' env0 k := by
  unfold chO
  refine chainE_congr _ (fun j hj => ?_) (fun j hj => ?_)
  · unfold VD
    rw [h (j / 2) (by omega), g (j / 2) (by omega)]
  · unfold DD
    rw [g (j / 2) (by omega)]
theorem canon (hti : TIok P C.ti) (gws : ∀ w w', GW w → Below NG w w' → GW w') (hC : CallOk P NG GW C.call) {n : Nat} (hO : Ord C l n) (hal : ∀ (k : Nat) o t d, l[k]? = some o → o.op = .alloc t → o.dst = some d → d ∈ al) (h : vops C l (some al) l env0 K = some r) :
    ∀ m, m ≤ n → ∃ (vals : Nat → VV) (sv : Nat → Option (Nat × VV)), vops C l (some al) (l.drop m) (chO l vals sv env0 m) K = some r ∧ (∀ k, m ≤ k → sv k = none) ∧ ∀ (k : Nat) o, k < m → l[k]? = some o → QStep P NG GW io w0 pd0 Q l al k o (chO l vals sv env0 k) (vals k) (sv k)
  | 0, _ => ⟨fun _ => .un, fun _ => none, h, fun _ _ => rfl, fun k o hk => absurd hk (Nat.not_lt_zero _)⟩
  | m + 1, hm => by
    obtain ⟨vals, sv, h1, h0, h2⟩ := canon hti gws hC hO hal h m (by omega)
    have hl := hO.le
    have ho : l[m]? = some (l[m]'(by omega)) := List.getElem?_eq_getElem (by omega)
    rw [List.drop_eq_getElem_cons (by omega)] at h1
    obtain ⟨v, s, h3, h4⟩ : ∃ v s, vops C l (some al) (l.drop (m + 1)) (put (l[m]'(by omega)).dst v (put2 s (chO l vals sv env0 m))) K = some r ∧ QStep P NG GW io w0 pd0 Q l al m (l[m]'(by omega)) (chO l vals sv env0 m) v s := by
      rcases hO.quiet m _ (by omega) ho with hq | hq
      · exact quiet_step (io := io) (w0 := w0) (pd0 := pd0) (Q := Q) hti gws hC hq (fun d t h5 h6 => hal m _ t d ho h5 h6) ho h1
      · exact own_step (io := io) (w0 := w0) (pd0 := pd0) (Q := Q) hti gws hC hq ho h1
    let vals' : Nat → VV := fun k => if k = m then v else vals k
    let sv' : Nat → Option (Nat × VV) := fun k => if k = m then s else sv k
    have hc : ∀ k, k ≤ m → chO l vals sv env0 k = chO l vals' sv' env0 k := fun k hk => chO_congr (fun j hj => by simp only [vals']; rw [if_neg (by omega)]) (fun j hj => by simp only [sv']; rw [if_neg (by omega)])
    refine ⟨vals', sv', ?_, fun k hk => ?_, fun k o hk hok => ?_⟩
    · rw [chO_succ ho, ← hc m (Nat.le_refl _)]
      simp only [vals', sv', if_pos]
      exact h3
    · simp only [sv']
      rw [if_neg (by omega)]
      exact h0 k (by omega)
    · by_cases e : k = m
      · subst e
        rw [ho] at hok; cases hok
        rw [← hc k (Nat.le_refl _)]
        simp only [vals', sv', if_pos]
        exact h4
      · rw [← hc k (by omega)]
        simp only [vals', sv', if_neg e]
        exact h2 k o (by omega) hok
end
def unl : List Bool → Nat
  | [] => 0
  | true :: r => unl r
  | false :: r => unl r + 1
theorem unl_set : ∀ (l : List Bool) (i : Nat), l[i]? = some false → unl (l.set i true) + 1 = unl l
  | [], i, h => by simp at h
  | true :: r, 0, h => by simp at h
  | false :: r, 0, h => rfl
  | true :: r, i + 1, h => by rw [List.set_cons_succ]; simp only [unl]; exact unl_set r i (by simpa using h)
  | false :: r, i + 1, h => by rw [List.set_cons_succ]; simp only [unl]; rw [unl_set r i (by simpa using h)]
theorem unl_zero : ∀ (l : List Bool), unl l = 0 → ∀ i : Nat, l[i]? ≠ some false
  | [], h, i => by simp
  | true :: r, h, 0 => by simp
  | false :: r, h, i => by simp [unl] at h
  | true :: r, h, i + 1 => by rw [List.getElem?_cons_succ]; exact unl_zero r (by simpa only [unl] using h) i
theorem unl_rep : ∀ n, unl (List.replicate n false) = n
  | 0 => rfl
  | n + 1 => by rw [List.replicate_succ, unl, unl_rep n]
theorem nat_eq {a b : Nat} (h : ¬ a < b) (k : ¬ b < a) : a = b := by omega
theorem listed_set {L : Array Bool} {i j : Nat} (hi : i < L.size) : (L.setIfInBounds i true).getD j false = true ↔ L.getD j false = true ∨ j = i := by
  simp only [Array.getD_eq_getD_getElem?, Array.getElem?_setIfInBounds]
  by_cases h : i = j
  · subst h; simp [hi]
  · rw [if_neg h]
    have : j ≠ i := fun e => h e.symm
    simp [this]
section
variable {P : Program} {NG : Nat} {GW : World → Prop} {io : List Nat} {w0 : World} {pd0 : Nat → Nat → Prop} {C : Cx} {R : Type} {K : Env → Option R} {r : R} {Q : Exit → Act → World → Prop} {env0 : Env} {ops : Array Oper} {n : Nat} {vals : Nat → VV} {sv : Nat → Option (Nat × VV)}
open Classical in
theorem QS.at {D : Nat → Option Nat} {S S' : Nat → Prop} {e e' : Env} (h : QS D vals env0 n S e) (h' : QS D vals env0 n S' e') {t : Nat} (hs : ∀ (k : Nat), k < n → D k = some t → (S k ↔ S' k)) : get e t = get e' t := by
  by_cases ht : t < env0.length
  · by_cases hx : ∃ (k : Nat), k < n ∧ (D k = some t ∧ S k)
    · obtain ⟨k, h1, ⟨h3, h4⟩, h5⟩ := exists_max n hx
      rw [h.hit k t h1 h3 h4 ht fun j a b c d => h5 j a b ⟨c, d⟩, h'.hit k t h1 h3 ((hs k h1 h3).1 h4) ht fun j a b c d => h5 j a b ⟨c, (hs j b c).2 d⟩]
    · have hm : ∀ (k : Nat), k < n → D k = some t → ¬ S k := fun k h1 h3 h4 => hx ⟨k, h1, h3, h4⟩
      rw [h.miss t hm, h'.miss t fun k h1 h3 h4 => hm k h1 h3 ((hs k h1 h3).2 h4)]
  · have hn : ∀ {e : Env}, e.length = env0.length → get e t = .un := fun he => nth_none (List.getElem?_eq_none (by omega))
    rw [hn h.len, hn h'.len]
theorem vops_step {dr : Option (List Nat)} (hti : TIok P C.ti) (gws : ∀ w w', GW w → Below NG w w' → GW w') (hC : CallOk P NG GW C.call) {G : Gh} {env : Env} {a : Act} {w : World} {i : Nat} {o : Oper} {rest : List Oper} {Nk : Act → World → Prop} (hi : ops[i]? = some o) (hs : Sim NG GW io w0 pd0 G env a w) (h : vops C ops.toList dr (o :: rest) env K = some r) (hN : ∀ G' env' a' w', Sim NG GW io w0 pd0 G' env' a' w' → vops C ops.toList dr rest env' K = some r → Nk a' w') : wpOp P ops Q i Nk a w := by
  have hnext : Nx NG GW io w0 pd0 (fun env' => vops C ops.toList dr rest env' K) r Nk := fun G' env' a' w' hs' h' => hN G' env' a' w' hs' h'
  unfold wpOp
  rw [hi]
  simp only
  rw [vops] at h
  split at h
  · rename_i hg
    have hw : Region.wanted o (yielded ops a.tmps) = true := by simp [Region.wanted, hg]
    rw [if_pos hw]
    exact .inl (vop_sound hti gws hC hs hnext h)
  · rename_i j want hg
    have hskip : ∀ (h2 : vput dr o.dst (.s undef) env (fun env' => vops C ops.toList dr rest env' K) = some r), Nk (a.put o.dst undef) w := fun h2 => hnext _ _ _ _ (hs.put o.dst fun d _ => VR.slot (VR.of_dr (.s _)) d) (vput_some h2)
    split at h
    · rename_i b hb
      have hy := seen_ok hs hb
      rcases bite_some h with ⟨hbw, h⟩ | ⟨hbw, h⟩
      · have hw : Region.wanted o (yielded ops a.tmps) = true := by simp only [Region.wanted, hg, hy]; simpa using hbw
        rw [if_pos hw]
        exact .inl (vop_sound hti gws hC hs hnext h)
      · have hw : ¬ Region.wanted o (yielded ops a.tmps) = true := by simp only [Region.wanted, hg, hy]; simpa using hbw
        rw [if_neg hw]
        exact hskip h
    · rename_i hb
      have hy := seen_ok hs hb
      have hw : ¬ Region.wanted o (yielded ops a.tmps) = true := by simp [Region.wanted, hg, hy]
      rw [if_neg hw]
      exact hskip h
    · cases h
inductive AnySt (C : Cx) (ops : Array Oper) (K : Env → Option R) (r : R) (vals : Nat → VV) (sv : Nat → Option (Nat × VV)) (env0 : Env) (n : Nat) (L : Array Bool) (env : Env) : Prop where
  | quiet (h0 : ∀ j, n ≤ j → L.getD j false = false) (h1 : Down ops.toList L) (h2 : QS (DD ops.toList sv) (VD vals sv) env0 (2 * n) (fun j => L.getD (j / 2) false = true) env)
  | last (j : Nat) (h0 : ∀ i, L.getD i false = true ↔ i < j) (hn : n ≤ j) (hj : j ≤ ops.size) (h1 : vops C ops.toList (some (allocs ops.toList)) (ops.toList.drop j) env K = some r)
theorem any_ok (hti : TIok P C.ti) (gws : ∀ w w', GW w → Below NG w w' → GW w') (hC : CallOk P NG GW C.call) (hO : Ord C ops.toList n)
    (hal0 : (allocs ops.toList).any (fun d => env0.any (refersD d)) = false)
    (hch : vops C ops.toList (some (allocs ops.toList)) (ops.toList.drop n) (chO ops.toList vals sv env0 n) K = some r)
    (hq : ∀ (k : Nat) o, k < n → ops.toList[k]? = some o → QStep P NG GW io w0 pd0 Q ops.toList (allocs ops.toList) k o (chO ops.toList vals sv env0 k) (vals k) (sv k)) (hsv : ∀ k, n ≤ k → sv k = none)
    (hn : Nx NG GW io w0 pd0 K r (Q .normal)) :
    ∀ (fuel : Nat) (L : Array Bool) (G : Gh) (env : Env) (a : Act) (w : World), L.size = ops.size → unl L.toList ≤ fuel → AnySt C ops K r vals sv env0 n L env → Sim NG GW io w0 pd0 G env a w → wpAny P .any ops Q fuel L a w := by
  have wr : ∀ (j : Nat) t, DD ops.toList sv j = some t → j < 2 * n → ∃ o, ops.toList[j / 2]? = some o ∧ Wr ops.toList o t ∧ (j % 2 = 0 → sdOf ops.toList o = some t ∧ plain (get (chO ops.toList vals sv env0 (j / 2)) t) = true ∧ ∃ xs, VD vals sv j = .sl xs) ∧ (j % 2 = 1 → o.dst = some t) := by
    intro j t hj hjn
    have hlt : j / 2 < ops.toList.length := by have := hO.le; omega
    have ho : ops.toList[j / 2]? = some (ops.toList[j / 2]'hlt) := List.getElem?_eq_getElem hlt
    refine ⟨_, ho, ?_⟩
    rcases Nat.mod_two_eq_zero_or_one j with h2 | h2
    · have e : j = 2 * (j / 2) := by omega
      rw [e, DD_even] at hj
      cases hs : sv (j / 2) with
      | none => rw [hs] at hj; cases hj
      | some p =>
        rw [hs] at hj
        obtain ⟨t', s'⟩ := p
        cases hj
        obtain ⟨h3, h4, xs, h5⟩ := (hq (j / 2) _ (by omega) ho).2.2.2.2.1 _ s' hs
        refine ⟨.inr h3, fun _ => ⟨h3, h4, xs, ?_⟩, fun h => by omega⟩
        rw [e, VD_even, hs]
        exact h5
    · have e : j = 2 * (j / 2) + 1 := by omega
      rw [e, DD_odd, ho] at hj
      exact ⟨.inl hj, fun h => by omega, fun _ => hj⟩
  have full : ∀ (L : Array Bool) (G : Gh) (env : Env) (a : Act) (w : World), (∀ i, i < ops.size → L.getD i false = true) → AnySt C ops K r vals sv env0 n L env → Sim NG GW io w0 pd0 G env a w → Q .normal a w := by
    intro L G env a w hf hst hs
    have hl := hO.le
    cases hst with
    | quiet h0 h1 h2 =>
      have hnn : ops.size ≤ n := Nat.le_of_not_lt fun hlt => by have := hf n hlt; rw [h0 n (Nat.le_refl _)] at this; cases this
      have he : env = chO ops.toList vals sv env0 n := h2.uniq ((QS.chain (2 * n) (Nat.le_refl _)).congr fun k hk => ⟨fun _ => hf (k / 2) (by simp at hl; omega), fun _ => hk⟩)
      rw [List.drop_eq_nil_of_le (by simpa using hnn), ← he] at hch
      exact hn _ _ _ _ hs hch
    | last j h0 hnj hj h1 =>
      have : ops.size ≤ j := Nat.le_of_not_lt fun hlt => by have := (h0 j).1 (hf j hlt); omega
      rw [List.drop_eq_nil_of_le (by simpa using this)] at h1
      exact hn _ _ _ _ hs h1
  have noready : ∀ (L : Array Bool), L.size = ops.size → Region.ready .any ops L = [] → ∀ i, i < ops.size → L.getD i false = true := by
    intro L hsz hr i
    induction i using Nat.strongRecOn with
    | _ i ih =>
      intro hi
      by_cases hL : L.getD i false = true
      · exact hL
      · exfalso
        have ho : ops.toList[i]? = some (ops.toList[i]'(by simpa using hi)) := List.getElem?_eq_getElem (by simpa using hi)
        have hm : i ∈ Region.ready .any ops.toList.toArray L := ready_iff.2 ⟨_, ho, by
          simp only [Array.getD_eq_getD_getElem?] at hL ⊢
          rw [Array.getElem?_eq_getElem (by omega)] at hL ⊢
          simpa using hL, fun e he hb => by
            have := hO.edge i _ ho e he hb
            exact ih e.on this (by omega)⟩
        rw [Array.toArray_toList] at hm
        rw [hr] at hm; cases hm
  intro fuel
  induction fuel with
  | zero =>
    intro L G env a w hsz hu hst hs
    have hall : ∀ i, i < ops.size → L.getD i false = true := by
      intro i hi
      have := unl_zero L.toList (by omega) i
      rw [Array.getElem?_toList, Array.getElem?_eq_getElem (by omega)] at this
      rw [Array.getD_eq_getD_getElem?, Array.getElem?_eq_getElem (by omega)]
      simpa using this
    refine ⟨?_, full L G env a w hall hst hs⟩
    refine List.eq_nil_iff_forall_not_mem.2 fun i hi => ?_
    rw [← Array.toArray_toList (xs := ops)] at hi
    obtain ⟨o, ho, h1, h2⟩ := ready_iff.1 hi
    have hlt : i < ops.size := by simpa using (List.getElem?_eq_some_iff.1 ho).1
    have := hall i hlt
    rw [Array.getD_eq_getD_getElem?, Array.getElem?_eq_getElem (by omega)] at this h1
    simp at this h1
    rw [this] at h1; cases h1
  | succ fuel ih =>
    intro L G env a w hsz hu hst hs
    refine ⟨fun hr => full L G env a w (noready L hsz hr) hst hs, fun i hi => ?_⟩
    rw [← Array.toArray_toList (xs := ops)] at hi
    obtain ⟨o, ho, hLi, hre⟩ := ready_iff.1 hi
    have hlt : i < ops.size := by simpa using (List.getElem?_eq_some_iff.1 ho).1
    have hLi' : L.getD i false = false := by
      rw [Array.getD_eq_getD_getElem?, Array.getElem?_eq_getElem (by omega)] at hLi ⊢
      simpa using hLi
    have hget : L.toList[i]? = some false := by
      rw [Array.getD_eq_getD_getElem?, Array.getElem?_eq_getElem (by omega)] at hLi
      rw [Array.getElem?_toList, Array.getElem?_eq_getElem (by omega)]
      simpa using hLi
    have hoa : ops[i]? = some o := by rw [← ho]; simp
    have hsz' : (L.setIfInBounds i true).size = ops.size := by simpa using hsz
    have hu' : unl (L.setIfInBounds i true).toList ≤ fuel := by
      have := unl_set L.toList i hget
      rw [Array.toList_setIfInBounds]; omega
    have hset : ∀ j, (L.setIfInBounds i true).getD j false = true ↔ L.getD j false = true ∨ j = i := fun j => listed_set (by omega)
    have seq : ∀ (j : Nat), (∀ i, L.getD i false = true ↔ i < j) → n ≤ j → j ≤ ops.size → (∀ k, k < i → ((befores ops.toList []).getD i 0).testBit k = true) → Down ops.toList L → vops C ops.toList (some (allocs ops.toList)) (ops.toList.drop j) env K = some r → wpOp P ops Q i (wpAny P .any ops Q fuel (L.setIfInBounds i true)) a w := by
      intro j h0 hnj hj hbs hd h1
      have hij : i = j := by
        have h3 : ¬ i < j := fun h => by have := (h0 i).2 h; rw [hLi'] at this; cases this
        have h4 : ¬ j < i := fun h => by
          have := before_listed hd i o ho hre j (hbs j h)
          have := (h0 j).1 this
          omega
        omega
      subst hij
      rw [List.drop_eq_getElem_cons (by simpa using hlt)] at h1
      have hoe : ops.toList[i]'(by simpa using hlt) = o := by
        have := List.getElem?_eq_getElem (l := ops.toList) (i := i) (by simpa using hlt)
        rw [ho] at this; exact (Option.some.inj this).symm
      rw [hoe] at h1
      refine vops_step hti gws hC hoa hs h1 fun G' env' a' w' hs' h' => ih _ G' env' a' w' hsz' hu' (.last (i + 1) (fun k => ?_) (by omega) (by omega) h') hs'
      rw [hset, h0]; omega
    cases hst with
    | quiet h0 hd0 h2 =>
      by_cases hin : i < n
      ·
        have hQ := hq i o hin ho
        have hch2 := QS.chain (vals := VD vals sv) (D := DD ops.toList sv) (n := 2 * n) (env0 := env0) (2 * i) (by omega)
        have later : ∀ (k : Nat) p d, i < k → k < n → ops.toList[k]? = some p → Wr ops.toList p d → Wr ops.toList o d → ¬ L.getD k false = true := fun k p d hik hk hp h1 h3 h => by
          have := before_listed hd0 k p hp (hd0 k p hp h) i (hO.dist i k o p d hik hk ho hp h3 h1)
          rw [hLi'] at this; cases this
        have hag : Agree ops.toList (allocs ops.toList) o (chO ops.toList vals sv env0 i) env := by
          refine ⟨fun t ht => ?_, fun t cs hta hb => ?_, fun d hd' => ?_, fun d hda => ?_⟩
          · refine h2.at hch2 fun j hj hd => ?_
            obtain ⟨p, hp, hpd, _, _⟩ := wr j t hd hj
            rcases Nat.lt_trichotomy (j / 2) i with hki | hki | hki
            · refine ⟨fun _ => by omega, fun _ => ?_⟩
              cases hb : ((befores ops.toList []).getD i 0).testBit (j / 2)
              · exact absurd (by simpa using ht) ((hO.apart (j / 2) i p o hki hin hp ho hb).1 t hpd)
              · exact before_listed hd0 i o ho hre (j / 2) hb
            · rw [hki]
              exact ⟨fun h => absurd h (by rw [hLi']; decide), fun h => by omega⟩
            · refine ⟨fun h => ?_, fun h => by omega⟩
              exfalso
              cases hb : ((befores ops.toList []).getD (j / 2) 0).testBit i
              · exact absurd (by simpa using ht) ((hO.apart i (j / 2) o p hki (by omega) ho hp hb).2 t hpd)
              · have := before_listed hd0 (j / 2) p hp (hd0 (j / 2) p hp h) i hb
                rw [hLi'] at this; cases this
          · by_cases hx : ∃ (j : Nat), j < 2 * n ∧ DD ops.toList sv j = some t
            · have htl : t < env0.length := by
                refine Nat.lt_of_not_le fun hle => ?_
                rw [get, nth_none (List.getElem?_eq_none (by rw [show (chO ops.toList vals sv env0 i).length = env0.length from hch2.len]; exact hle))] at hb
                cases hb
              by_cases hki : ∃ (j : Nat), j < 2 * n ∧ (DD ops.toList sv j = some t ∧ j < 2 * i)
              · obtain ⟨j, hj, ⟨hd, hji⟩, hmax⟩ := exists_max _ hki
                obtain ⟨p, hp, hpd, hev, hod⟩ := wr j t hd hj
                rw [chO, hch2.hit j t hj hd hji htl fun j' a b c d => hmax j' a b ⟨c, d⟩] at hb
                rcases Nat.mod_two_eq_zero_or_one j with h6 | h6
                · obtain ⟨_, _, xs, h7⟩ := hev h6
                  rw [h7] at hb; cases hb
                · have e : j = 2 * (j / 2) + 1 := by omega
                  rw [e, VD_odd] at hb
                  exact absurd ((hq (j / 2) p (by omega) hp).2.2.1 cs hb t (hod h6)) hta
              · obtain ⟨j0, hj0, hd0'⟩ := hx
                obtain ⟨j, hjle, hd, hmin⟩ := exists_min (p := fun j => DD ops.toList sv j = some t) hd0'
                obtain ⟨p, hp, hpd, hev, hod⟩ := wr j t hd (by omega)
                have hge : ¬ j < 2 * i := fun h => hki ⟨j, by omega, hd, h⟩
                have hchk := QS.chain (D := DD ops.toList sv) (n := 2 * n) (vals := VD vals sv) (env0 := env0) (2 * (j / 2)) (by omega)
                have h5 : get (chO ops.toList vals sv env0 i) t = get env0 t := hch2.miss t fun j' hj' hd' h => hki ⟨j', hj', hd', h⟩
                have h6 : get (chO ops.toList vals sv env0 (j / 2)) t = get env0 t := hchk.miss t fun j' hj' hd' h => hmin j' (by omega) hd'
                have h8 : plain (get (chO ops.toList vals sv env0 (j / 2)) t) = true := by
                  rcases Nat.mod_two_eq_zero_or_one j with h7 | h7
                  · exact (hev h7).2.1
                  · exact (hq (j / 2) p (by omega) hp).1 t (hod h7)
                rw [h6, ← h5, hb] at h8
                cases h8
            · have hm : ∀ (j : Nat), j < 2 * n → DD ops.toList sv j ≠ some t := fun j h1 h4 => hx ⟨j, h1, h4⟩
              rw [chO, hch2.miss t fun j h1 h4 => absurd h4 (hm j h1)] at hb
              rw [h2.miss t fun j h1 h4 => absurd h4 (hm j h1)]
              exact hb
          · have := hQ.1 d hd'
            rw [h2.at hch2 (t := d) fun j hj hd => ?_]
            · exact this
            · obtain ⟨p, hp, hpd, _, _⟩ := wr j d hd hj
              rcases Nat.lt_trichotomy (j / 2) i with hki | hki | hki
              · exact ⟨fun _ => by omega, fun _ => before_listed hd0 i o ho hre (j / 2) (hO.dist (j / 2) i p o d hki hin hp ho hpd (.inl hd'))⟩
              · rw [hki]
                exact ⟨fun h => absurd h (by rw [hLi']; decide), fun h => by omega⟩
              · exact ⟨fun h => absurd h (later (j / 2) p d hki (by omega) hp hpd (.inl hd')), fun h => by omega⟩
          · refine List.any_eq_false.2 fun v hv => ?_
            obtain ⟨t, ht, rfl⟩ := List.getElem_of_mem hv
            have hgt : get env t = env[t] := nth_some (List.getElem?_eq_getElem ht)
            rw [← hgt]
            by_cases hx : ∃ (j : Nat), j < 2 * n ∧ (DD ops.toList sv j = some t ∧ L.getD (j / 2) false = true)
            · obtain ⟨j, hj, ⟨hd, hs4⟩, hmax⟩ := exists_max _ hx
              obtain ⟨p, hp, hpd, hev, hod⟩ := wr j t hd hj
              rw [h2.hit j t hj hd hs4 (by rw [← h2.len]; exact ht) fun j' a b c d => hmax j' a b ⟨c, d⟩]
              rcases Nat.mod_two_eq_zero_or_one j with h6 | h6
              · obtain ⟨_, _, xs, h7⟩ := hev h6
                rw [h7]; simp [refersD, refers]
              · have e : j = 2 * (j / 2) + 1 := by omega
                rw [e, VD_odd]
                have := (hq (j / 2) p (by omega) hp).2.1 d hda (by rw [hod h6]; simp)
                rw [this]; simp
            · rw [h2.miss t fun j h1 h3 h5 => hx ⟨j, h1, h3, h5⟩]
              have h7 := List.any_eq_false.1 hal0 d hda
              have h7' : env0.any (refersD d) = false := by simpa using h7
              have ht0 : t < env0.length := by rw [← h2.len]; exact ht
              have := List.any_eq_false.1 h7' env0[t] (List.getElem_mem _)
              rw [get, nth_some (List.getElem?_eq_getElem ht0)]
              exact this
        have hw := hQ.2.2.2.2.2 env G a w hag hs (wpAny P .any ops Q fuel (L.setIfInBounds i true)) (fun G' a' w' hs' => ih _ G' _ a' w' hsz' hu' (.quiet ?_ ?_ ?_) hs')
        · rwa [Array.toArray_toList] at hw
        · intro j hj
          have : ¬ (L.setIfInBounds i true).getD j false = true := fun h => by
            rcases (hset j).1 h with h | h
            · rw [h0 j hj] at h; cases h
            · omega
          simpa using this
        · intro j p hp hj e he hb
          rw [hset]
          rcases (hset j).1 hj with h | h
          · exact .inl (hd0 j p hp h e he hb)
          · subst h; rw [ho] at hp; cases hp
            exact .inl (hre e he hb)
        · have e2 : 2 * i / 2 = i := by omega
          have st1 := h2.step (k := 2 * i) (by omega) (by rw [e2, hLi']; simp) (fun j d hij hj hd hd2 h => by
            obtain ⟨p, hp, hpd, _, _⟩ := wr j d hd hj
            obtain ⟨p2, hp2, hpd2, _, _⟩ := wr (2 * i) d hd2 (by omega)
            rw [e2, ho] at hp2; cases hp2
            by_cases hji : j / 2 = i
            · rw [hji, hLi'] at h; cases h
            · exact later (j / 2) p d (by omega) (by omega) hp hpd hpd2 h)
          rw [DD_even, VD_even, put_put2] at st1
          have e3 : (2 * i + 1) / 2 = i := by omega
          have st2 := st1.step (k := 2 * i + 1) (by omega) (fun h => by
            rcases h with h | h
            · rw [e3, hLi'] at h; cases h
            · omega) (fun j d hij hj hd hd2 h => by
            obtain ⟨p, hp, hpd, _, _⟩ := wr j d hd hj
            obtain ⟨p2, hp2, hpd2, _, _⟩ := wr (2 * i + 1) d hd2 (by omega)
            rw [e3, ho] at hp2; cases hp2
            rcases h with h | h
            · exact later (j / 2) p d (by omega) (by omega) hp hpd hpd2 h
            · omega)
          rw [DD_odd, VD_odd, ho] at st2
          refine st2.congr fun k hk => ?_
          rw [hset]
          constructor
          · rintro ((h | h) | h)
            · exact .inl h
            · exact .inr (by omega)
            · exact .inr (by omega)
          · rintro (h | h)
            · exact .inl (.inl h)
            · rcases Nat.mod_two_eq_zero_or_one k with h6 | h6
              · exact .inl (.inr (by omega))
              · exact .inr (by omega)
      ·
        have hsol := fun k (hk : k < i) => hO.solid k i (by omega) (by simpa using hlt) hk
        have hall : ∀ k, k < i → L.getD k false = true := fun k hk => before_listed hd0 i o ho hre k (hsol k hk)
        have hni : n = i := by
          refine nat_eq (fun h => ?_) (fun h => by omega)
          have := hall n h
          rw [h0 n (Nat.le_refl _)] at this; cases this
        have hle : ∀ k, L.getD k false = true ↔ k < n := fun k => ⟨fun h => Nat.lt_of_not_le fun hk => absurd h (by rw [h0 k hk]; decide), fun h => hall k (by omega)⟩
        have he : env = chO ops.toList vals sv env0 n := h2.uniq ((QS.chain (2 * n) (Nat.le_refl _)).congr fun k hk => ⟨fun _ => (hle (k / 2)).2 (by omega), fun _ => hk⟩)
        rw [← he] at hch
        exact seq n hle (Nat.le_refl _) (by simpa using hO.le) hsol hd0 hch
    | last j h0 hnj hj h1 =>
      have hd : Down ops.toList L := fun k p hp hk e he hb => by
        have h5 := (h0 k).1 hk
        have := hO.edge k p hp e he hb
        exact (h0 e.on).2 (by omega)
      have hge : n ≤ i := by
        have : ¬ i < j := fun h => by have := (h0 i).2 h; rw [hLi'] at this; cases this
        omega
      exact seq j h0 hnj hj (fun k hk => hO.solid k i hge (by simpa using hlt) hk) hd h1
theorem any_sound (hm : P.follows .mixedOrders = true) (hti : TIok P C.ti) (gws : ∀ w w', GW w → Below NG w w' → GW w') (hC : CallOk P NG GW C.call) : AnyOk P NG GW C := by
  intro R io w0 pd0 G env a w K r Q id ops hO hal hs h hn
  obtain ⟨n, hO⟩ := anyOrder_ord hO
  have hmem : ∀ (k : Nat) o t d, ops.toList[k]? = some o → o.op = .alloc t → o.dst = some d → d ∈ allocs ops.toList := by
    intro k o t d ho hop hd
    unfold allocs
    exact List.mem_filterMap.2 ⟨o, List.mem_of_getElem? ho, by rw [hop]; exact hd⟩
  obtain ⟨vals, sv, h1, h0, h2⟩ := canon (io := io) (w0 := w0) (pd0 := pd0) (Q := Q) hti gws hC hO hmem h n (Nat.le_refl _)
  refine wp_region_any hm (any_ok hti gws hC hO hal h1 h2 h0 hn ops.size _ G env a w.drew (by simp) ?_ (.quiet ?_ ?_ ?_) (hs.drew gws))
  · rw [Array.toList_replicate, unl_rep]; exact Nat.le_refl _
  · intro j hj
    simp only [Array.getD_eq_getD_getElem?, Array.getElem?_replicate]
    split <;> rfl
  · intro j o ho hj
    simp only [Array.getD_eq_getD_getElem?, Array.getElem?_replicate] at hj
    split at hj <;> simp at hj
  · refine ⟨rfl, fun k d hk hd hsk => ?_, fun _ _ => rfl⟩
    simp only [Array.getD_eq_getD_getElem?, Array.getElem?_replicate] at hsk
    split at hsk <;> simp at hsk
end
def kindB : IntKind → IntKind → Bool
  | a, b => decide (a = b)
def zB : Value → Value → Bool
  | .int k 0, .int k' 0 => kindB k k'
  | .bool false, .bool false => true
  | .string ⟨⟨[]⟩⟩, .string ⟨⟨[]⟩⟩ => true
  | .slice none 0 0, .slice none 0 0 => true
  | .pointer none, .pointer none => true
  | _, _ => false
theorem zB_eq {a b : Value} (h : zB a b = true) : a = b ∧ b.oneCell' = true := by
  unfold zB at h
  split at h <;> first
    | (cases h; done)
    | (simp only [kindB, decide_eq_true_eq] at h; subst h; exact ⟨rfl, rfl⟩)
    | exact ⟨rfl, rfl⟩
def zsB : List Value → List Value → Bool
  | [], [] => true
  | a :: r, b :: s => zB a b && zsB r s
  | _, _ => false
theorem zsB_eq : ∀ {a b : List Value}, zsB a b = true → a = b ∧ ∀ v ∈ b, v.oneCell' = true
  | [], [], _ => ⟨rfl, by simp⟩
  | a :: r, b :: s, h => by
    rw [zsB, Bool.and_eq_true] at h
    obtain ⟨rfl, h1⟩ := zB_eq h.1
    obtain ⟨rfl, h2⟩ := zsB_eq h.2
    exact ⟨rfl, by intro v hv; rcases List.mem_cons.1 hv with rfl | hv; exact h1; exact h2 v hv⟩
  | [], _ :: _, h => by simp [zsB] at h
  | _ :: _, [], h => by simp [zsB] at h
def fsB (P : Program) : List Field → List (Nat × Nat) → Bool
  | [], [] => true
  | f :: r, (o, z) :: s => Nat.beq f.offset o && ((match P.info? f.type with
    | some inf => Nat.beq inf.size z
    | none => false) && fsB P r s)
  | _, _ => false
theorem fsB_ok {P : Program} : ∀ {l : List Field} {fs : List (Nat × Nat)}, fsB P l fs = true → l.length = fs.length ∧ ∀ (j : Nat) o z, fs[j]? = some (o, z) → ∃ f inf, l[j]? = some f ∧ f.offset = o ∧ P.info? f.type = some inf ∧ inf.size = z
  | [], [], _ => ⟨rfl, by simp⟩
  | f :: r, (o, z) :: s, h => by
    rw [fsB, Bool.and_eq_true, Bool.and_eq_true] at h
    obtain ⟨h1, h2, h3⟩ := h
    obtain ⟨hl, h4⟩ := fsB_ok h3
    refine ⟨by simp [hl], fun j o' z' hj => ?_⟩
    cases j with
    | zero =>
      simp at hj
      obtain ⟨rfl, rfl⟩ := hj
      split at h2
      · rename_i inf hi
        exact ⟨f, inf, rfl, Nat.eq_of_beq_eq_true h1, hi, Nat.eq_of_beq_eq_true h2⟩
      · cases h2
    | succ j => exact h4 j o' z' (by simpa using hj)
  | [], _ :: _, h => by simp [fsB] at h
  | _ :: _, [], h => by simp [fsB] at h
def infoB (P : Program) (t : TypeId) (i : TI) : Bool := match P.info? t with
  | some inf => (match inf.zero with
    | some z => zsB z.cells.toList i.zero && (Nat.beq inf.size i.sz && (Nat.beq inf.bytes i.bytes && (Nat.beq i.zero.length i.sz && (match i.k with
      | .agg _ => (match z with
        | .agg _ => true
        | _ => false)
      | _ => Nat.beq i.sz 1))))
    | none => false)
  | none => false
def undB (P : Program) (t : TypeId) : TK → Bool
  | .agg fs => (match P.underlying t with
    | some (.struct fields) => fsB P fields.toList fs
    | _ => false)
  | .slice e => (match P.underlying t with
    | some (.slice e') => Nat.beq e' e
    | _ => false)
  | .str => (match P.underlying t with
    | some .string => true
    | _ => false)
  | .bool => (match P.underlying t with
    | some .bool => true
    | _ => false)
  | .int k => (match P.underlying t with
    | some (.int k') => kindB k' k
    | _ => false)
  | .ptr => (match P.underlying t with
    | some (.pointer _) => true
    | _ => false)
def look : List (TypeId × TI) → TypeId → Option TI
  | [], _ => none
  | (u, i) :: r, t => match Nat.beq u t with
    | true => some i
    | false => look r t
theorem look_all {q : TypeId × TI → Bool} : ∀ {l : List (TypeId × TI)} {t : TypeId} {i : TI}, l.all q = true → look l t = some i → q (t, i) = true
  | [], t, i, _, h => by cases h
  | (u, j) :: r, t, i, ha, h => by
    rw [List.all_cons, Bool.and_eq_true] at ha
    rw [look] at h
    split at h
    · rename_i hb
      cases h
      have := Nat.eq_of_beq_eq_true hb
      subst this
      exact ha.1
    · exact look_all ha.2 h
theorem TIok.of {P : Program} {l : List (TypeId × TI)} (h1 : l.all (fun p => infoB P p.1 p.2) = true) (h2 : l.all (fun p => undB P p.1 p.2.k) = true) : TIok P (look l) := by
  refine ⟨fun t i h => ?_, fun t i h => ?_⟩
  · have := look_all h1 h
    simp only [infoB] at this
    split at this
    case h_2 => cases this
    rename_i inf hinf
    split at this
    case h_2 => cases this
    rename_i z hz
    simp only [Bool.and_eq_true] at this
    obtain ⟨a, b, c, d, e⟩ := this
    obtain ⟨a1, a2⟩ := zsB_eq a
    refine ⟨inf, z, hinf, hz, a1, Nat.eq_of_beq_eq_true b, Nat.eq_of_beq_eq_true c, Nat.eq_of_beq_eq_true d, a2, ?_⟩
    cases hk : i.k <;> simp only [hk] at e ⊢ <;> first
      | exact Nat.eq_of_beq_eq_true e
      | (split at e
         · exact ⟨_, rfl⟩
         · cases e)
  · have := look_all h2 h
    simp only at this
    cases hk : i.k <;> simp only [hk, undB] at this ⊢ <;> split at this <;> first
      | (cases this; done)
      | (rename_i h3; exact h3)
      | (rename_i h3; exact ⟨_, h3⟩)
      | (rename_i h3; simp only [kindB, decide_eq_true_eq] at this; rw [h3, this])
      | (rename_i h3; rw [h3, Nat.eq_of_beq_eq_true this])
      | (rename_i h3
         obtain ⟨h4, h5⟩ := fsB_ok this
         exact ⟨_, h3, by simpa using h4, fun j o z hj => by
          obtain ⟨f, inf, h6, h7⟩ := h5 j o z hj
          exact ⟨f, inf, by simpa using h6, h7⟩⟩)
end Go.Proofs.YtbfbomcfmgdpkaaGreatDoor.VI

end
section
namespace Go.Proofs.YtbfbomcfmgdpkaaGreatDoor.VI
open Go Go.RowKit Go.Proofs.YtbfbomcfmgdpkaaGreatDoorW.PrintWords
set_option linter.unusedVariables false
set_option linter.unusedSimpArgs false
abbrev anyP : Nat → Nat → Prop := fun _ _ => True
structure KV {α : Type} (d : Kd α) (enc : α → List VV) : Prop where
  pos : 0 < d.sz
  len : ∀ x, (enc x).length = d.sz
  rel : ∀ {w x cs}, d.K w x cs → DRs anyP w (enc x) cs
theorem kv_scalar {α : Type} {mk : α → Value} {h1 : ∀ x, (mk x).oneCell' = true} : KV (Kd.scalar mk h1) (fun x => [.s (mk x)]) :=
  ⟨Nat.one_pos, fun _ => rfl, fun {w x cs} h => by cases h; exact .cons _ _ _ _ (.s _) .nil⟩
theorem kv_byte : KV (Kd.int .u8) (fun x => [VV.byte x]) := kv_scalar (h1 := fun _ => rfl)
theorem dr_row {α : Type} {d : Kd α} {enc : α → VV} (h : KV d (fun x => (enc x).cells)) {w : World} {A : Option Addr} {xs : List α} {c : Nat} (hc : xs.length ≤ c) (hr : Kd.C d w A xs.length xs) : DR anyP w (.sl (xs.map enc)) (.slice A xs.length c) := by
  obtain ⟨_, hm, hA⟩ := hr
  by_cases h0 : xs.length = 0
  · obtain rfl := List.eq_nil_of_length_eq_zero h0
    exact .sl0 _ _
  obtain ⟨ad, rfl, hrow⟩ := hA (by omega)
  have hsp : ad.spot = none := by
    obtain ⟨cs, hl, _, hcell⟩ := hrow 0 _ (List.getElem?_eq_getElem (by omega))
    have hp := h.pos
    have h1 := hcell 0 _ (List.getElem?_eq_getElem (by omega))
    rw [Nat.zero_mul, Nat.zero_add] at h1
    have h2 : ad.add 0 = ad := by simp [Addr.add]
    rw [h2] at h1
    unfold World.cell? at h1
    split at h1
    · cases hs : ad.spot with
      | none => rfl
      | some _ => rw [hs] at h1; simp at h1
    · cases h1
  obtain ⟨g, off, sp⟩ := ad
  subst hsp
  have key : ∀ (ys : List α) (j0 : Nat), (∀ j p, ys[j]? = some p → ∃ c, c.length = d.sz ∧ d.K w p c ∧ ∀ i u, c[i]? = some u → w.cell? ((⟨g, off, none⟩ : Addr).add ((j0 + j) * d.sz + i)) = some u) → ∃ ms : List Value, DRs anyP w (ys.flatMap fun x => (enc x).cells) ms ∧ (∀ u ∈ ms, u.oneCell' = true) ∧ ∀ (k : Nat) u, ms[k]? = some u → w.cell? ⟨g, off + (j0 * d.sz + k), none⟩ = some u := by
    intro ys
    induction ys with
    | nil => intro j0 _; exact ⟨[], .nil, by simp, fun k u hk => by simp at hk⟩
    | cons y r ih =>
      intro j0 hy
      obtain ⟨c, hl, hK, hcell⟩ := hy 0 y rfl
      obtain ⟨ms, h1, h2, h3⟩ := ih (j0 + 1) fun j p hp => by
        obtain ⟨c', q1, q2, q3⟩ := hy (j + 1) p (by simpa using hp)
        refine ⟨c', q1, q2, fun i u hu => ?_⟩
        have := q3 i u hu
        rw [show j0 + (j + 1) = j0 + 1 + j by omega] at this
        exact this
      refine ⟨c ++ ms, by rw [List.flatMap_cons]; exact (h.rel hK).app h1, fun u hu => ?_, fun k u hu => ?_⟩
      · rcases List.mem_append.1 hu with hu | hu
        · exact d.K_one hK u hu
        · exact h2 u hu
      · by_cases hk : k < c.length
        · rw [List.getElem?_append_left hk] at hu
          have := hcell k u hu
          rw [Nat.add_zero] at this
          have hadd : ∀ n, (⟨g, off, none⟩ : Addr).add n = ⟨g, off + n, none⟩ := fun n => by unfold Addr.add; split <;> simp_all
          rw [hadd] at this
          exact this
        · rw [List.getElem?_append_right (by omega)] at hu
          have := h3 (k - c.length) u hu
          rw [show off + ((j0 + 1) * d.sz + (k - c.length)) = off + (j0 * d.sz + k) by rw [Nat.add_mul]; omega] at this
          exact this
  obtain ⟨ms, h1, h2, h3⟩ := key xs 0 (fun j p hp => by rw [Nat.zero_add]; exact hrow j p hp)
  have := DR.sl (pd := anyP) (w := w) (xs.map enc) g off c d.sz ms (by simpa using hc) (by simpa [maxLen] using hm) (by
      intro x hx
      obtain ⟨y, _, rfl⟩ := List.mem_map.1 hx
      exact h.len y) (by rw [List.flatMap_map]; exact h1) h2 fun k u hu => ⟨by have := h3 k u hu; rw [Nat.zero_mul, Nat.zero_add] at this; exact this, trivial⟩
  rw [List.length_map] at this
  exact this
section
variable {P : Program} {NG : Nat} {GW : World → Prop} {f : FuncId}
theorem dr_nbx {pd : Nat → Nat → Prop} {w : World} {v : VV} {m : Value} (h : DR pd w v m) (cs : List VV) : v ≠ .bx cs := by cases h <;> exact fun e => VV.noConfusion e
theorem dr_arg {H : Gh} {w : World} {v : VV} {m : Value} (h : DR H.pd w v m) : ArgR H w v m := by cases h <;> (show DR H.pd w _ _) <;> constructor <;> assumption
theorem CallOk1.calls {vs : List VV} {ms : List Value} {v : Value} {w : World} (h : CallOk1 P NG GW f vs (.s v, [])) (hgw : GW w) (hng : NG ≤ w.heap.size) (ha : DRs anyP w vs ms) : Calls P f ms.toArray w fun e w' => e = .returned v ∧ Below w.heap.size w w' := by
  have hnb : ∀ x ∈ vs, ∀ cs, x ≠ .bx cs := fun x hx cs => by
    obtain ⟨i, hi, rfl⟩ := List.getElem_of_mem hx
    obtain ⟨m, _, hd⟩ := ha.get (List.getElem?_eq_getElem hi)
    exact dr_nbx hd cs
  have hio := ioB_none vs ms hnb
  have := h.2 w ms ⟨anyP, anyP, fun _ => 0, fun _ => none, 0⟩ hgw hng ha.length (fun i x m hx hm => dr_arg (H := ⟨anyP, anyP, fun _ => 0, fun _ => none, 0⟩) (ha.at hx hm)) (by rw [hio]; exact List.nodup_nil) (by rw [hio]; simp) (by rw [hio]; simp) (fun _ _ h => h)
  refine this.mono fun e w' he => ?_
  obtain ⟨m, rfl, hfr, pd', _, hres, _⟩ := he
  have hd : DR pd' w' (.s v) m := hres
  cases hd
  exact ⟨rfl, hfr.os, hfr.tape, hfr.output, hfr.size, fun k hk => hfr.block k hk (by rw [hio]; simp)⟩
end
section
variable {P : Program} {NG : Nat} {GW : World → Prop} {f : FuncId}
end
end Go.Proofs.YtbfbomcfmgdpkaaGreatDoor.VI

end
section
namespace Go.Proofs.YtbfbomcfmgdpkaaGreatDoor.VI
open Go
set_option linter.unusedSimpArgs false
set_option linter.unusedVariables false
def Im {α β : Type} (e : α → β) (x : Option α) (y : Option β) : Prop := ∀ r, x = some r → y = some (e r)
section
variable {α β γ δ : Type} {e : α → β} {x : Option α} {y z : Option β}
theorem Im.none : Im e .none y := fun _ h => by cases h
theorem Im.ret {r : α} (h : y = some (e r)) : Im e (some r) y := fun s hs => by cases hs; exact h
theorem Im.ite {c : Prop} [Decidable c] {a b : Option α} (ht : c → Im e a y) (hf : ¬ c → Im e b y) : Im e (if c then a else b) y := by
  by_cases h : c
  · rw [if_pos h]; exact ht h
  · rw [if_neg h]; exact hf h
theorem Im.bite_t {b : Bool} (hb : b = true) (h : Im e x y) : Im e x (bite b y z) := by subst hb; exact h
theorem Im.bite_f {b : Bool} (hb : b = false) (h : Im e x z) : Im e x (bite b y z) := by subst hb; exact h
theorem Im.must {b : Bool} (hb : b = true) (h : Im e x y) : Im e x (VI.must b y) := by subst hb; exact h
theorem Im.bind {e' : γ → δ} {u : Option γ} {v : Option δ} {f : γ → Option α} {g : δ → Option β} (h : Im e' u v) (k : ∀ a, u = some a → Im e (f a) (g (e' a))) : Im e (u.bind f) (obind v g) := by
  intro r hr
  obtain ⟨a, ha, hr⟩ := Option.bind_eq_some_iff.1 hr
  rw [h a ha]
  exact k a ha r hr
end
end Go.Proofs.YtbfbomcfmgdpkaaGreatDoor.VI

end
section
namespace Go.Proofs.YtbfbomcfmgdpkaaGreatDoor.VI
open Go Go.RowKit Go.Proofs.YtbfbomcfmgdpkaaGreatDoorW.PrintWords
set_option linter.unusedVariables false
set_option linter.unusedSimpArgs false
theorem frc1_eq' {α : Type} (v : VV) (k : VV → α) : frc1 v k = k v := by cases v <;> rfl
theorem frcL_eq' {α : Type} : ∀ (l : List VV) (k : List VV → α), frcL l k = k l
  | [], _ => rfl
  | v :: r, k => by rw [frcL, frc1_eq', frcL_eq' r]
theorem clr_clr : ∀ (l : List Nat) (env : Env) (i : Nat), clr l i (clr l i env) = clr l i env
  | l, [], i => rfl
  | l, v :: r, i => by
    simp only [clr]
    rw [clr_clr l r (i + 1)]
    split <;> rfl
theorem clear_clear (l : Option (List Nat)) (env : Env) : clear l (clear l env) = clear l env := by
  cases l with
  | none => rfl
  | some l => exact clr_clr l env 0
section
variable {α β γ δ : Type} {e : α → β} {x : Option α} {y z : Option β}
theorem iter_clear {l : Option (List Nat)} {g : Env → (Exit → Env → Option β) → Option β} {K : Exit → Env → Option β} : ∀ {M : Nat} {env : Env}, iter (fun env' K' => clearK l env' fun e => g e K') M env K = iter (fun env' K' => clearK l env' fun e => g e K') M (clear l env) K
  | 0, _ => rfl
  | M + 1, env => by simp only [iter, clearK, frcL_eq', clear_clear]
theorem Im.loop {σ : Type} {l : Option (List Nat)} {g : Env → (Exit → Env → Option β) → Option β} {K : Exit → Env → Option β} (S : σ → Env) (L : Nat → σ → Option α) (k0 : Nat) (h0 : ∀ s, L 0 s = Option.none)
    (hs : ∀ k M s, k + 1 ≤ k0 → k ≤ M → (∀ k' s' env, k' ≤ k → clear l env = S s' → Im e (L k' s') (iter (fun env' K' => clearK l env' fun e => g e K') M env K)) → Im e (L (k + 1) s) (iter (fun env' K' => clearK l env' fun e => g e K') (M + 1) (S s) K)) :
    ∀ k M s env, k ≤ k0 → k ≤ M → clear l env = S s → Im e (L k s) (iter (fun env' K' => clearK l env' fun e => g e K') M env K) := by
  intro k
  induction k using Nat.strongRecOn with
  | _ k IH =>
    intro M s env hk hM hc
    cases k with
    | zero => rw [h0]; exact Im.none
    | succ k =>
      obtain ⟨M, rfl⟩ : ∃ M', M = M' + 1 := ⟨M - 1, by omega⟩
      rw [iter_clear, hc]
      exact hs k M s hk (by omega) fun k' s' env' hk' hc' => IH k' (by omega) M s' env' (by omega) (by omega) hc'
theorem Im.nat (F : Nat → Option α) (k : Nat) (h0 : F 0 = Option.none) (hs : ∀ k', k = k' + 1 → Im e (F (k' + 1)) y) : Im e (F k) y := by
  cases k with
  | zero => rw [h0]; exact Im.none
  | succ k => exact hs k rfl
theorem Im.vget {τ : Type} {l : List τ} {enc : τ → VV} {i : Int} {f : VV → Option β} (d : τ) (h0 : 0 ≤ i) (h1 : i < (l.length : Int)) (h : Im e x (f (enc (rdOf d l i)))) : Im e x (vget (l.map enc) i f) := by
  unfold VI.vget
  have hl : i.toNat < l.length := by omega
  rw [List.getElem?_map, List.getElem?_eq_getElem hl]
  simp only [Option.map_some]
  unfold rdOf at h
  rw [List.getD_eq_getElem?_getD, List.getElem?_eq_getElem hl] at h
  exact h
theorem Im.anyo {C : Cx} {l : List Oper} (h : anyOrder C l = true) (k : Im e x y) : Im e x (bite (anyOrder C l) y z) := Im.bite_t h k
theorem Im.fin {b : β} {r : α} (h : b = e r) : Im e (some r) (some b) := Im.ret (congrArg some h)
theorem Im.call {e' : γ → VV × List VV} {u : Option γ} {fn : List VV → Option (VV × List VV)} {us bs : List VV} {f : γ → Option α} {g : VV × List VV → Option β} (h : Im e' u (fn bs)) (ha : us = bs) (k : ∀ a, u = some a → Im e (f a) (g (e' a))) : Im e (u.bind f) (obind (fn us) g) := by
  subst ha
  exact Im.bind h k
end
theorem byL_of : ∀ l : List Int, byL (l.map VV.byte) = some l
  | [] => rfl
  | n :: r => by
    show obind (byL (r.map VV.byte)) _ = _
    rw [byL_of r]
    rfl
theorem wr_i64 (n : Int) : wr .i64 n = wrap64 n := rfl
theorem wr_u8 (n : Int) : wr .u8 n = n % 256 := rfl
theorem bt_bt (s : ByteArray) (i : Int) : VI.bt s i = Go.Proofs.YtbfbomcfmgdpkaaGreatDoorW.PrintWords.bt s i := rfl
theorem ba_size (a : Array UInt8) : (⟨a⟩ : ByteArray).size = a.size := rfl
theorem ba_toList (a : Array UInt8) : (⟨a⟩ : ByteArray).toList = a.toList := by
  rw [Go.ByteArray.toList_eq]
theorem rd_rdOf (xs : List Int) (i : Int) : Go.Proofs.YtbfbomcfmgdpkaaGreatDoorW.PrintWords.rd xs i = rdOf 0 xs i := rfl
theorem u8_bits : IntKind.bits .u8 = 8 := rfl
theorem fdiv_16 (x : Int) : x.fdiv 16 = x / 16 := Int.fdiv_eq_ediv_of_nonneg x (by decide)
theorem fdiv_16b (x : Int) : x.fdiv (2 ^ min (Int.toNat 4) 8) = x / 16 := Int.fdiv_eq_ediv_of_nonneg x (by decide)
theorem bits_and8 (x y : Int) : IntKind.wrap .u8 ((BitVec.ofInt 8 x &&& BitVec.ofInt 8 y).toNat : Int) = Go.bits .and .u8 x y := rfl
theorem bits_and (x y : Int) : IntKind.wrap .u8 ((BitVec.ofInt IntKind.u8.bits x &&& BitVec.ofInt IntKind.u8.bits y).toNat : Int) = Go.bits .and .u8 x y := rfl
theorem beq_self (n : Nat) : Nat.beq n n = true := Nat.beq_refl n
noncomputable def limF {α : Type} (g : Nat → Option α) : Option α := open Classical in if h : ∃ k r, g k = some r then some (Classical.choose (Classical.choose_spec h)) else none
theorem limF_up {α : Type} {g : Nat → Option α} (hm : ∀ k, LeO (g k) (g (k + 1))) {r : α} : ∀ (d k : Nat), g k = some r → g (k + d) = some r
  | 0, k, h => h
  | d + 1, k, h => hm (k + d) r (limF_up hm d k h)
theorem limF_inv {α : Type} {g : Nat → Option α} {r : α} (h : limF g = some r) : ∃ k, g k = some r := by
  unfold limF at h
  split at h
  · rename_i hx
    cases h
    exact ⟨_, Classical.choose_spec (Classical.choose_spec hx)⟩
  · cases h
theorem limF_some {α : Type} {g : Nat → Option α} (hm : ∀ k, LeO (g k) (g (k + 1))) {k : Nat} {r : α} (h : g k = some r) : limF g = some r := by
  have hx : ∃ k r, g k = some r := ⟨k, r, h⟩
  have e : limF g = some (Classical.choose (Classical.choose_spec hx)) := by unfold limF; rw [dif_pos hx]
  rw [e]
  obtain ⟨j, hj⟩ := limF_inv e
  have h1 := limF_up hm j k h
  have h2 := limF_up hm k j hj
  rw [Nat.add_comm j k, h1] at h2
  exact h2.symm
theorem bq_ne {a b : Bool} (h : a = b) : ((!(a == b)) == false) = true := by subst h; cases a <;> rfl
theorem bq_ne2 {a b : Bool} (h : a = b) : (!(a == b)) = false := by subst h; cases a <;> rfl
theorem bnd_ok {n : Nat} {l h : Int} (h0 : 0 ≤ l) (h1 : l ≤ h) (h2 : h ≤ (n : Int)) : bndOk n l h = true := by
  unfold bndOk
  rw [decide_eq_true (Int.le_trans h0 h1), decide_eq_true h2, decide_eq_true h0, decide_eq_true h1]
  rfl
def keepT : Bool → Option Bool
  | true => some true
  | false => none
theorem keepT_t : keepT true = some true := rfl
theorem keepT_f : keepT false = none := rfl
theorem ite_bindT {α β : Type} {c : Prop} [Decidable c] (a b : Option α) (f : α → Option β) : (if c then a else b).bind f = if c then a.bind f else b.bind f := by split <;> rfl
theorem none_bindT {α β : Type} (f : α → Option β) : (none : Option α).bind f = none := rfl
theorem some_bindT {α β : Type} (a : α) (f : α → Option β) : (some a).bind f = f a := rfl
theorem bind_bindT {α β γ : Type} (x : Option α) (g : α → Option β) (f : β → Option γ) : (x.bind g).bind f = x.bind fun a => (g a).bind f := by cases x <;> rfl
theorem Im.keepT {β : Type} {e : Bool → β} {b : Bool} {y : β} (h : y = e b) : Im e (keepT b) (some y) := by
  intro r hr
  cases b with
  | true => cases hr; rw [h]
  | false => cases hr
theorem Im.vopc {α β : Type} {e : α → β} {x : Option α} {C : Cx} {ops : List Oper} {dr : Option (List Nat)} {o : Oper} {env env2 : Env} {K : Env → Option β} (h : ∀ K' : Env → Option β, vop C ops dr o env K' = K' env2) (k : Im e x (K env2)) : Im e x (vop C ops dr o env K) := by rw [h]; exact k
def nlw (e : Nat) (b : Bool) (l : List ByteArray) : VV := match b, l with
  | true, [] => .nl
  | _, l => .ow e 1 (l.map VV.str)
theorem nlw_f (e : Nat) (l : List ByteArray) : nlw e false l = .ow e 1 (l.map VV.str) := rfl
theorem nlw_t (e : Nat) (a : ByteArray) (l : List ByteArray) : nlw e true (a :: l) = .ow e 1 ((a :: l).map VV.str) := rfl
theorem nlw_n (e : Nat) : nlw e true [] = .nl := rfl
theorem zr {P : Prop} (h : P := by first | (first | rfl | (simp only [List.length_map, List.length_set, List.length_replicate, List.map_append, List.map_set, List.map_cons, List.map_nil, List.map_replicate, List.map_take, List.map_drop, wr_i64, wr_u8, bt_bt, rd_rdOf, u8_bits, fdiv_16, fdiv_16b, bits_and, bits_and8, ba_toList, bne, Int.zero_sub, nlw_f, nlw_t, nlw_n, List.cons_append]; first | done | rfl)) | fail) : P := h
theorem zq {P : Prop} (h : P := by first | assumption | exact bq_ne (by assumption) | exact bq_ne2 (by assumption) | exact decide_eq_true (by assumption) | exact decide_eq_false (by assumption) | ((try clear ih1); (try clear ih2); (try clear ih3); simp only [*, decide_true, decide_false, Bool.beq_true, Bool.beq_false, Bool.not_true, Bool.not_false, beq_self_eq_true, Bool.true_and, Bool.and_true, Bool.eq_false_iff, ne_eq, not_false_eq_true, not_true_eq_false, Bool.not_eq_true', Bool.not_eq_eq_eq_not, Bool.not_true, Bool.not_false, Bool.and_false, Bool.false_and]; done) | fail) : P := h
theorem zd {P : Prop} (h : P := by first | ((try clear ih1); (try clear ih2); (try clear ih3); (simp only [Option.getD_some, Option.getD_none, wr_i64]); (refine bnd_ok ?_ ?_ ?_ <;> (first | assumption | omega))) | (((try clear ih1); (try clear ih2); (try clear ih3); first | assumption | exact decide_eq_true (by assumption) | exact decide_eq_false (by assumption) | (simp [*, wr_i64, wr_u8, bt_bt, rd_rdOf, u8_bits, fdiv_16, fdiv_16b, bits_and, bits_and8, ba_size, ba_toList, bndOk, VV.cells, Nat.beq_eq]; done) | (simp [*, wr_i64, wr_u8, bt_bt, rd_rdOf, u8_bits, fdiv_16, fdiv_16b, bits_and, bits_and8, ba_size, ba_toList, bndOk, VV.cells, Nat.beq_eq]; omega) | ((try simp only [← List.map_take, ← List.map_drop]); refine and_t ?_ (all_cells (fun _ => rfl)); first | (simp [*, bndOk]; done) | (simp [*, bndOk]; omega) | (simp only [List.length_append, List.length_map, List.length_cons, List.length_nil, List.length_take, List.length_drop, Option.getD_none, Option.getD_some, decide_eq_true_eq] at *; omega)) | omega | (simp_all [wr_i64, wr_u8, bt_bt, rd_rdOf, u8_bits, fdiv_16, fdiv_16b, bits_and, bits_and8, ba_size, ba_toList, bndOk, VV.cells, Nat.beq_eq]; done) | (simp [wr_i64, wr_u8, bt_bt, rd_rdOf, u8_bits, fdiv_16, fdiv_16b, bits_and, bits_and8, ba_size, ba_toList, bndOk, VV.cells, Nat.beq_eq] at *; omega))) | fail) : P := h
theorem zo {P : Prop} (h : P := by first | (first | omega | (dsimp only; omega)) | fail) : P := h
end Go.Proofs.YtbfbomcfmgdpkaaGreatDoor.VI

end
section
namespace Go.Proofs.YtbfbomcfmgdpkaaGreatDoor.VI
open Go
def tis : List (TypeId × TI) := [(3, ⟨1, 8, [.int .i64 0], .int .i64⟩),
 (4, ⟨1, 1, [.bool false], .bool⟩),
 (5, ⟨1, 1, [.int .u8 0], .int .u8⟩),
 (9, ⟨1, 16, [.string ⟨#[]⟩], .str⟩),
 (22, ⟨1, 24, [.slice none 0 0], .slice 5⟩),
 (40, ⟨1, 24, [.slice none 0 0], .slice 9⟩),
 (50, ⟨1, 8, [.pointer none], .ptr⟩),
 (70, ⟨1, 24, [.slice none 0 0], .slice 3⟩),
 (85, ⟨3, 40, [.slice none 0 0, .int .i64 0, .int .i64 0], .agg [(0, 1), (1, 1), (2, 1)]⟩)]
def ti (t : TypeId) : Option TI := look tis t
theorem hti : TIok Tryz.prog ti := TIok.of (l := tis) (by kernel_rfl) (by kernel_rfl)
end Go.Proofs.YtbfbomcfmgdpkaaGreatDoor.VI

end
section
namespace Go.Proofs.YtbfbomcfmgdpkaaGreatDoor.VI
open Go Go.RowKit Go.Proofs.YtbfbomcfmgdpkaaGreatDoor.G Go.Proofs.YtbfbomcfmgdpkaaGreatDoorW.PrintWords
def keep : FuncId → Nat → Option (List Nat) := fun f b => match f, b with
  | 4, 0 => some [3, 4, 5, 6, 7, 8, 11, 12, 18, 20, 26, 27]
  | 36, 0 => some [0, 1, 6, 7, 8]
  | 40, 0 => some [0, 1, 5]
  | 44, 0 => some [0, 3]
  | 46, 0 => some [0, 3, 4]
  | 48, 0 => some [0, 3, 4]
  | 49, 0 => some [0, 3, 10, 11, 12]
  | 50, 0 => some [0, 3, 4]
  | 50, 2 => some [0, 3, 4, 5, 6]
  | 52, 0 => some [0, 3]
  | 75, 0 => some [0, 3, 7, 8]
  | 77, 0 => some [0, 4, 5]
  | 86, 0 => some [0, 3, 4]
  | 87, 0 => some [0, 1, 5, 6, 7]
  | 92, 0 => some [0, 1, 7, 8]
  | 117, 0 => some [0, 1, 5]
  | 149, 0 => some [0, 1, 6, 7]
  | _, _ => none
def unS : List VV → Option (List ByteArray)
  | [] => some []
  | .s (.string b) :: r => obind (unS r) fun l => some (b :: l)
  | _ => none
theorem unS_map : ∀ l : List ByteArray, unS (l.map VV.str) = some l
  | [] => rfl
  | b :: r => by
    show obind (unS (r.map VV.str)) _ = _
    rw [unS_map r]
    rfl
noncomputable def spec_DrawQuote.gv : List VV → Option (VV × List VV)
  | [.sl q0] => obind (byL q0) fun l0 => (limF (fun k => spec_DrawQuote.f k l0)).map fun r => (.str r, [])
  | _ => none
noncomputable def impl_Quote.gv : List VV → Option (VV × List VV)
  | [.s (.string a0)] => (limF (fun k => impl_Quote.f k a0)).map fun r => (.str r, [])
  | _ => none
noncomputable def spec_DrawUnquote.gv : List VV → Option (VV × List VV)
  | [.sl q0] => obind (byL q0) fun l0 => (limF (fun k => spec_DrawUnquote.f k l0)).map fun r => (.tu [.str r.1, .int r.2], [])
  | _ => none
noncomputable def impl_Unquote.gv : List VV → Option (VV × List VV)
  | [.s (.string a0), .s (.int .i64 a1)] => (limF (fun k => impl_Unquote.f k a0 a1)).map fun r => (.tu [.str r.1, .int r.2], [])
  | _ => none
noncomputable def spec_Unquote.gv : List VV → Option (VV × List VV)
  | [.s (.string a0), .s (.int .i64 a1)] => (limF (fun k => spec_Unquote.f k a0 a1)).map fun r => (.tu [.str r.1, .int r.2], [])
  | _ => none
noncomputable def spec_DrawLines.gv : List VV → Option (VV × List VV)
  | [.sl q0] => obind (byL q0) fun l0 => (limF (fun k => spec_DrawLines.f k l0)).map fun r => (.str r, [])
  | _ => none
noncomputable def impl_Lines.gv : List VV → Option (VV × List VV)
  | [.s (.string a0)] => (impl_Lines.f a0).map fun r => (.ow 9 1 (r.map VV.str), [])
  | _ => none
noncomputable def spec_DrawWords.gv : List VV → Option (VV × List VV)
  | [.sl q0] => obind (byL q0) fun l0 => (limF (fun k => spec_DrawWords.f k l0)).map fun r => (.str r, [])
  | _ => none
noncomputable def spec_DrawIndent.gv : List VV → Option (VV × List VV)
  | [.sl q0] => obind (byL q0) fun l0 => (limF (fun k => spec_DrawIndent.f k l0)).map fun r => (.str r, [])
  | _ => none
noncomputable def spec_DrawDecText.gv : List VV → Option (VV × List VV)
  | [.sl q0] => obind (byL q0) fun l0 => (limF (fun k => spec_DrawDecText.f k l0)).map fun r => (.int r, [])
  | _ => none
noncomputable def spec_DrawReadDec.gv : List VV → Option (VV × List VV)
  | [.sl q0] => obind (byL q0) fun l0 => (limF (fun k => spec_DrawReadDec.f k l0)).map fun r => (.str r, [])
  | _ => none
noncomputable def spec_DrawPlace.gv : List VV → Option (VV × List VV)
  | [.sl q0] => obind (byL q0) fun l0 => (limF (fun k => spec_DrawPlace.f k l0)).map fun r => (.tu [.str r.1, .int r.2], [])
  | _ => none
noncomputable def impl_Place.gv : List VV → Option (VV × List VV)
  | [.s (.string a0), .s (.int .i64 a1)] => (impl_Place.f a0 a1).map fun r => (.tu [.int r.1, .int r.2], [])
  | _ => none
noncomputable def spec_DrawNameOk.gv : List VV → Option (VV × List VV)
  | [.sl q0] => obind (byL q0) fun l0 => (limF (fun k => spec_DrawNameOk.f k l0)).map fun r => (.str r, [])
  | _ => none
noncomputable def spec_DrawPlainOk.gv : List VV → Option (VV × List VV)
  | [.sl q0] => obind (byL q0) fun l0 => (limF (fun k => spec_DrawPlainOk.f k l0)).map fun r => (.str r, [])
  | _ => none
noncomputable def spec_Quote.gv : List VV → Option (VV × List VV)
  | [.s (.string a0)] => (limF (fun k => spec_Quote.f k a0)).map fun r => (.str r, [])
  | _ => none
noncomputable def spec_Lines.gv : List VV → Option (VV × List VV)
  | [.s (.string a0)] => (limF (fun k => spec_Lines.f k a0)).map fun r => (.ow 9 1 (r.map VV.str), [])
  | _ => none
noncomputable def impl_ReadDec.gv : List VV → Option (VV × List VV)
  | [.s (.string a0)] => (impl_ReadDec.f a0).map fun r => (.int r, [])
  | _ => none
noncomputable def strings_Split.gv : List VV → Option (VV × List VV)
  | [.s (.string a0), .s (.string a1)] => (strings_Split.f a0 a1).map fun r => (.ow 9 1 (r.map VV.str), [])
  | _ => none
noncomputable def strings_HasPrefix.gv : List VV → Option (VV × List VV)
  | [.s (.string a0), .s (.string a1)] => (strings_HasPrefix.f a0 a1).map fun r => (.bool r, [])
  | _ => none
noncomputable def strings_Count.gv : List VV → Option (VV × List VV)
  | [.s (.string a0), .s (.string a1)] => (strings_Count.f a0 a1).map fun r => (.int r, [])
  | _ => none
noncomputable def strings_LastIndex.gv : List VV → Option (VV × List VV)
  | [.s (.string a0), .s (.string a1)] => (strings_LastIndex.f a0 a1).map fun r => (.int r, [])
  | _ => none
noncomputable def strings_TrimLeft.gv : List VV → Option (VV × List VV)
  | [.s (.string a0), .s (.string a1)] => (strings_TrimLeft.f a0 a1).map fun r => (.str r, [])
  | _ => none
noncomputable def strconv_Itoa.gv : List VV → Option (VV × List VV)
  | [.s (.int .i64 a0)] => (strconv_Itoa.f a0).map fun r => (.str r, [])
  | _ => none
noncomputable def strings_TrimPrefix.gv : List VV → Option (VV × List VV)
  | [.s (.string a0), .s (.string a1)] => (strings_TrimPrefix.f a0 a1).map fun r => (.str r, [])
  | _ => none
noncomputable def strings_IndexByte.gv : List VV → Option (VV × List VV)
  | [.s (.string a0), .s (.int .u8 a1)] => (strings_IndexByte.f a0 a1).map fun r => (.int r, [])
  | _ => none
noncomputable def Gv0 : FuncId → Option (List VV → Option (VV × List VV)) := fun f => match f with
  | 47 => some impl_ReadDec.gv
  | 58 => some strings_Split.gv
  | 60 => some strings_HasPrefix.gv
  | 82 => some strings_Count.gv
  | 83 => some strings_LastIndex.gv
  | 88 => some strings_TrimLeft.gv
  | 89 => some strconv_Itoa.gv
  | 91 => some strings_TrimPrefix.gv
  | 120 => some strings_IndexByte.gv
  | _ => none
def Base (G : FuncId → Option (List VV → Option (VV × List VV))) : Prop := ∀ f, f ≠ 22 → f ≠ 23 → f ≠ 24 → f ≠ 25 → f ≠ 26 → f ≠ 27 → f ≠ 28 → f ≠ 29 → f ≠ 31 → f ≠ 32 → f ≠ 33 → f ≠ 34 → f ≠ 35 → f ≠ 37 → f ≠ 38 → f ≠ 39 → f ≠ 41 → G f = Gv0 f
theorem base0 : Base Gv0 := fun _ _ _ _ _ _ _ _ _ _ _ _ _ _ _ _ _ _ => rfl
noncomputable def Gv : FuncId → Option (List VV → Option (VV × List VV)) := fun f => match f with
  | 22 => some spec_DrawQuote.gv
  | 23 => some impl_Quote.gv
  | 24 => some spec_DrawUnquote.gv
  | 25 => some impl_Unquote.gv
  | 26 => some spec_Unquote.gv
  | 27 => some spec_DrawLines.gv
  | 28 => some impl_Lines.gv
  | 29 => some spec_DrawWords.gv
  | 31 => some spec_DrawIndent.gv
  | 32 => some spec_DrawDecText.gv
  | 33 => some spec_DrawReadDec.gv
  | 34 => some spec_DrawPlace.gv
  | 35 => some impl_Place.gv
  | 37 => some spec_DrawNameOk.gv
  | 38 => some spec_DrawPlainOk.gv
  | 39 => some spec_Quote.gv
  | 41 => some spec_Lines.gv
  | f => Gv0 f
theorem base1 : Base Gv := fun f h22 h23 h24 h25 h26 h27 h28 h29 h31 h32 h33 h34 h35 h37 h38 h39 h41 => by
  unfold Gv
  split
  · exact absurd rfl h22
  · exact absurd rfl h23
  · exact absurd rfl h24
  · exact absurd rfl h25
  · exact absurd rfl h26
  · exact absurd rfl h27
  · exact absurd rfl h28
  · exact absurd rfl h29
  · exact absurd rfl h31
  · exact absurd rfl h32
  · exact absurd rfl h33
  · exact absurd rfl h34
  · exact absurd rfl h35
  · exact absurd rfl h37
  · exact absurd rfl h38
  · exact absurd rfl h39
  · exact absurd rfl h41
  · rfl
noncomputable abbrev cv := callv Tryz.prog ti keep Gv
end Go.Proofs.YtbfbomcfmgdpkaaGreatDoor.VI

end
section
namespace Go.Proofs.YtbfbomcfmgdpkaaGreatDoor.VI
open Go Go.RowKit Go.Proofs.YtbfbomcfmgdpkaaGreatDoor.G Go.Proofs.YtbfbomcfmgdpkaaGreatDoorW.PrintWords
set_option linter.unusedVariables false
set_option linter.unusedSimpArgs false
end Go.Proofs.YtbfbomcfmgdpkaaGreatDoor.VI

end
section
namespace Go.Proofs.YtbfbomcfmgdpkaaGreatDoor.VI
open Go Go.RowKit Go.Proofs.YtbfbomcfmgdpkaaGreatDoorW.PrintWords
set_option linter.unusedVariables false
set_option linter.unusedSimpArgs false
def argD : VV → Bool
  | .s _ => true
  | .sl _ => true
  | .ag _ => true
  | _ => false
def ResOf (pd : Nat → Nat → Prop) (w : World) (r : VV) (m : Value) (w' : World) : Prop := ∃ pd' : Nat → Nat → Prop, (∀ g k, g < w.heap.size → pd' g k → pd g k) ∧ ResR w.heap.size pd' w' r m
section
variable {P : Program} {NG : Nat} {GW : World → Prop} {f : FuncId}
theorem giv_ok {vs : List VV} {r : VV} (hf : FnOk P f) (hv : vs.all argD = true) (h : ∀ (w : World) (ms : List Value) (pd : Nat → Nat → Prop), GW w → DRs pd w vs ms → Calls P f ms.toArray w fun e w' => ∃ m, e = .returned m ∧ Below w.heap.size w w' ∧ ResOf pd w r m w') : CallOk1 P NG GW f vs (r, []) := by
  refine ⟨hf, fun w ms H hgw hng hl ha hnd _ _ _ => ?_⟩
  have hd : ∀ v ∈ vs, argD v = true := fun v hx => List.all_eq_true.1 hv v hx
  have hnb : ∀ x ∈ vs, ∀ cs, x ≠ .bx cs := fun x hx cs e => by have := hd x hx; rw [e] at this; cases this
  have key : ∀ (vs : List VV) (ms : List Value), (∀ v ∈ vs, argD v = true) → vs.length = ms.length → (∀ (i : Nat) v m, vs[i]? = some v → ms[i]? = some m → ArgR H w v m) → DRs H.pd w vs ms := by
    intro vs
    induction vs with
    | nil => intro ms _ hl _; cases ms with
      | nil => exact .nil
      | cons _ _ => cases hl
    | cons v vs ih => intro ms hd hl ha; cases ms with
      | nil => cases hl
      | cons m ms =>
        refine .cons _ _ _ _ ?_ (ih ms (fun x hx => hd x (by simp [hx])) (by simpa using hl) fun i v m h1 h2 => ha (i + 1) v m (by simpa using h1) (by simpa using h2))
        have h1 := ha 0 v m rfl rfl
        have h2 := hd v (by simp)
        cases v <;> first | (cases h2; done) | exact h1
  rw [ioB_none vs ms hnb]
  refine (h w ms H.pd hgw (key vs ms hd hl ha)).mono fun e w' he => ?_
  obtain ⟨m, rfl, hb, pd', h1, h2⟩ := he
  exact ⟨m, rfl, ⟨hb.os, hb.tape, hb.output, hb.size, fun k hk _ => hb.block k hk⟩, pd', h1, h2, rfl, fun j g v hj => by simp at hj⟩
theorem drs_cons {pd : Nat → Nat → Prop} {w : World} {v : VV} {vs : List VV} {ms : List Value} (h : DRs pd w (v :: vs) ms) : ∃ m ms', ms = m :: ms' ∧ DR pd w v m ∧ DRs pd w vs ms' := by
  cases h with
  | cons _ m _ ms h1 h2 => exact ⟨m, ms, rfl, h1, h2⟩
theorem drs_nil {pd : Nat → Nat → Prop} {w : World} {ms : List Value} (h : DRs pd w [] ms) : ms = [] := by cases h; rfl
theorem dr_s {pd : Nat → Nat → Prop} {w : World} {v m : Value} (h : DR pd w (.s v) m) : m = v := by cases h; rfl
theorem resOf_s {pd : Nat → Nat → Prop} {w w' : World} (v : Value) : ResOf pd w (.s v) v w' := ⟨pd, fun _ _ _ h => h, .s v⟩
theorem resOf_tu {pd : Nat → Nat → Prop} {w w' : World} (ls : List Value) : ResOf pd w (.tu (ls.map VV.s)) (.tuple ls.toArray) w' :=
  ⟨pd, fun _ _ _ h => h, .tu _ _ (by
    induction ls with
    | nil => exact .nil
    | cons a ls ih => exact .cons _ _ _ _ (.s a) ih)⟩
theorem drs_sR : ∀ {pd : Nat → Nat → Prop} {w : World} (ls : List Value), DRs pd w (ls.map VV.s) ls
  | _, _, [] => .nil
  | _, _, a :: ls => .cons _ _ _ _ (.s a) (drs_sR ls)
theorem resOf_ow {pd : Nat → Nat → Prop} {w w' : World} {α : Type} {mk : α → Value} (h1 : ∀ x, (mk x).oneCell' = true) {e : Nat} {xs : List α} {m : Value} (hl : xs.length ≤ maxLen) (ho : w'.ownsRow w.heap.size e 1 m xs.length (xs.map mk)) : ResOf pd w (.ow e 1 (xs.map fun x => .s (mk x))) m w' := by
  refine ⟨fun g k => (g < w.heap.size ∧ pd g k) ∨ (m.ownBlock = some g ∧ k < xs.length * 1), fun g k hg h => ?_, xs.map mk, by rw [List.length_map]; exact ho, ?_, ?_, ?_, by rw [List.length_map]; exact hl, ?_⟩
  · rcases h with h | ⟨h, _⟩
    · exact h.2
    · have := own_base ho g h; omega
  · have := drs_sR (pd := fun g k => (g < w.heap.size ∧ pd g k) ∨ (m.ownBlock = some g ∧ k < xs.length * 1)) (w := w') (xs.map mk)
    rw [List.map_map] at this
    have e : (List.map (fun x => VV.s (mk x)) xs).flatMap VV.cells = xs.map (VV.s ∘ mk) := by
      rw [List.flatMap_map]
      clear this ho hl
      induction xs with
      | nil => rfl
      | cons x xs ih => rw [List.flatMap_cons, ih]; rfl
    rw [e]; exact this
  · intro x hx
    obtain ⟨y, _, rfl⟩ := List.mem_map.1 hx
    rfl
  · intro u hu
    obtain ⟨y, _, rfl⟩ := List.mem_map.1 hu
    exact h1 y
  · intro g hg k
    have := own_base ho g hg
    rw [List.length_map]
    constructor
    · rintro (⟨h, _⟩ | ⟨_, h⟩)
      · omega
      · exact h
    · intro h; exact .inr ⟨hg, h⟩
end
end Go.Proofs.YtbfbomcfmgdpkaaGreatDoor.VI

end
section
namespace Go.Proofs.YtbfbomcfmgdpkaaGreatDoor.VI
open Go Go.RowKit Go.Proofs.YtbfbomcfmgdpkaaGreatDoor.G Go.Proofs.YtbfbomcfmgdpkaaGreatDoorW.PrintWords
set_option maxRecDepth 100000
set_option linter.unusedVariables false
set_option linter.unusedSimpArgs false
theorem unS_inv : ∀ (q : List VV) (l : List ByteArray), unS q = some l → q = l.map VV.str
  | [], l, h => by cases h; rfl
  | v :: r, l, h => by
    cases v with
    | s x =>
      cases x with
      | string b =>
        obtain ⟨l', h1, h2⟩ := obind_some h
        cases h2
        rw [unS_inv r l' h1]
        rfl
      | _ => cases h
    | _ => cases h
theorem impl_ReadDec.giv {W : World} (hE : Glob FactE W) (hM : Glob FactM W) (hT : Glob FactT W) : ∀ vs r, impl_ReadDec.gv vs = some r → CallOk1 Tryz.prog W.heap.size (fun w => Below W.heap.size W w) 47 vs r := by
  intro vs r h
  unfold impl_ReadDec.gv at h
  split at h
  case h_2 => cases h
  rename_i a0
  obtain ⟨q, hq, rfl⟩ := Option.map_eq_some_iff.1 h
  refine giv_ok ⟨_, Tryz.func47, by kernel_rfl, by kernel_rfl⟩ rfl fun w ms pd hw hd => ?_
  obtain ⟨m0, ms0, rfl, h0, hd⟩ := drs_cons hd
  obtain rfl := drs_nil hd
  obtain rfl := dr_s h0
  exact (impl_ReadDec.calls (a0 := a0) (r := q) (w := w) (h := hq) (hGE := Glob.below hE hw) (hGT := Glob.below hT hw)).mono fun e w' he => ⟨_, he.1, (he.2), resOf_s _⟩
theorem strings_Split.giv {W : World} (hE : Glob FactE W) (hM : Glob FactM W) (hT : Glob FactT W) : ∀ vs r, strings_Split.gv vs = some r → CallOk1 Tryz.prog W.heap.size (fun w => Below W.heap.size W w) 58 vs r := by
  intro vs r h
  unfold strings_Split.gv at h
  split at h
  case h_2 => cases h
  rename_i a0 a1
  obtain ⟨q, hq, rfl⟩ := Option.map_eq_some_iff.1 h
  refine giv_ok ⟨_, Tryz.func58, by kernel_rfl, by kernel_rfl⟩ rfl fun w ms pd hw hd => ?_
  obtain ⟨m0, ms0, rfl, h0, hd⟩ := drs_cons hd
  obtain ⟨m1, ms1, rfl, h1, hd⟩ := drs_cons hd
  obtain rfl := drs_nil hd
  obtain rfl := dr_s h0
  obtain rfl := dr_s h1
  refine (strings_Split.calls (a0 := a0) (a1 := a1) (r := q) (w := w) (h := hq) (hGM := Glob.below hM hw)).mono fun e w' he => ?_
  obtain ⟨v0, rfl, hR, hb⟩ := he
  refine ⟨v0, rfl, hb, resOf_ow (mk := Value.string) (fun _ => rfl) ?_ (Kd.own_of_R hR)⟩
  exact (Kd.R_reads hR).elim fun _ ⟨_, _, _, hC⟩ => hC.2.1
theorem strings_HasPrefix.giv {W : World} (hE : Glob FactE W) (hM : Glob FactM W) (hT : Glob FactT W) : ∀ vs r, strings_HasPrefix.gv vs = some r → CallOk1 Tryz.prog W.heap.size (fun w => Below W.heap.size W w) 60 vs r := by
  intro vs r h
  unfold strings_HasPrefix.gv at h
  split at h
  case h_2 => cases h
  rename_i a0 a1
  obtain ⟨q, hq, rfl⟩ := Option.map_eq_some_iff.1 h
  refine giv_ok ⟨_, Tryz.func60, by kernel_rfl, by kernel_rfl⟩ rfl fun w ms pd hw hd => ?_
  obtain ⟨m0, ms0, rfl, h0, hd⟩ := drs_cons hd
  obtain ⟨m1, ms1, rfl, h1, hd⟩ := drs_cons hd
  obtain rfl := drs_nil hd
  obtain rfl := dr_s h0
  obtain rfl := dr_s h1
  exact (strings_HasPrefix.calls (a0 := a0) (a1 := a1) (r := q) (w := w) (h := hq)).mono fun e w' he => ⟨_, he.1, (Drawn0.below he.2), resOf_s _⟩
theorem strings_Count.giv {W : World} (hE : Glob FactE W) (hM : Glob FactM W) (hT : Glob FactT W) : ∀ vs r, strings_Count.gv vs = some r → CallOk1 Tryz.prog W.heap.size (fun w => Below W.heap.size W w) 82 vs r := by
  intro vs r h
  unfold strings_Count.gv at h
  split at h
  case h_2 => cases h
  rename_i a0 a1
  obtain ⟨q, hq, rfl⟩ := Option.map_eq_some_iff.1 h
  refine giv_ok ⟨_, Tryz.func82, by kernel_rfl, by kernel_rfl⟩ rfl fun w ms pd hw hd => ?_
  obtain ⟨m0, ms0, rfl, h0, hd⟩ := drs_cons hd
  obtain ⟨m1, ms1, rfl, h1, hd⟩ := drs_cons hd
  obtain rfl := drs_nil hd
  obtain rfl := dr_s h0
  obtain rfl := dr_s h1
  exact (strings_Count.calls (a0 := a0) (a1 := a1) (r := q) (w := w) (h := hq)).mono fun e w' he => ⟨_, he.1, (Drawn0.below he.2), resOf_s _⟩
theorem strings_LastIndex.giv {W : World} (hE : Glob FactE W) (hM : Glob FactM W) (hT : Glob FactT W) : ∀ vs r, strings_LastIndex.gv vs = some r → CallOk1 Tryz.prog W.heap.size (fun w => Below W.heap.size W w) 83 vs r := by
  intro vs r h
  unfold strings_LastIndex.gv at h
  split at h
  case h_2 => cases h
  rename_i a0 a1
  obtain ⟨q, hq, rfl⟩ := Option.map_eq_some_iff.1 h
  refine giv_ok ⟨_, Tryz.func83, by kernel_rfl, by kernel_rfl⟩ rfl fun w ms pd hw hd => ?_
  obtain ⟨m0, ms0, rfl, h0, hd⟩ := drs_cons hd
  obtain ⟨m1, ms1, rfl, h1, hd⟩ := drs_cons hd
  obtain rfl := drs_nil hd
  obtain rfl := dr_s h0
  obtain rfl := dr_s h1
  exact (strings_LastIndex.calls (a0 := a0) (a1 := a1) (r := q) (w := w) (h := hq)).mono fun e w' he => ⟨_, he.1, (Drawn0.below he.2), resOf_s _⟩
theorem strings_TrimLeft.giv {W : World} (hE : Glob FactE W) (hM : Glob FactM W) (hT : Glob FactT W) : ∀ vs r, strings_TrimLeft.gv vs = some r → CallOk1 Tryz.prog W.heap.size (fun w => Below W.heap.size W w) 88 vs r := by
  intro vs r h
  unfold strings_TrimLeft.gv at h
  split at h
  case h_2 => cases h
  rename_i a0 a1
  obtain ⟨q, hq, rfl⟩ := Option.map_eq_some_iff.1 h
  refine giv_ok ⟨_, Tryz.func88, by kernel_rfl, by kernel_rfl⟩ rfl fun w ms pd hw hd => ?_
  obtain ⟨m0, ms0, rfl, h0, hd⟩ := drs_cons hd
  obtain ⟨m1, ms1, rfl, h1, hd⟩ := drs_cons hd
  obtain rfl := drs_nil hd
  obtain rfl := dr_s h0
  obtain rfl := dr_s h1
  exact (strings_TrimLeft.calls (a0 := a0) (a1 := a1) (r := q) (w := w) (h := hq)).mono fun e w' he => ⟨_, he.1, (Drawn0.below he.2), resOf_s _⟩
theorem strconv_Itoa.giv {W : World} (hE : Glob FactE W) (hM : Glob FactM W) (hT : Glob FactT W) : ∀ vs r, strconv_Itoa.gv vs = some r → CallOk1 Tryz.prog W.heap.size (fun w => Below W.heap.size W w) 89 vs r := by
  intro vs r h
  unfold strconv_Itoa.gv at h
  split at h
  case h_2 => cases h
  rename_i a0
  obtain ⟨q, hq, rfl⟩ := Option.map_eq_some_iff.1 h
  refine giv_ok ⟨_, Tryz.func89, by kernel_rfl, by kernel_rfl⟩ rfl fun w ms pd hw hd => ?_
  obtain ⟨m0, ms0, rfl, h0, hd⟩ := drs_cons hd
  obtain rfl := drs_nil hd
  obtain rfl := dr_s h0
  exact (strconv_Itoa.calls (a0 := a0) (r := q) (w := w) (h := hq) (hGT := Glob.below hT hw)).mono fun e w' he => ⟨_, he.1, (he.2), resOf_s _⟩
theorem strings_TrimPrefix.giv {W : World} (hE : Glob FactE W) (hM : Glob FactM W) (hT : Glob FactT W) : ∀ vs r, strings_TrimPrefix.gv vs = some r → CallOk1 Tryz.prog W.heap.size (fun w => Below W.heap.size W w) 91 vs r := by
  intro vs r h
  unfold strings_TrimPrefix.gv at h
  split at h
  case h_2 => cases h
  rename_i a0 a1
  obtain ⟨q, hq, rfl⟩ := Option.map_eq_some_iff.1 h
  refine giv_ok ⟨_, Tryz.func91, by kernel_rfl, by kernel_rfl⟩ rfl fun w ms pd hw hd => ?_
  obtain ⟨m0, ms0, rfl, h0, hd⟩ := drs_cons hd
  obtain ⟨m1, ms1, rfl, h1, hd⟩ := drs_cons hd
  obtain rfl := drs_nil hd
  obtain rfl := dr_s h0
  obtain rfl := dr_s h1
  exact (strings_TrimPrefix.calls (a0 := a0) (a1 := a1) (r := q) (w := w) (h := hq)).mono fun e w' he => ⟨_, he.1, (Drawn0.below he.2), resOf_s _⟩
theorem strings_IndexByte.giv {W : World} (hE : Glob FactE W) (hM : Glob FactM W) (hT : Glob FactT W) : ∀ vs r, strings_IndexByte.gv vs = some r → CallOk1 Tryz.prog W.heap.size (fun w => Below W.heap.size W w) 120 vs r := by
  intro vs r h
  unfold strings_IndexByte.gv at h
  split at h
  case h_2 => cases h
  rename_i a0 a1
  obtain ⟨q, hq, rfl⟩ := Option.map_eq_some_iff.1 h
  refine giv_ok ⟨_, Tryz.func120, by kernel_rfl, by kernel_rfl⟩ rfl fun w ms pd hw hd => ?_
  obtain ⟨m0, ms0, rfl, h0, hd⟩ := drs_cons hd
  obtain ⟨m1, ms1, rfl, h1, hd⟩ := drs_cons hd
  obtain rfl := drs_nil hd
  obtain rfl := dr_s h0
  obtain rfl := dr_s h1
  exact (strings_IndexByte.calls (a0 := a0) (a1 := a1) (r := q) (w := w) (h := hq)).mono fun e w' he => ⟨_, he.1, (Drawn0.below he.2), resOf_s _⟩
theorem given_ok0 {W : World} (hE : Glob FactE W) (hM : Glob FactM W) (hT : Glob FactT W) : GivenOk Tryz.prog W.heap.size (fun w => Below W.heap.size W w) Gv0 := by
  intro f g vs r hg hr
  unfold Gv0 at hg
  split at hg
  · cases hg; exact impl_ReadDec.giv hE hM hT vs r hr
  · cases hg; exact strings_Split.giv hE hM hT vs r hr
  · cases hg; exact strings_HasPrefix.giv hE hM hT vs r hr
  · cases hg; exact strings_Count.giv hE hM hT vs r hr
  · cases hg; exact strings_LastIndex.giv hE hM hT vs r hr
  · cases hg; exact strings_TrimLeft.giv hE hM hT vs r hr
  · cases hg; exact strconv_Itoa.giv hE hM hT vs r hr
  · cases hg; exact strings_TrimPrefix.giv hE hM hT vs r hr
  · cases hg; exact strings_IndexByte.giv hE hM hT vs r hr
  · cases hg
end Go.Proofs.YtbfbomcfmgdpkaaGreatDoor.VI

end
section
namespace Go.Proofs.YtbfbomcfmgdpkaaGreatDoor.G
open Go.RowKit Go.Proofs.YtbfbomcfmgdpkaaGreatDoorW.PrintWords Go.Proofs.YtbfbomcfmgdpkaaGreatDoorW.PrintLast Go.Proofs.YtbfbomcfmgdpkaaGreatDoorW.PrintMore
attribute [local go_sem] max2_int min2_int max_two min_two max_three min_three max_four min_four
attribute [local go_sem high] Go.Proofs.YtbfbomcfmgdpkaaGreatDoor.G.str_gtr Go.Proofs.YtbfbomcfmgdpkaaGreatDoor.G.str_leq Go.Proofs.YtbfbomcfmgdpkaaGreatDoor.G.str_geq
set_option linter.unusedVariables false
set_option linter.unusedSimpArgs false
set_option maxHeartbeats 8000000 in
set_option maxRecDepth 100000 in
theorem spec_l01New.calls (k : Nat) (A0 : Option Addr) (c0 : Nat) (l0 : List Int) (r1 : List Int) (r2 : Int) (r3 : Int) (w0 w : World) (hB : Below w0.heap.size w0 w) (hr0 : Kd.C (Kd.int .u8) w0 A0 l0.length l0) (hc0 : l0.length ≤ c0) (h : spec_l01New.f k l0 = some (r1, r2, r3)) :
  Calls Tryz.prog 54 #[.slice A0 l0.length c0] w fun e w' => ∃ g_ : Nat, e = .returned (.pointer (some ⟨g_, 0, none⟩)) ∧ IsS85 w0 w' g_ r1 r2 r3 ∧ Below w0.heap.size w0 w' ∧ Below w.heap.size w w' := by
 have hu85 := Tryz.underlying85
 have HR0 := Aside0.mk hr0
 have HC0 := Aside0.mk hc0
 clear hr0 hc0
 have HBW := Aside0.mk (Below.refl w.heap.size w)
 have HW0 := Aside0.mk hB.size
 have HB := Aside0.mk hB
 clear hB
 have H : (spec_l01New.l0 k l0 (wrap64 (445445 + (l0.length : Int))) 0) = some (r1, r2, r3) := h
 clear h
 have H' := Aside0.mk H
 clear H
 go_enter Tryz.func54, Tryz.ntmps54
 go_wp2
 go_loopg [3, 4] k (fun kq v3 v4 w' => ∃ (x3_1 : Int) (x4_1 : Int), v3 = .int .i64 x3_1 ∧ v4 = .int .i64 x4_1 ∧ Aside0 (spec_l01New.l0 kq l0 x3_1 x4_1 = some (r1, r2, r3)) ∧ Aside0 (kq ≤ k) ∧ Aside0 (Below w0.heap.size w0 w') ∧ Aside0 (Below w.heap.size w w'))
 case atStart => exact ⟨(wrap64 (445445 + (l0.length : Int))), (0), zb7, zb7, H', ⟨Nat.le_refl _⟩, ⟨zb0⟩, ⟨zb34⟩⟩
 case round =>
  clear H'
  obtain ⟨x3_1, x4_1, rfl, rfl, HA, HK1, HB, HBW⟩ := hrel
  cases gk with
  | zero => exact absurd HA.out (by simp [spec_l01New.l0])
  | succ k1 =>
   have H := HA.out
   clear HA
   simp only [spec_l01New.l0] at H
   by_cases c2 : x4_1 < (l0.length : Int)
   ·rw [if_pos c2] at H
    have c2b0 : decide (x4_1 < (l0.length : Int)) = true := decide_eq_true c2
    clear c2
    by_cases c3 : x4_1 < 4000
    ·rw [if_pos c3] at H
     have c3b0 : decide (x4_1 < 4000) = true := decide_eq_true c3
     clear c3
     by_cases c4 : 0 ≤ x4_1
     ·rw [if_pos c4] at H
      have c4b0 : decide (0 ≤ x4_1) = true := decide_eq_true c4
      clear c4
      have H' := Aside0.mk H
      clear H
      have p101 : 0 ≤ (x4_1 : Int) := of_decide_eq_true zb5
      have q101 : x4_1 < (l0.length : Int) := of_decide_eq_true zb5
      obtain ⟨ad101, e101, hx101_0⟩ := Kd.at_int HR0.out x4_1 p101 q101
      cases e101
      replace hx101_0 := pw_cell_below HB.out hx101_0
      replace p101 := eq_true p101
      replace q101 := eq_true q101
      go_wp2
      go_roundg k1
      case measure => have := HK1.out; omega
      case rel => exact ⟨(Go.bits .and .i64 (wrap64 ((wrap64 ((wrap64 (x3_1 * 131)) + (wrap64 (rd l0 x4_1)))) + 7)) 1073741823), (wrap64 (x4_1 + 1)), zb7, zb7, H', ⟨by have := HK1.out; omega⟩, ⟨zb0⟩, ⟨zb34⟩⟩
     ·rw [if_neg c4] at H
      exact absurd H zb26
    ·rw [if_neg c3] at H
     have c3b0 : decide (x4_1 < 4000) = false := decide_eq_false c3
     clear c3
     simp only [Option.some.injEq, Prod.mk.injEq] at H
     obtain ⟨rfl, rfl, rfl⟩ := H
     go_wp2
     go_ret
     exact ⟨_, rfl, (show IsS85 w0 _ _ l0 0 x3_1 from ⟨_, _, heap_alloc_new _ _, below_size zb0, HR0.out⟩), zb0, zb34⟩
   ·rw [if_neg c2] at H
    have c2b0 : decide (x4_1 < (l0.length : Int)) = false := decide_eq_false c2
    clear c2
    simp only [Option.some.injEq, Prod.mk.injEq] at H
    obtain ⟨rfl, rfl, rfl⟩ := H
    go_wp2
    go_ret
    exact ⟨_, rfl, (show IsS85 w0 _ _ l0 0 x3_1 from ⟨_, _, heap_alloc_new _ _, below_size zb0, HR0.out⟩), zb0, zb34⟩
set_option maxHeartbeats 8000000 in
set_option maxRecDepth 100000 in
theorem spec_l01Byte.calls (g : Nat) (s0_0 : List Int) (s0_1 : Int) (s0_2 : Int) (r1 : Int) (r2 : Int) (r3 : Int) (w0 w : World) (hI : IsS85 w0 w g s0_0 s0_1 s0_2) (hB : Below w0.heap.size w0 w) (h : spec_l01Byte.f s0_0 s0_1 s0_2 = some (r1, r2, r3)) :
  Calls Tryz.prog 122 #[.pointer (some ⟨g, 0, none⟩)] w fun e w' => e = .returned (.int .i64 r1) ∧ IsS85 w0 w' g s0_0 r2 r3 ∧ Below w0.heap.size w0 w' ∧ KeepBut w w' g none := by
 have HI0 := Aside0.mk hI
 have HK := Aside0.mk (KeepBut.refl w g none)
 have HL := Aside0.mk hB.size
 clear hI
 have HW0 := Aside0.mk hB.size
 have HB := Aside0.mk hB
 clear hB
 have H : (if s0_1 < (s0_0.length : Int) then (if 0 ≤ s0_1 then (some (Go.bits .and .i64 (wrap64 ((Go.bits .and .i64 (Go.bits .xor .i64 ((wrap64 ((wrap64 (s0_2 * 6364136223846793005)) + 1442695040888963407)) / 8589934592) ((wrap64 ((wrap64 (s0_2 * 6364136223846793005)) + 1442695040888963407)) / 35184372088832)) 255) + (wrap64 (rd s0_0 s0_1)))) 255, wrap64 (s0_1 + 1), wrap64 ((wrap64 (s0_2 * 6364136223846793005)) + 1442695040888963407))) else (none)) else (some (Go.bits .and .i64 (Go.bits .xor .i64 ((wrap64 ((wrap64 (s0_2 * 6364136223846793005)) + 1442695040888963407)) / 8589934592) ((wrap64 ((wrap64 (s0_2 * 6364136223846793005)) + 1442695040888963407)) / 35184372088832)) 255, s0_1, wrap64 ((wrap64 (s0_2 * 6364136223846793005)) + 1442695040888963407)))) = some (r1, r2, r3) := h
 clear h
 by_cases c2 : s0_1 < (s0_0.length : Int)
 ·rw [if_pos c2] at H
  have c2b0 : decide (s0_1 < (s0_0.length : Int)) = true := decide_eq_true c2
  clear c2
  by_cases c3 : 0 ≤ s0_1
  ·rw [if_pos c3] at H
   have c3b0 : decide (0 ≤ s0_1) = true := decide_eq_true c3
   clear c3
   simp only [Option.some.injEq, Prod.mk.injEq] at H
   obtain ⟨rfl, rfl, rfl⟩ := H
   obtain ⟨ASz4_0, cSz4_0, HGz4, hgz4, HSz4_0⟩ := HI0.out
   have hcz4_0 := cellS85_0 HGz4
   have hcz4_1 := cellS85_1 HGz4
   have hcz4_2 := cellS85_2 HGz4
   have hfz4_1 := blk_frozen HGz4 1
   have hfz4_2 := blk_frozen HGz4 2
   clear HGz4 hgz4
   have p104 : 0 ≤ (s0_1 : Int) := of_decide_eq_true zb5
   have q104 : s0_1 < (s0_0.length : Int) := of_decide_eq_true zb5
   obtain ⟨ad104, e104, hx104_0⟩ := Kd.at_int HSz4_0 s0_1 p104 q104
   cases e104
   have hn104_0 : ad104.block ≠ g := Nat.ne_of_lt (Nat.lt_of_lt_of_le (by have := World.block_lt_of_cell? _ _ hx104_0; first | rwa [add_block] at this | exact this) (IsS85.ge HI0.out))
   replace hx104_0 := pw_cell_below HB.out hx104_0
   replace hx104_0 := (cell_far (p := ⟨g, 2, none⟩) (by first | (rw [add_block]; exact hn104_0) | (show (Addr.add _ _).block ≠ _; rw [add_block]; exact hn104_0) | exact hn104_0) (.int .i64 (wrap64 ((wrap64 (s0_2 * 6364136223846793005)) + 1442695040888963407)))).trans hx104_0
   (try have hy104_0 := fun (n_ : Nat) => (show (((w.drewN n_).setCell ⟨g, 2, none⟩ (.int .i64 (wrap64 ((wrap64 (s0_2 * 6364136223846793005)) + 1442695040888963407))))).cell? _ = some _ from hx104_0))
   clear hn104_0
   replace p104 := eq_true p104
   replace q104 := eq_true q104
   go_enter Tryz.func122, Tryz.ntmps122
   go_wp2
   repeat (go_quiet (fail); try go_wp2)
   go_ret
   exact ⟨zb8, zb1, zb3, zb4⟩
  ·rw [if_neg c3] at H
   exact absurd H zb26
 ·rw [if_neg c2] at H
  have c2b0 : decide (s0_1 < (s0_0.length : Int)) = false := decide_eq_false c2
  clear c2
  simp only [Option.some.injEq, Prod.mk.injEq] at H
  obtain ⟨rfl, rfl, rfl⟩ := H
  obtain ⟨ASz5_0, cSz5_0, HGz5, hgz5, HSz5_0⟩ := HI0.out
  have hcz5_0 := cellS85_0 HGz5
  have hcz5_1 := cellS85_1 HGz5
  have hcz5_2 := cellS85_2 HGz5
  have hfz5_1 := blk_frozen HGz5 1
  have hfz5_2 := blk_frozen HGz5 2
  clear HGz5 hgz5
  go_enter Tryz.func122, Tryz.ntmps122
  go_wp2
  repeat (go_quiet (fail); try go_wp2)
  go_ret
  exact ⟨zb8, zb1, zb3, zb4⟩
set_option maxHeartbeats 8000000 in
set_option maxRecDepth 100000 in
theorem spec_l01Below.calls (g : Nat) (s0_0 : List Int) (s0_1 : Int) (s0_2 : Int) (a1 : Int) (r1 : Int) (r2 : Int) (r3 : Int) (w0 w : World) (hI : IsS85 w0 w g s0_0 s0_1 s0_2) (hB : Below w0.heap.size w0 w) (h : spec_l01Below.f s0_0 s0_1 s0_2 a1 = some (r1, r2, r3)) :
  Calls Tryz.prog 79 #[.pointer (some ⟨g, 0, none⟩), .int .i64 a1] w fun e w' => e = .returned (.int .i64 r1) ∧ IsS85 w0 w' g s0_0 r2 r3 ∧ Below w0.heap.size w0 w' ∧ KeepBut w w' g none := by
 have HI0 := Aside0.mk hI
 have HK := Aside0.mk (KeepBut.refl w g none)
 have HL := Aside0.mk hB.size
 clear hI
 have HW0 := Aside0.mk hB.size
 have HB := Aside0.mk hB
 clear hB
 have H : (if a1 ≤ 0 then (some (0, s0_1, s0_2)) else (if a1 ≤ 256 then ((spec_l01Byte.f s0_0 s0_1 s0_2).bind fun bt105 => (if a1 = 0 then (none) else (some (Int.tmod bt105.1 a1, bt105.2.1, bt105.2.2)))) else ((spec_l01Byte.f s0_0 s0_1 s0_2).bind fun bt108 => ((spec_l01Byte.f s0_0 bt108.2.1 bt108.2.2).bind fun bt111 => ((spec_l01Byte.f s0_0 bt111.2.1 bt111.2.2).bind fun bt114 => ((spec_l01Byte.f s0_0 bt114.2.1 bt114.2.2).bind fun bt117 => (if a1 = 0 then (none) else (some (Int.tmod (wrap64 ((wrap64 ((wrap64 ((wrap64 (bt108.1 * 16777216)) + (wrap64 (bt111.1 * 65536)))) + (wrap64 (bt114.1 * 256)))) + bt117.1)) a1, bt117.2.1, bt117.2.2))))))))) = some (r1, r2, r3) := h
 clear h
 by_cases c3 : a1 ≤ 0
 ·rw [if_pos c3] at H
  have c3b0 : decide (a1 ≤ 0) = true := decide_eq_true c3
  clear c3
  simp only [Option.some.injEq, Prod.mk.injEq] at H
  obtain ⟨rfl, rfl, rfl⟩ := H
  go_enter Tryz.func79, Tryz.ntmps79
  go_wp2
  go_ret
  exact ⟨zb8, zb1, zb3, zb4⟩
 ·rw [if_neg c3] at H
  have c3b0 : decide (a1 ≤ 0) = false := decide_eq_false c3
  clear c3
  by_cases c4 : a1 ≤ 256
  ·rw [if_pos c4] at H
   have c4b0 : decide (a1 ≤ 256) = true := decide_eq_true c4
   clear c4
   replace H := Option.bind_eq_some_iff.mp H
   obtain ⟨⟨t105, t106, t107⟩, A50, H⟩ := H
   try dsimp only at H
   have A5 := Aside0.mk A50
   clear A50
   by_cases c6 : a1 = 0
   ·rw [if_pos c6] at H
    exact absurd H zb26
   ·rw [if_neg c6] at H
    have c6b0 : (a1 == 0) = false := beq_eq_false_iff_ne.mpr c6
    have c6b1 : (a1 != 0) = true := bne_iff_ne.mpr c6
    simp only [Option.some.injEq, Prod.mk.injEq] at H
    obtain ⟨rfl, rfl, rfl⟩ := H
    go_enter Tryz.func79, Tryz.ntmps79
    go_wp2_with (first | ((with_reducible refine gate_callee (f := 122) rfl ?_); refine goesL_ (some 14) rfl rfl Tryz.func122 zb13 rfl #[.pointer (some ⟨g, 0, none⟩)] rfl zb2 ?_; (with_reducible refine (spec_l01Byte.calls g s0_0 s0_1 s0_2 t105 t106 t107 w0 _ ?side1 ?side2 A5.out).mono ?_); (case side1 => exact zb1); (case side2 => exact zb3); rintro e w7 ⟨rfl, hi, hb, hk⟩; refine ⟨_, rfl, ?_⟩; replace HK := Aside0.mk (KeepBut.trans zb4 hk (.inl rfl)); replace HB := Aside0.mk hb; replace HI0 := Aside0.mk hi; (try clear hb)))
    go_ret
    exact ⟨zb8, zb1, zb3, zb4⟩
  ·rw [if_neg c4] at H
   have c4b0 : decide (a1 ≤ 256) = false := decide_eq_false c4
   clear c4
   replace H := Option.bind_eq_some_iff.mp H
   obtain ⟨⟨t108, t109, t110⟩, A80, H⟩ := H
   try dsimp only at H
   have A8 := Aside0.mk A80
   clear A80
   replace H := Option.bind_eq_some_iff.mp H
   obtain ⟨⟨t111, t112, t113⟩, A90, H⟩ := H
   try dsimp only at H
   have A9 := Aside0.mk A90
   clear A90
   replace H := Option.bind_eq_some_iff.mp H
   obtain ⟨⟨t114, t115, t116⟩, A100, H⟩ := H
   try dsimp only at H
   have A10 := Aside0.mk A100
   clear A100
   replace H := Option.bind_eq_some_iff.mp H
   obtain ⟨⟨t117, t118, t119⟩, A110, H⟩ := H
   try dsimp only at H
   have A11 := Aside0.mk A110
   clear A110
   by_cases c12 : a1 = 0
   ·rw [if_pos c12] at H
    exact absurd H zb26
   ·rw [if_neg c12] at H
    have c12b0 : (a1 == 0) = false := beq_eq_false_iff_ne.mpr c12
    have c12b1 : (a1 != 0) = true := bne_iff_ne.mpr c12
    simp only [Option.some.injEq, Prod.mk.injEq] at H
    obtain ⟨rfl, rfl, rfl⟩ := H
    go_enter Tryz.func79, Tryz.ntmps79
    go_wp2_with (first | ((with_reducible refine gate_callee (f := 122) rfl ?_); refine goesL_ (some 18) rfl rfl Tryz.func122 zb13 rfl #[.pointer (some ⟨g, 0, none⟩)] rfl zb2 ?_; (with_reducible refine (spec_l01Byte.calls g s0_0 s0_1 s0_2 t108 t109 t110 w0 _ ?side1 ?side2 A8.out).mono ?_); (case side1 => exact zb1); (case side2 => exact zb3); rintro e w13 ⟨rfl, hi, hb, hk⟩; refine ⟨_, rfl, ?_⟩; replace HK := Aside0.mk (KeepBut.trans zb4 hk (.inl rfl)); replace HB := Aside0.mk hb; replace HI0 := Aside0.mk hi; (try clear hb)) | ((with_reducible refine gate_callee (f := 122) rfl ?_); refine goesL_ (some 20) rfl rfl Tryz.func122 zb13 rfl #[.pointer (some ⟨g, 0, none⟩)] rfl zb2 ?_; (with_reducible refine (spec_l01Byte.calls g s0_0 t109 t110 t111 t112 t113 w0 _ ?side1 ?side2 A9.out).mono ?_); (case side1 => exact zb1); (case side2 => exact zb3); rintro e w14 ⟨rfl, hi, hb, hk⟩; refine ⟨_, rfl, ?_⟩; replace HK := Aside0.mk (KeepBut.trans zb4 hk (.inl rfl)); replace HB := Aside0.mk hb; replace HI0 := Aside0.mk hi; (try clear hb)) | ((with_reducible refine gate_callee (f := 122) rfl ?_); refine goesL_ (some 22) rfl rfl Tryz.func122 zb13 rfl #[.pointer (some ⟨g, 0, none⟩)] rfl zb2 ?_; (with_reducible refine (spec_l01Byte.calls g s0_0 t112 t113 t114 t115 t116 w0 _ ?side1 ?side2 A10.out).mono ?_); (case side1 => exact zb1); (case side2 => exact zb3); rintro e w15 ⟨rfl, hi, hb, hk⟩; refine ⟨_, rfl, ?_⟩; replace HK := Aside0.mk (KeepBut.trans zb4 hk (.inl rfl)); replace HB := Aside0.mk hb; replace HI0 := Aside0.mk hi; (try clear hb)) | ((with_reducible refine gate_callee (f := 122) rfl ?_); refine goesL_ (some 24) rfl rfl Tryz.func122 zb13 rfl #[.pointer (some ⟨g, 0, none⟩)] rfl zb2 ?_; (with_reducible refine (spec_l01Byte.calls g s0_0 t115 t116 t117 t118 t119 w0 _ ?side1 ?side2 A11.out).mono ?_); (case side1 => exact zb1); (case side2 => exact zb3); rintro e w16 ⟨rfl, hi, hb, hk⟩; refine ⟨_, rfl, ?_⟩; replace HK := Aside0.mk (KeepBut.trans zb4 hk (.inl rfl)); replace HB := Aside0.mk hb; replace HI0 := Aside0.mk hi; (try clear hb)))
    go_ret
    exact ⟨zb8, zb1, zb3, zb4⟩
set_option maxHeartbeats 8000000 in
set_option maxRecDepth 100000 in
theorem spec_l01Pick.calls (g : Nat) (s0_0 : List Int) (s0_1 : Int) (s0_2 : Int) (A1 : Option Addr) (c1 : Nat) (l1 : List ByteArray) (r1 : ByteArray) (r2 : Int) (r3 : Int) (w0 w : World) (hI : IsS85 w0 w g s0_0 s0_1 s0_2) (hB : Below w0.heap.size w0 w) (hr1 : Kd.C Kd.string w A1 l1.length l1) (hc1 : l1.length ≤ c1) (hf1 : ∀ ad, A1 = some ad → 0 < l1.length → ad.block ≠ g) (h : spec_l01Pick.f s0_0 s0_1 s0_2 l1 = some (r1, r2, r3)) :
  Calls Tryz.prog 80 #[.pointer (some ⟨g, 0, none⟩), .slice A1 l1.length c1] w fun e w' => e = .returned (.string r1) ∧ IsS85 w0 w' g s0_0 r2 r3 ∧ Below w0.heap.size w0 w' ∧ KeepBut w w' g none := by
 have HR1 := Aside0.mk hr1
 have HC1 := Aside0.mk hc1
 clear hr1 hc1
 have HI0 := Aside0.mk hI
 have HK := Aside0.mk (KeepBut.refl w g none)
 have HL := Aside0.mk hB.size
 clear hI
 have HW0 := Aside0.mk hB.size
 have HB := Aside0.mk hB
 clear hB
 have H : ((spec_l01Below.f s0_0 s0_1 s0_2 (l1.length : Int)).bind fun bt120 => (if 0 ≤ bt120.1 then (if bt120.1 < (l1.length : Int) then (some (rdOf ByteArray.empty l1 bt120.1, bt120.2.1, bt120.2.2)) else (none)) else (none))) = some (r1, r2, r3) := h
 clear h
 replace H := Option.bind_eq_some_iff.mp H
 obtain ⟨⟨t120, t121, t122⟩, A30, H⟩ := H
 try dsimp only at H
 have A3 := Aside0.mk A30
 clear A30
 by_cases c4 : 0 ≤ t120
 ·rw [if_pos c4] at H
  have c4b0 : decide (0 ≤ t120) = true := decide_eq_true c4
  clear c4
  by_cases c5 : t120 < (l1.length : Int)
  ·rw [if_pos c5] at H
   have c5b0 : decide (t120 < (l1.length : Int)) = true := decide_eq_true c5
   clear c5
   simp only [Option.some.injEq, Prod.mk.injEq] at H
   obtain ⟨rfl, rfl, rfl⟩ := H
   go_enter Tryz.func80, Tryz.ntmps80
   go_wp2_with (first | ((with_reducible refine gate_callee (f := 79) rfl ?_); refine goesL_ (some 9) rfl rfl Tryz.func79 zb13 rfl #[.pointer (some ⟨g, 0, none⟩), .int .i64 (l1.length : Int)] rfl zb2 ?_; (with_reducible refine (spec_l01Below.calls g s0_0 s0_1 s0_2 (l1.length : Int) t120 t121 t122 w0 _ ?side1 ?side2 A3.out).mono ?_); (case side1 => exact zb1); (case side2 => exact zb3); rintro e w6 ⟨rfl, hi, hb, hk⟩; refine ⟨_, rfl, ?_⟩; replace HK := Aside0.mk (KeepBut.trans zb4 hk (.inl rfl)); replace HB := Aside0.mk hb; replace HI0 := Aside0.mk hi; (try clear hb); have p123 : 0 ≤ (t120 : Int) := of_decide_eq_true zb5; have q123 : t120 < (l1.length : Int) := of_decide_eq_true zb5; obtain ⟨ad123, e123, hx123_0⟩ := Kd.at_string HR1.out t120 p123 q123; cases e123; replace hx123_0 := keep_cell HK.out hx123_0 (by first | (rw [add_block]; exact hf1 _ rfl zb40) | exact hf1 _ rfl zb40 | exact hf1 ad123 rfl zb40); replace p123 := eq_true p123; replace q123 := eq_true q123))
   go_ret
   exact ⟨zb8, zb1, zb3, zb4⟩
  ·rw [if_neg c5] at H
   exact absurd H zb26
 ·rw [if_neg c4] at H
  exact absurd H zb26
end Go.Proofs.YtbfbomcfmgdpkaaGreatDoor.G

end
