/- A part of the proof that the law FnExactHoles answers true at every input that its row speaks of. Conditions: the row's own. -/
import Derived.Test.YtcfeihimmboghaaGreatDoorMFnExactHoles7
section
namespace Go.Proofs.YtcfeihimmboghaaGreatDoor.VI
open Go Go.RowKit
set_option linter.unusedVariables false
set_option linter.unusedSimpArgs false
section
variable {P : Program} {NG : Nat} {GW : World → Prop} {io : List Nat} {w0 : World} {pd0 : Nat → Nat → Prop} {G : Gh} {env env' : Env} {a : Act} {w : World}
variable {R : Type} {K : Env → Option R} {r : R} {Q : Exit → Act → World → Prop} {o : Oper} {C : Cx} {ops : List Oper} {al : List Nat}
structure Agree (ops : List Oper) (al : List Nat) (o : Oper) (env env' : Env) : Prop where
  see : ∀ t ∈ o.looksAt ops.toArray, get env' t = get env t
  box : ∀ t cs, t ∉ al → get env t = .bx cs → get env' t = .bx cs
  dst : ∀ d, o.dst = some d → plain (get env' d) = true
  ref : ∀ d ∈ al, env'.any (refersD d) = false
theorem look_op {t : Nat} (h : Operand.tmp t ∈ o.op.operands.toList) : t ∈ o.looksAt ops.toArray := by
  unfold Oper.looksAt
  refine List.mem_append_left _ (List.mem_filterMap.2 ⟨_, h, rfl⟩)
theorem look_guard {j : Nat} {want : Bool} {p : Oper} {t : Nat} (hg : o.guard = some (j, want)) (hj : ops[j]? = some p) (ht : p.dst = some t) : t ∈ o.looksAt ops.toArray := by
  unfold Oper.looksAt
  refine List.mem_append_right _ ?_
  simp [hg, hj, ht]
theorem Agree.rd (h : Agree ops al o env env') : ∀ x ∈ o.op.operands.toList, rdv env' x = rdv env x := by
  intro x hx
  cases x with
  | tmp t => simp only [rdv]; rw [h.see t (look_op hx)]
  | _ => rfl
theorem vput_ok {dst : Option Nat} {v : VV} (h : ∃ r : R, vput (some al) dst v env K = some r) : (∀ d, dst = some d → plain (get env d) = true ∧ plain v = true ∧ al.all (fun t => !(refersD t v)) = true) := by
  obtain ⟨r, h⟩ := h
  intro d hd
  subst hd
  simp only [vput] at h
  split at h
  · rename_i hp; rw [Bool.and_eq_true, Bool.and_eq_true] at hp; exact hp
  · cases h
theorem vput_go {R' : Type} {K' : Env → Option R'} {dst : Option Nat} {v : VV} (h1 : ∀ d, dst = some d → plain (get env d) = true) (h2 : ∀ d, dst = some d → plain v = true ∧ al.all (fun t => !(refersD t v)) = true) : vput (some al) dst v env K' = K' (put dst v env) := by
  cases dst with
  | none => rfl
  | some d =>
    simp only [vput]
    rw [h1 d rfl, (h2 d rfl).1, (h2 d rfl).2]
    simp only [Bool.and_self, vset_eq]
    rfl
theorem nth_set : ∀ (env : Env) (d t : Nat) (v : VV), nth (env.set d v) t = if d = t ∧ d < env.length then v else nth env t
  | [], d, t, v => by simp [nth]
  | a :: r, 0, 0, v => by simp [nth]
  | a :: r, 0, t + 1, v => by simp [nth]
  | a :: r, d + 1, 0, v => by simp [nth]
  | a :: r, d + 1, t + 1, v => by simp only [List.set_cons_succ, nth]; rw [nth_set r d t v]; simp
def put2 (sv : Option (Nat × VV)) (env : Env) : Env := match sv with
  | some p => env.set p.1 p.2
  | none => env
def QStep (P : Program) (NG : Nat) (GW : World → Prop) (io : List Nat) (w0 : World) (pd0 : Nat → Nat → Prop) (Q : Exit → Act → World → Prop) (ops : List Oper) (al : List Nat) (i : Nat) (o : Oper) (env : Env) (v : VV) (sv : Option (Nat × VV)) : Prop :=
  (∀ d, o.dst = some d → plain (get env d) = true) ∧ (∀ t ∈ al, o.dst ≠ none → refersD t v = false) ∧ (∀ cs, v = .bx cs → ∀ d, o.dst = some d → d ∈ al) ∧ (∀ e z xs, v = .mr e z xs → o.dst = none) ∧ (∀ t s, sv = some (t, s) → sdOf ops o = some t ∧ plain (get env t) = true ∧ ∃ xs, s = .sl xs) ∧
    ∀ (env' : Env) (G : Gh) (a : Act) (w : World), Agree ops al o env env' → Sim NG GW io w0 pd0 G env' a w → ∀ Nk : Act → World → Prop, (∀ G' a' w', Sim NG GW io w0 pd0 G' (put o.dst v (put2 sv env')) a' w' → Nk a' w') → wpOp P ops.toArray Q i Nk a w
theorem seen_agree (h : Agree ops al o env env') {j : Nat} {want : Bool} (hg : o.guard = some (j, want)) : seen ops env' j = seen ops env j := by
  unfold seen
  cases hj : ops[j]? with
  | none => rfl
  | some p =>
    simp only
    cases ht : p.dst with
    | none => rfl
    | some t => simp only [h.see t (look_guard hg hj ht)]
theorem quiet_step (hti : TIok P C.ti) (gws : ∀ w w', GW w → Below NG w w' → GW w') (hC : CallOk P NG GW C.call) (hq : quietB C ops o = true) (hal : ∀ d t, o.op = .alloc t → o.dst = some d → d ∈ al) {i : Nat} (hi : ops[i]? = some o) {rest : List Oper} (h : vops C ops (some al) (o :: rest) env K = some r) :
    ∃ v sv, vops C ops (some al) rest (put o.dst v (put2 sv env)) K = some r ∧ QStep P NG GW io w0 pd0 Q ops al i o env v sv := by
  have run : ∀ h : vop C ops (some al) o env (fun env' => vops C ops (some al) rest env' K) = some r, ∃ v, vops C ops (some al) rest (put o.dst v env) K = some r ∧ (∀ d, o.dst = some d → plain (get env d) = true) ∧ (∀ t ∈ al, o.dst ≠ none → refersD t v = false) ∧ (∀ cs, v = .bx cs → ∀ d, o.dst = some d → d ∈ al) ∧ (∀ e z xs, v = .mr e z xs → o.dst = none) ∧
      ∀ (env' : Env), Agree ops al o env env' → ∀ {R' : Type} (K' : Env → Option R'), vop C ops (some al) o env' K' = K' (put o.dst v env') := by
    intro h
    by_cases ha : ∃ t, o.op = .alloc t
    · obtain ⟨t, hop⟩ := ha
      simp only [vop, hop] at h
      split at h
      case h_2 => cases h
      rename_i ti d hti' hd
      have hdm := hal d t hop hd
      simp only [vnew] at h
      split at h
      case h_2 => cases h
      rename_i hc
      rw [Bool.or_eq_false_iff] at hc
      rw [vset_eq] at h
      refine ⟨.bx (ti.zero.map zcell), by rw [hd]; exact h, ?_, fun _ _ _ => rfl, ?_, fun _ _ _ he => VV.noConfusion he, ?_⟩
      · intro d' hd'; rw [hd] at hd'; cases hd'; simpa using hc.2
      · intro cs _ d' hd'; rw [hd] at hd'; cases hd'; exact hdm
      · intro env' hA R' K'
        simp only [vop, hop, hti', hd, vnew]
        rw [hA.ref d hdm, hA.dst d hd]
        simp only [Bool.not_true, Bool.or_self, vset_eq]
        rfl
    · have ha' : ∀ t, o.op ≠ .alloc t := fun t e => ha ⟨t, e⟩
      rw [vop_quiet hq ha'] at h
      obtain ⟨v, hv, huni⟩ := vqu_val h
      have hok := vput_ok ⟨r, hv⟩
      have hK := vput_some hv
      refine ⟨v, hK, fun d hd => (hok d hd).1, fun t ht hne => ?_, fun cs e d hd => ?_, fun e z xs he => ?_, fun env' hA R' K' => ?_⟩
      · cases hd : o.dst with
        | none => exact absurd hd hne
        | some d =>
          have := (hok d hd).2.2
          rw [List.all_eq_true] at this
          simpa using this t ht
      · have := (hok d hd).2.1
        rw [e] at this; cases this
      · cases hd : o.dst with
        | none => rfl
        | some d =>
          have := (hok d hd).2.1
          rw [he] at this; cases this
      · rw [vop_quiet hq ha', vqu_congr (rd := rdv env) (gb := getB (some al) env) hA.rd ?_]
        · rw [huni]
          exact vput_go hA.dst fun d hd => (hok d hd).2
        · intro ty x hop t off hx
          have hb : ∃ cs, getB (some al) env t = .bx cs := by
            simp only [vqu, hop] at h
            split at h
            · cases h
            · rw [hx] at h
              simp only at h
              split at h
              · exact ⟨_, by assumption⟩
              · cases h
          obtain ⟨cs, hcs⟩ := hb
          rw [hcs]
          have hg := getB_bx hcs
          unfold getB at hcs ⊢
          simp only at hcs ⊢
          split at hcs
          · cases hcs
          · rename_i hm
            exact hA.box t cs (fun hmem => by
              have := List.any_eq_false.1 hm t hmem
              simp at this) hg
  have mk : ∀ v, (∀ (env' : Env), Agree ops al o env env' → ∀ {R' : Type} (K' : Env → Option R'), vop C ops (some al) o env' K' = K' (put o.dst v env')) → ∀ (env' : Env) (G : Gh) (a : Act) (w : World), Agree ops al o env env' → Sim NG GW io w0 pd0 G env' a w → ∀ Nk : Act → World → Prop, (∀ G' a' w', Sim NG GW io w0 pd0 G' (put o.dst v env') a' w' → Nk a' w') → o.wp P a w Nk Q := by
    intro v hv env' G a w hA hs Nk hNk
    have := hv env' hA (R' := Env) some
    refine vop_sound (r := put o.dst v env') (K := some) hti gws hC hs (fun G' e' a' w' hs' he => ?_) this
    cases he
    exact hNk G' a' w' hs'
  rw [vops] at h
  split at h
  · rename_i hg
    obtain ⟨v, h1, h2, h3, h4, h5, h6⟩ := run h
    refine ⟨v, none, h1, h2, h3, h4, h5, fun t s he => (by cases he), fun env' G a w hA hs Nk hNk => ?_⟩
    unfold wpOp
    rw [show ops.toArray[i]? = some o by simpa using hi]
    simp only
    rw [if_pos (by simp [Region.wanted, hg])]
    exact .inl (mk v h6 env' G a w hA hs Nk hNk)
  · rename_i j want hg
    have skip : ∀ h : vput (some al) o.dst (.s undef) env (fun env' => vops C ops (some al) rest env' K) = some r, (∀ (env' : Env) (G : Gh) (a : Act) (w : World), Agree ops al o env env' → Sim NG GW io w0 pd0 G env' a w → ¬ Region.wanted o (yielded ops.toArray a.tmps) = true) → ∃ v sv, vops C ops (some al) rest (put o.dst v (put2 sv env)) K = some r ∧ QStep P NG GW io w0 pd0 Q ops al i o env v sv := by
      intro h hw
      have hok := vput_ok ⟨r, h⟩
      refine ⟨.s undef, none, vput_some h, fun d hd => (hok d hd).1, fun _ _ _ => rfl, fun cs e => VV.noConfusion e, fun _ _ _ e => VV.noConfusion e, fun t s he => (by cases he), fun env' G a w hA hs Nk hNk => ?_⟩
      unfold wpOp
      rw [show ops.toArray[i]? = some o by simpa using hi]
      simp only
      rw [if_neg (hw env' G a w hA hs)]
      exact hNk G _ _ (hs.put o.dst fun d _ => VR.slot (VR.of_dr (.s _)) d)
    split at h
    · rename_i b hb
      have hy : ∀ (env' : Env) (G : Gh) (a : Act) (w : World), Agree ops al o env env' → Sim NG GW io w0 pd0 G env' a w → yielded ops.toArray a.tmps j = some b := fun env' G a w hA hs => seen_ok hs (ops := ops.toArray) (by rw [← hb]; exact seen_agree hA hg)
      rcases bite_some h with ⟨hbw, h⟩ | ⟨hbw, h⟩
      · obtain ⟨v, h1, h2, h3, h4, h5, h6⟩ := run h
        refine ⟨v, none, h1, h2, h3, h4, h5, fun t s he => (by cases he), fun env' G a w hA hs Nk hNk => ?_⟩
        unfold wpOp
        rw [show ops.toArray[i]? = some o by simpa using hi]
        simp only
        rw [if_pos (by simp only [Region.wanted, hg, hy env' G a w hA hs]; simpa using hbw)]
        exact .inl (mk v h6 env' G a w hA hs Nk hNk)
      · exact skip h fun env' G a w hA hs => by simp only [Region.wanted, hg, hy env' G a w hA hs]; simpa using hbw
    · rename_i hb
      refine skip h fun env' G a w hA hs => ?_
      have hy : yielded ops.toArray a.tmps j = none := seen_ok hs (ops := ops.toArray) (by rw [← hb]; exact seen_agree hA hg)
      simp [Region.wanted, hg, hy]
    · cases h
theorem get_set_ne {d t : Nat} {s : VV} (h : t ≠ d) : get (env.set t s) d = get env d := by
  unfold get
  rw [nth_set, if_neg (fun e => h e.1)]
def vapp (C : Cx) (c : Call) (a b : VV) : Option (VV × VV) := match c.argTypes.toList with
  | [t, t'] => if Nat.beq t t' then (match C.ti t with
      | some i => (match i.k with
        | .slice e => (match C.ti e with
          | some ie => if 0 < ie.sz ∧ 0 < ie.bytes then (match a, b with
            | .ow e' z xs, .sl ys => if Nat.beq e' e && Nat.beq z ie.sz then bite (decide ((xs.length + ys.length) * ie.bytes ≤ 140737488355328) && ys.all fun v => Nat.beq v.cells.length ie.sz) (some (.sl xs, .ow e ie.sz (xs ++ ys))) none else none
            | .nl, .sl ys => bite (decide (ys.length * ie.bytes ≤ 140737488355328) && ys.all fun v => Nat.beq v.cells.length ie.sz) (some (.sl [], .ow e ie.sz ys)) none
            | _, _ => none) else none
          | none => none)
        | _ => none)
      | none => none) else none
  | _ => none
theorem app_mem {c : Call} {l : List Operand} (hc : c.callee = .builtin .append) (ha : c.args.toList = l) {x : Operand} (hx : x ∈ l) : x ∈ (Op.call c).operands.toList := by
  have h1 : x ∈ c.args := by rw [← Array.mem_toList_iff, ha]; exact hx
  simp [Op.operands, Call.operands, hc, h1]
theorem bite_obind {α β : Type} {b : Bool} {p : α} {f : α → Option β} : obind (bite b (some p) none) f = bite b (f p) none := by cases b <;> rfl
theorem vop_app {R' : Type} {K' : Env → Option R'} {c : Call} {u : Nat} {y : Operand} (hop : o.op = .call c) (hc : c.callee = .builtin .append) (ha : c.args.toList = [.tmp u, y]) {dr : Option (List Nat)} : vop C ops dr o env K' = obind (vapp C c (get env u) (rdv env y)) fun p => vset u p.1 env fun env' => vput dr o.dst p.2 env' K' := by
  simp only [vop, hop, hc, ha, vapp]
  split
  · rename_i x y' t t' e1 e2
    cases e1
    (try simp only [e2])
    split
    · rename_i hb
      (try simp only [hb, if_true])
      split
      · rename_i i hi
        (try simp only [hi])
        split
        · rename_i e hk
          (try simp only [hk])
          split
          · rename_i ie hie
            (try simp only [hie])
            split
            · rename_i hz
              (try simp only [hz, and_self, if_true])
              split
              · rename_i h1 h2
                (try simp only [h1, h2])
                split
                · rename_i hb2
                  (try simp only [hb2, if_true, bite_obind])
                · rename_i hb2
                  (try simp only [hb2])
                  rfl
              · rename_i h1 h2
                (try simp only [h1, h2, bite_obind])
              · rename_i h1 h2
                split
                · exact absurd ‹_› (h1 _ _ _ _ ‹_›)
                · exact absurd ‹_› (h2 _ ‹_›)
                · rfl
            · rename_i hz
              (try simp only [hz, if_false])
              rfl
          · rename_i hie
            (try simp only [hie])
            rfl
        · rename_i hk
          split
          · rename_i e he
            exact absurd he (hk e)
          · rfl
      · rename_i hi
        (try simp only [hi])
        rfl
    · rename_i hb
      (try simp only [hb])
      rfl
  · rename_i hne
    split
    · rename_i t t' e2
      exact absurd e2 (hne u y t t' rfl)
    · rfl
theorem vapp_form {c : Call} {a b s v : VV} (h : vapp C c a b = some (s, v)) : plain a = true ∧ (∃ xs, s = .sl xs) ∧ ∃ e z xs, v = .ow e z xs := by
  unfold vapp at h
  repeat' split at h
  all_goals first
    | (cases h; done)
    | skip
  · rcases bite_some h with ⟨_, h⟩ | ⟨_, h⟩
    · cases h; exact ⟨rfl, ⟨_, rfl⟩, _, _, _, rfl⟩
    · cases h
  · rcases bite_some h with ⟨_, h⟩ | ⟨_, h⟩
    · cases h; exact ⟨rfl, ⟨_, rfl⟩, _, _, _, rfl⟩
    · cases h
theorem own_step (hti : TIok P C.ti) (gws : ∀ w w', GW w → Below NG w w' → GW w') (hC : CallOk P NG GW C.call) (hq : ownMove ops o = true) {i : Nat} (hi : ops[i]? = some o) {rest : List Oper} (h : vops C ops (some al) (o :: rest) env K = some r) :
    ∃ v sv, vops C ops (some al) rest (put o.dst v (put2 sv env)) K = some r ∧ QStep P NG GW io w0 pd0 Q ops al i o env v sv := by
  unfold ownMove at hq
  split at hq
  case h_2 => cases hq
  rename_i t d hsd hg hd
  have hne : t ≠ d := fun e => by subst e; simp at hq
  have hop : (o.op = .move (.tmp t) ∧ fd ops o.dst = true) ∨ ∃ c y, o.op = .call c ∧ c.callee = .builtin .append ∧ c.args.toList = [.tmp t, y] := by
    have hsd' := hsd
    unfold sdOf at hsd'
    split at hsd'
    · rename_i t' hop
      split at hsd'
      · rename_i hf; cases hsd'; exact .inl ⟨hop, hf⟩
      · cases hsd'
    · rename_i c hop
      split at hsd'
      · rename_i u y hc ha; cases hsd'; exact .inr ⟨c, _, hop, hc, ha⟩
      · cases hsd'
    · cases hsd'
  rw [vops, hg] at h
  have fin : ∀ (v : VV) (sv : Option (Nat × VV)), vops C ops (some al) rest (put o.dst v (put2 sv env)) K = some r → (plain (get env d) = true ∧ plain v = true ∧ al.all (fun t => !(refersD t v)) = true) → (∀ t s, sv = some (t, s) → sdOf ops o = some t ∧ plain (get env t) = true ∧ ∃ xs, s = .sl xs) → (∀ (env' : Env), Agree ops al o env env' → ∀ {R' : Type} (K' : Env → Option R'), vop C ops (some al) o env' K' = K' (put o.dst v (put2 sv env'))) →
      ∃ v sv, vops C ops (some al) rest (put o.dst v (put2 sv env)) K = some r ∧ QStep P NG GW io w0 pd0 Q ops al i o env v sv := by
    intro v sv h1 h2 h3 h4
    refine ⟨v, sv, h1, fun d' hd' => ?_, fun u hu _ => ?_, fun cs e => ?_, fun e z xs he => ?_, h3, fun env' G a w hA hs Nk hNk => ?_⟩
    · rw [hd] at hd'; cases hd'; exact h2.1
    · have := h2.2.2
      rw [List.all_eq_true] at this
      simpa using this u hu
    · have := h2.2.1
      rw [e] at this; cases this
    · have := h2.2.1
      rw [he] at this; cases this
    · unfold wpOp
      rw [show ops.toArray[i]? = some o by simpa using hi]
      simp only
      rw [if_pos (by simp [Region.wanted, hg])]
      refine .inl (vop_sound (r := put o.dst v (put2 sv env')) (K := some) hti gws hC hs (fun G' e' a' w' hs' he => ?_) (ops := ops) (dr := some al) ?_)
      · cases he; exact hNk G' a' w' hs'
      · exact h4 env' hA (R' := Env) some
  have go : ∀ (env' : Env) (s v : VV) {R' : Type} (K' : Env → Option R'), plain (get env' d) = true → plain v = true ∧ al.all (fun t => !(refersD t v)) = true → vput (some al) (some d) v (env'.set t s) K' = K' (put (some d) v (env'.set t s)) := fun env' s v R' K' h1 h2 => vput_go (fun d' hd' => by cases hd'; rw [get_set_ne hne]; exact h1) (fun d' _ => h2)
  rcases hop with ⟨hop, hfd⟩ | ⟨c, y, hop, hc, ha⟩
  · rw [hd] at hfd
    have hlook : t ∈ o.looksAt ops.toArray := look_op (by rw [hop]; simp [Op.operands])
    have red : ∀ (env' : Env) {R' : Type} (K' : Env → Option R'), vop C ops (some al) o env' K' = vmove (some al) true (some d) (.tmp t) env' K' := fun env' R' K' => by simp only [vop, hop, hd, hfd]
    rw [red] at h
    cases hgt : get env t with
    | ow e z xs =>
      simp only [vmove, hgt, vset_eq] at h
      have hok := vput_ok ⟨r, h⟩ d rfl
      rw [get_set_ne hne] at hok
      refine fin (.ow e z xs) (some (t, .sl xs)) (by rw [hd]; exact vput_some h) hok (fun t' s' he => ?_) fun env' hA R' K' => ?_
      · cases he; exact ⟨hsd, by rw [hgt]; rfl, xs, rfl⟩
      · have h5 : get env' t = .ow e z xs := (hA.see t hlook).trans hgt
        rw [red]
        simp only [vmove, h5, vset_eq]
        rw [hd]
        exact go env' _ _ K' (hA.dst d hd) hok.2
    | nl =>
      simp only [vmove, hgt] at h
      have hok := vput_ok ⟨r, h⟩ d rfl
      refine fin .nl none (by rw [hd]; exact vput_some h) hok (fun t' s' he => by cases he) fun env' hA R' K' => ?_
      have h5 : get env' t = .nl := (hA.see t hlook).trans hgt
      rw [red]
      simp only [vmove, h5]
      rw [hd]
      exact vput_go (fun d' hd' => by cases hd'; exact hA.dst d hd) (fun d' _ => hok.2)
    | _ =>
      simp only [vmove, hgt] at h
      have hok := vput_ok ⟨r, h⟩ d rfl
      refine fin (rdv env (.tmp t)) none (by rw [hd]; exact vput_some h) hok (fun t' s' he => by cases he) fun env' hA R' K' => ?_
      have h5 := (hA.see t hlook).trans hgt
      have h6 : rdv env' (.tmp t) = rdv env (.tmp t) := by simp only [rdv, h5, hgt]
      rw [red]
      simp only [vmove, h5]
      rw [hd, h6]
      exact vput_go (fun d' hd' => by cases hd'; exact hA.dst d hd) (fun d' _ => hok.2)
  · have hlook : t ∈ o.looksAt ops.toArray := look_op (by rw [hop]; exact app_mem hc ha (by simp))
    have hy : ∀ env', Agree ops al o env env' → rdv env' y = rdv env y := fun env' hA => hA.rd y (by rw [hop]; exact app_mem hc ha (by simp))
    rw [vop_app hop hc ha] at h
    cases hv : vapp C c (get env t) (rdv env y) with
    | none => rw [hv] at h; cases h
    | some p =>
      obtain ⟨s, v⟩ := p
      obtain ⟨f1, ⟨ys, rfl⟩, e, z, xs, rfl⟩ := vapp_form hv
      rw [hv] at h
      have h' : vset t (.sl ys) env (fun env' => vput (some al) o.dst (.ow e z xs) env' fun env' => vops C ops (some al) rest env' K) = some r := h
      rw [vset_eq, hd] at h'
      have hok := vput_ok ⟨r, h'⟩ d rfl
      rw [get_set_ne hne] at hok
      refine fin (.ow e z xs) (some (t, .sl ys)) (by rw [hd]; exact vput_some h') hok (fun t' s' he => ?_) fun env' hA R' K' => ?_
      · cases he; exact ⟨hsd, f1, ys, rfl⟩
      · rw [vop_app hop hc ha, hA.see t hlook, hy env' hA, hv]
        show vset t (.sl ys) env' (fun env' => vput (some al) o.dst (.ow e z xs) env' K') = _
        rw [vset_eq, hd]
        exact go env' _ _ K' (hA.dst d hd) hok.2
end
section
variable {D : Nat → Option Nat} {vals : Nat → VV} {env0 env : Env} {n : Nat}
def chainE (D : Nat → Option Nat) (vals : Nat → VV) (env0 : Env) : Nat → Env
  | 0 => env0
  | k + 1 => put (D k) (vals k) (chainE D vals env0 k)
theorem chainE_congr {D' : Nat → Option Nat} {vals' : Nat → VV} : ∀ k, (∀ j, j < k → vals j = vals' j) → (∀ j, j < k → D j = D' j) → chainE D vals env0 k = chainE D' vals' env0 k
  | 0, _, _ => rfl
  | k + 1, h, g => by rw [chainE, chainE, chainE_congr k (fun j hj => h j (by omega)) (fun j hj => g j (by omega)), h k (by omega), g k (by omega)]
structure QS (D : Nat → Option Nat) (vals : Nat → VV) (env0 : Env) (n : Nat) (S : Nat → Prop) (env : Env) : Prop where
  len : env.length = env0.length
  hit : ∀ (k : Nat) d, k < n → D k = some d → S k → d < env0.length → (∀ j, k < j → j < n → D j = some d → ¬ S j) → get env d = vals k
  miss : ∀ t, (∀ (k : Nat), k < n → D k = some t → ¬ S k) → get env t = get env0 t
theorem get_put {dst : Option Nat} {v : VV} {t : Nat} : get (put dst v env) t = if dst = some t ∧ t < env.length then v else get env t := by
  cases dst with
  | none => simp [put]
  | some d =>
    simp only [put, get]
    rw [nth_set]
    by_cases h : d = t
    · subst h; simp
    · simp [h]
theorem put_len {dst : Option Nat} {v : VV} : (put dst v env).length = env.length := by cases dst <;> simp [put]
theorem QS.step {S : Nat → Prop} (h : QS D vals env0 n S env) {k : Nat} (hk : k < n) (hS : ¬ S k) (hlast : ∀ (j : Nat) d, k < j → j < n → D j = some d → D k = some d → ¬ S j) : QS D vals env0 n (fun j => S j ∨ j = k) (put (D k) (vals k) env) := by
  refine ⟨put_len.trans h.len, ?_, ?_⟩
  · intro j d hj hd hSj hlt hmax
    rw [get_put]
    by_cases e : j = k
    · subst e
      rw [if_pos ⟨hd, by rw [h.len]; exact hlt⟩]
    · have hSj' := hSj.resolve_right e
      rw [if_neg (fun h2 => by
        rcases Nat.lt_or_gt_of_ne e with h3 | h3
        · exact hmax k h3 hk h2.1 (.inr rfl)
        · exact hlast j d h3 hj hd h2.1 hSj')]
      exact h.hit j d hj hd hSj' hlt fun j' h1 h2 h3 h4 => hmax j' h1 h2 h3 (.inl h4)
  · intro t ht
    rw [get_put, if_neg (fun h2 => ht k hk h2.1 (.inr rfl))]
    exact h.miss t fun j hj hd hs => ht j hj hd (.inl hs)
theorem QS.congr {S S' : Nat → Prop} (h : QS D vals env0 n S env) (e : ∀ k, k < n → (S k ↔ S' k)) : QS D vals env0 n S' env :=
  ⟨h.len, fun k d hk hd hs hlt hm => h.hit k d hk hd ((e k hk).2 hs) hlt fun j h1 h2 h3 h4 => hm j h1 h2 h3 ((e j h2).1 h4), fun t ht => h.miss t fun k hk hd hs => ht k hk hd ((e k hk).1 hs)⟩
theorem QS.chain : ∀ k, k ≤ n → QS D vals env0 n (fun j => j < k) (chainE D vals env0 k)
  | 0, _ => ⟨rfl, fun _ _ _ _ h => absurd h (Nat.not_lt_zero _), fun _ _ => rfl⟩
  | k + 1, hk => by
    have := (QS.chain k (by omega)).step (k := k) (by omega) (by omega) (fun j d hj _ _ _ h => by omega)
    rw [chainE]
    exact this.congr fun j _ => by omega
open Classical in
theorem exists_max {p : Nat → Prop} : ∀ n, (∃ k, k < n ∧ p k) → ∃ k, k < n ∧ p k ∧ ∀ j, k < j → j < n → ¬ p j
  | 0, h => by obtain ⟨k, h1, _⟩ := h; omega
  | n + 1, h => by
    by_cases hp : p n
    · exact ⟨n, by omega, hp, fun j h1 h2 => by omega⟩
    · obtain ⟨k, h1, h2⟩ := h
      obtain ⟨k', h3, h4, h5⟩ := exists_max n ⟨k, by
        rcases Nat.lt_or_ge k n with h | h
        · exact h
        · exact absurd (by rw [show n = k by omega]; exact h2) hp, h2⟩
      exact ⟨k', by omega, h4, fun j h6 h7 => by
        rcases Nat.lt_or_ge j n with h | h
        · exact h5 j h6 h
        · rw [show j = n by omega]; exact hp⟩
open Classical in
theorem exists_min {p : Nat → Prop} {k : Nat} (h : p k) : ∃ k', k' ≤ k ∧ p k' ∧ ∀ j, j < k' → ¬ p j := by
  induction k using Nat.strongRecOn with
  | _ k ih =>
    by_cases hx : ∃ j, j < k ∧ p j
    · obtain ⟨j, h1, h2⟩ := hx
      obtain ⟨k', h3, h4, h5⟩ := ih j h1 h2
      exact ⟨k', by omega, h4, h5⟩
    · exact ⟨k, Nat.le_refl _, h, fun j h1 h2 => hx ⟨j, h1, h2⟩⟩
theorem env_ext : ∀ {e e' : Env}, e.length = e'.length → (∀ t, t < e.length → get e t = get e' t) → e = e'
  | [], [], _, _ => rfl
  | a :: r, b :: s, hl, h => by
    have h0 := h 0 (by simp)
    have := env_ext (e := r) (e' := s) (by simpa using hl) fun t ht => h (t + 1) (by simp; omega)
    simp [get, nth] at h0
    rw [h0, this]
  | [], _ :: _, hl, _ => by simp at hl
  | _ :: _, [], hl, _ => by simp at hl
open Classical in
theorem QS.uniq {S : Nat → Prop} {env' : Env} (h : QS D vals env0 n S env) (h' : QS D vals env0 n S env') : env = env' := by
  refine env_ext (h.len.trans h'.len.symm) fun t ht => ?_
  by_cases hx : ∃ k, k < n ∧ (D k = some t ∧ S k)
  · obtain ⟨k, h1, ⟨h3, h4⟩, h5⟩ := exists_max n hx
    rw [h.len] at ht
    have h6 : ∀ j, k < j → j < n → D j = some t → ¬ S j := fun j a b c d => h5 j a b ⟨c, d⟩
    rw [h.hit k t h1 h3 h4 ht h6, h'.hit k t h1 h3 h4 ht h6]
  · have hm : ∀ (k : Nat), k < n → D k = some t → ¬ S k := fun k h1 h3 h4 => hx ⟨k, h1, h3, h4⟩
    rw [h.miss t hm, h'.miss t hm]
end
section
variable {P : Program} {NG : Nat} {GW : World → Prop} {io : List Nat} {w0 : World} {pd0 : Nat → Nat → Prop} {C : Cx} {R : Type} {K : Env → Option R} {r : R} {Q : Exit → Act → World → Prop} {l : List Oper} {env0 : Env} {al : List Nat}
def Wr (l : List Oper) (o : Oper) (d : Nat) : Prop := o.dst = some d ∨ sdOf l o = some d
theorem wl_mem {o : Oper} {d : Nat} : d ∈ wl l o ↔ Wr l o d := by
  unfold wl Wr
  cases o.dst <;> cases sdOf l o <;> simp [eq_comm]
theorem wrIn_false {o : Oper} {ts : List Nat} (h : wrIn l o ts = false) {d : Nat} (hd : Wr l o d) : d ∉ ts := by
  unfold wrIn at h
  intro hm
  have := List.any_eq_false.1 h d (wl_mem.2 hd)
  simp only [Bool.not_eq_true, List.any_eq_false] at this
  have h2 := this d hm
  simp at h2
structure Ord (C : Cx) (l : List Oper) (n : Nat) : Prop where
  edge : ∀ (j : Nat) y, l[j]? = some y → ∀ e ∈ y.after.toList, Region.binds .any e = true → e.on < j
  quiet : ∀ (j : Nat) y, j < n → l[j]? = some y → quietB C l y = true ∨ ownMove l y = true
  dist : ∀ (i j : Nat) p o d, i < j → j < n → l[i]? = some p → l[j]? = some o → Wr l p d → Wr l o d → ((befores l []).getD j 0).testBit i = true
  apart : ∀ (i j : Nat) x y, i < j → j < n → l[i]? = some x → l[j]? = some y → ((befores l []).getD j 0).testBit i = false → (∀ d, Wr l x d → d ∉ y.looksAt l.toArray) ∧ (∀ d, Wr l y d → d ∉ x.looksAt l.toArray)
  solid : ∀ (i j : Nat), n ≤ j → j < l.length → i < j → ((befores l []).getD j 0).testBit i = true
  le : n ≤ l.length
theorem own_ne {o : Oper} (h : ownMove l o = true) {d : Nat} (h1 : o.dst = some d) : sdOf l o ≠ some d := by
  intro h2
  unfold ownMove at h
  rw [h1, h2] at h
  split at h
  · rename_i t d' e1 e2 e3
    cases e1; cases e3
    simp at h
  · cases h
theorem anyOrder_ord (h : anyOrder C l = true) : ∃ n, Ord C l n := by
  unfold anyOrder at h
  simp only [List.all_eq_true, List.mem_range] at h
  obtain ⟨hn1, hn2⟩ := quietN_spec (befores l []) l.length
  refine ⟨quietN (befores l []) l.length, ?_⟩
  have hj : ∀ (j : Nat) y, l[j]? = some y → (∀ e ∈ y.after.toList, Region.binds .any e = true → e.on < j) ∧ (quietN (befores l []) l.length ≤ j ∨ ((quietB C l y = true ∨ ownMove l y = true) ∧ ∀ i, i < j → ∀ x, l[i]? = some x → (((befores l []).getD j 0).testBit i = true ∨ (wrIn l x (wl l y) = false ∧ (wrIn l x (y.looksAt l.toArray) = false ∧ wrIn l y (x.looksAt l.toArray) = false))))) := by
    intro j y hy
    have := h j (List.getElem?_eq_some_iff.1 hy).1
    rw [hy] at this
    simp only [Bool.and_eq_true, List.all_eq_true, Bool.or_eq_true] at this
    refine ⟨fun e he hb => ?_, ?_⟩
    · rcases this.1 e he with h1 | h1
      · rw [hb] at h1; cases h1
      · simpa [Nat.blt_eq] using h1
    · rcases this.2 with h1 | ⟨h1, h2⟩
      · exact .inl (by simpa using h1)
      · refine .inr ⟨h1, fun i hi x hx => ?_⟩
        have h3 := h2 i (by simpa using hi)
        rw [hx] at h3
        simp only [Bool.and_eq_true, Bool.or_eq_true, Bool.not_eq_true'] at h3
        exact h3
  refine ⟨fun j y hy => (hj j y hy).1, ?_, ?_, ?_, ?_, hn1⟩
  · intro j y hlt hy
    rcases (hj j y hy).2 with h1 | h1
    · omega
    · exact h1.1
  · intro i j p o d hij hjn hp ho hd hd'
    rcases (hj j o ho).2 with h1 | h1
    · omega
    · rcases h1.2 i hij p hp with h2 | h2
      · exact h2
      · exact absurd (wl_mem.2 hd') (wrIn_false h2.1 hd)
  · intro i j x y hij hjn hx hy hb
    rcases (hj j y hy).2 with h1 | h1
    · omega
    · rcases h1.2 i hij x hx with h2 | h2
      · rw [hb] at h2; cases h2
      · exact ⟨fun d hd => wrIn_false h2.2.1 hd, fun d hd => wrIn_false h2.2.2 hd⟩
  · intro i j hnj hjl hij
    rw [hn2 j hnj hjl, Nat.testBit_two_pow_sub_one]
    simpa using hij
def DD (l : List Oper) (sv : Nat → Option (Nat × VV)) (j : Nat) : Option Nat := match j % 2 with
  | 0 => (sv (j / 2)).map Prod.fst
  | _ => (l[j / 2]?).bind (·.dst)
def VD (vals : Nat → VV) (sv : Nat → Option (Nat × VV)) (j : Nat) : VV := match j % 2 with
  | 0 => ((sv (j / 2)).map Prod.snd).getD .un
  | _ => vals (j / 2)
theorem DD_even {sv : Nat → Option (Nat × VV)} {k : Nat} : DD l sv (2 * k) = (sv k).map Prod.fst := by
  unfold DD
  rw [show 2 * k % 2 = 0 by omega, show 2 * k / 2 = k by omega]
  rfl
theorem DD_odd {sv : Nat → Option (Nat × VV)} {k : Nat} : DD l sv (2 * k + 1) = (l[k]?).bind (·.dst) := by
  unfold DD
  rw [show (2 * k + 1) % 2 = 1 by omega, show (2 * k + 1) / 2 = k by omega]
  rfl
theorem VD_even {vals : Nat → VV} {sv : Nat → Option (Nat × VV)} {k : Nat} : VD vals sv (2 * k) = ((sv k).map Prod.snd).getD .un := by
  unfold VD
  rw [show 2 * k % 2 = 0 by omega, show 2 * k / 2 = k by omega]
  rfl
theorem VD_odd {vals : Nat → VV} {sv : Nat → Option (Nat × VV)} {k : Nat} : VD vals sv (2 * k + 1) = vals k := by
  unfold VD
  rw [show (2 * k + 1) % 2 = 1 by omega, show (2 * k + 1) / 2 = k by omega]
  rfl
theorem put_put2 {sv : Option (Nat × VV)} {env : Env} : put (sv.map Prod.fst) ((sv.map Prod.snd).getD .un) env = put2 sv env := by
  cases sv <;> rfl
def chO (l : List Oper) (vals : Nat → VV) (sv : Nat → Option (Nat × VV)) (env0 : Env) (k : Nat) : Env := chainE (DD l sv) (VD vals sv) env0 (2 * k)
theorem chO_succ {vals : Nat → VV} {sv : Nat → Option (Nat × VV)} {k : Nat} {o : Oper} (ho : l[k]? = some o) : chO l vals sv env0 (k + 1) = put o.dst (vals k) (put2 (sv k) (chO l vals sv env0 k)) := by
  unfold chO
  rw [show 2 * (k + 1) = 2 * k + 1 + 1 by omega, chainE, chainE, DD_odd, VD_odd, DD_even, VD_even, put_put2, ho]
  rfl
theorem chO_congr {vals vals' : Nat → VV} {sv sv' : Nat → Option (Nat × VV)} {k : Nat} (h : ∀ j, j < k → vals j = vals' j) (g : ∀ j, j < k → sv j = sv' j) : chO l vals sv env0 k = chO l vals' sv' env0 k := by
  unfold chO
  refine chainE_congr _ (fun j hj => ?_) (fun j hj => ?_)
  · unfold VD
    rw [h (j / 2) (by omega), g (j / 2) (by omega)]
  · unfold DD
    rw [g (j / 2) (by omega)]
theorem canon (hti : TIok P C.ti) (gws : ∀ w w', GW w → Below NG w w' → GW w') (hC : CallOk P NG GW C.call) {n : Nat} (hO : Ord C l n) (hal : ∀ (k : Nat) o t d, l[k]? = some o → o.op = .alloc t → o.dst = some d → d ∈ al) (h : vops C l (some al) l env0 K = some r) :
    ∀ m, m ≤ n → ∃ (vals : Nat → VV) (sv : Nat → Option (Nat × VV)), vops C l (some al) (l.drop m) (chO l vals sv env0 m) K = some r ∧ (∀ k, m ≤ k → sv k = none) ∧ ∀ (k : Nat) o, k < m → l[k]? = some o → QStep P NG GW io w0 pd0 Q l al k o (chO l vals sv env0 k) (vals k) (sv k)
  | 0, _ => ⟨fun _ => .un, fun _ => none, h, fun _ _ => rfl, fun k o hk => absurd hk (Nat.not_lt_zero _)⟩
  | m + 1, hm => by
    obtain ⟨vals, sv, h1, h0, h2⟩ := canon hti gws hC hO hal h m (by omega)
    have hl := hO.le
    have ho : l[m]? = some (l[m]'(by omega)) := List.getElem?_eq_getElem (by omega)
    rw [List.drop_eq_getElem_cons (by omega)] at h1
    obtain ⟨v, s, h3, h4⟩ : ∃ v s, vops C l (some al) (l.drop (m + 1)) (put (l[m]'(by omega)).dst v (put2 s (chO l vals sv env0 m))) K = some r ∧ QStep P NG GW io w0 pd0 Q l al m (l[m]'(by omega)) (chO l vals sv env0 m) v s := by
      rcases hO.quiet m _ (by omega) ho with hq | hq
      · exact quiet_step (io := io) (w0 := w0) (pd0 := pd0) (Q := Q) hti gws hC hq (fun d t h5 h6 => hal m _ t d ho h5 h6) ho h1
      · exact own_step (io := io) (w0 := w0) (pd0 := pd0) (Q := Q) hti gws hC hq ho h1
    let vals' : Nat → VV := fun k => if k = m then v else vals k
    let sv' : Nat → Option (Nat × VV) := fun k => if k = m then s else sv k
    have hc : ∀ k, k ≤ m → chO l vals sv env0 k = chO l vals' sv' env0 k := fun k hk => chO_congr (fun j hj => by simp only [vals']; rw [if_neg (by omega)]) (fun j hj => by simp only [sv']; rw [if_neg (by omega)])
    refine ⟨vals', sv', ?_, fun k hk => ?_, fun k o hk hok => ?_⟩
    · rw [chO_succ ho, ← hc m (Nat.le_refl _)]
      simp only [vals', sv', if_pos]
      exact h3
    · simp only [sv']
      rw [if_neg (by omega)]
      exact h0 k (by omega)
    · by_cases e : k = m
      · subst e
        rw [ho] at hok; cases hok
        rw [← hc k (Nat.le_refl _)]
        simp only [vals', sv', if_pos]
        exact h4
      · rw [← hc k (by omega)]
        simp only [vals', sv', if_neg e]
        exact h2 k o (by omega) hok
end
def unl : List Bool → Nat
  | [] => 0
  | true :: r => unl r
  | false :: r => unl r + 1
theorem unl_set : ∀ (l : List Bool) (i : Nat), l[i]? = some false → unl (l.set i true) + 1 = unl l
  | [], i, h => by simp at h
  | true :: r, 0, h => by simp at h
  | false :: r, 0, h => rfl
  | true :: r, i + 1, h => by rw [List.set_cons_succ]; simp only [unl]; exact unl_set r i (by simpa using h)
  | false :: r, i + 1, h => by rw [List.set_cons_succ]; simp only [unl]; rw [unl_set r i (by simpa using h)]
theorem unl_zero : ∀ (l : List Bool), unl l = 0 → ∀ i : Nat, l[i]? ≠ some false
  | [], h, i => by simp
  | true :: r, h, 0 => by simp
  | false :: r, h, i => by simp [unl] at h
  | true :: r, h, i + 1 => by rw [List.getElem?_cons_succ]; exact unl_zero r (by simpa only [unl] using h) i
theorem unl_rep : ∀ n, unl (List.replicate n false) = n
  | 0 => rfl
  | n + 1 => by rw [List.replicate_succ, unl, unl_rep n]
theorem nat_eq {a b : Nat} (h : ¬ a < b) (k : ¬ b < a) : a = b := by omega
theorem listed_set {L : Array Bool} {i j : Nat} (hi : i < L.size) : (L.setIfInBounds i true).getD j false = true ↔ L.getD j false = true ∨ j = i := by
  simp only [Array.getD_eq_getD_getElem?, Array.getElem?_setIfInBounds]
  by_cases h : i = j
  · subst h; simp [hi]
  · rw [if_neg h]
    have : j ≠ i := fun e => h e.symm
    simp [this]
section
variable {P : Program} {NG : Nat} {GW : World → Prop} {io : List Nat} {w0 : World} {pd0 : Nat → Nat → Prop} {C : Cx} {R : Type} {K : Env → Option R} {r : R} {Q : Exit → Act → World → Prop} {env0 : Env} {ops : Array Oper} {n : Nat} {vals : Nat → VV} {sv : Nat → Option (Nat × VV)}
open Classical in
theorem QS.at {D : Nat → Option Nat} {S S' : Nat → Prop} {e e' : Env} (h : QS D vals env0 n S e) (h' : QS D vals env0 n S' e') {t : Nat} (hs : ∀ (k : Nat), k < n → D k = some t → (S k ↔ S' k)) : get e t = get e' t := by
  by_cases ht : t < env0.length
  · by_cases hx : ∃ (k : Nat), k < n ∧ (D k = some t ∧ S k)
    · obtain ⟨k, h1, ⟨h3, h4⟩, h5⟩ := exists_max n hx
      rw [h.hit k t h1 h3 h4 ht fun j a b c d => h5 j a b ⟨c, d⟩, h'.hit k t h1 h3 ((hs k h1 h3).1 h4) ht fun j a b c d => h5 j a b ⟨c, (hs j b c).2 d⟩]
    · have hm : ∀ (k : Nat), k < n → D k = some t → ¬ S k := fun k h1 h3 h4 => hx ⟨k, h1, h3, h4⟩
      rw [h.miss t hm, h'.miss t fun k h1 h3 h4 => hm k h1 h3 ((hs k h1 h3).2 h4)]
  · have hn : ∀ {e : Env}, e.length = env0.length → get e t = .un := fun he => nth_none (List.getElem?_eq_none (by omega))
    rw [hn h.len, hn h'.len]
theorem vops_step {dr : Option (List Nat)} (hti : TIok P C.ti) (gws : ∀ w w', GW w → Below NG w w' → GW w') (hC : CallOk P NG GW C.call) {G : Gh} {env : Env} {a : Act} {w : World} {i : Nat} {o : Oper} {rest : List Oper} {Nk : Act → World → Prop} (hi : ops[i]? = some o) (hs : Sim NG GW io w0 pd0 G env a w) (h : vops C ops.toList dr (o :: rest) env K = some r) (hN : ∀ G' env' a' w', Sim NG GW io w0 pd0 G' env' a' w' → vops C ops.toList dr rest env' K = some r → Nk a' w') : wpOp P ops Q i Nk a w := by
  have hnext : Nx NG GW io w0 pd0 (fun env' => vops C ops.toList dr rest env' K) r Nk := fun G' env' a' w' hs' h' => hN G' env' a' w' hs' h'
  unfold wpOp
  rw [hi]
  simp only
  rw [vops] at h
  split at h
  · rename_i hg
    have hw : Region.wanted o (yielded ops a.tmps) = true := by simp [Region.wanted, hg]
    rw [if_pos hw]
    exact .inl (vop_sound hti gws hC hs hnext h)
  · rename_i j want hg
    have hskip : ∀ (h2 : vput dr o.dst (.s undef) env (fun env' => vops C ops.toList dr rest env' K) = some r), Nk (a.put o.dst undef) w := fun h2 => hnext _ _ _ _ (hs.put o.dst fun d _ => VR.slot (VR.of_dr (.s _)) d) (vput_some h2)
    split at h
    · rename_i b hb
      have hy := seen_ok hs hb
      rcases bite_some h with ⟨hbw, h⟩ | ⟨hbw, h⟩
      · have hw : Region.wanted o (yielded ops a.tmps) = true := by simp only [Region.wanted, hg, hy]; simpa using hbw
        rw [if_pos hw]
        exact .inl (vop_sound hti gws hC hs hnext h)
      · have hw : ¬ Region.wanted o (yielded ops a.tmps) = true := by simp only [Region.wanted, hg, hy]; simpa using hbw
        rw [if_neg hw]
        exact hskip h
    · rename_i hb
      have hy := seen_ok hs hb
      have hw : ¬ Region.wanted o (yielded ops a.tmps) = true := by simp [Region.wanted, hg, hy]
      rw [if_neg hw]
      exact hskip h
    · cases h
inductive AnySt (C : Cx) (ops : Array Oper) (K : Env → Option R) (r : R) (vals : Nat → VV) (sv : Nat → Option (Nat × VV)) (env0 : Env) (n : Nat) (L : Array Bool) (env : Env) : Prop where
  | quiet (h0 : ∀ j, n ≤ j → L.getD j false = false) (h1 : Down ops.toList L) (h2 : QS (DD ops.toList sv) (VD vals sv) env0 (2 * n) (fun j => L.getD (j / 2) false = true) env)
  | last (j : Nat) (h0 : ∀ i, L.getD i false = true ↔ i < j) (hn : n ≤ j) (hj : j ≤ ops.size) (h1 : vops C ops.toList (some (allocs ops.toList)) (ops.toList.drop j) env K = some r)
theorem any_ok (hti : TIok P C.ti) (gws : ∀ w w', GW w → Below NG w w' → GW w') (hC : CallOk P NG GW C.call) (hO : Ord C ops.toList n)
    (hal0 : (allocs ops.toList).any (fun d => env0.any (refersD d)) = false)
    (hch : vops C ops.toList (some (allocs ops.toList)) (ops.toList.drop n) (chO ops.toList vals sv env0 n) K = some r)
    (hq : ∀ (k : Nat) o, k < n → ops.toList[k]? = some o → QStep P NG GW io w0 pd0 Q ops.toList (allocs ops.toList) k o (chO ops.toList vals sv env0 k) (vals k) (sv k)) (hsv : ∀ k, n ≤ k → sv k = none)
    (hn : Nx NG GW io w0 pd0 K r (Q .normal)) :
    ∀ (fuel : Nat) (L : Array Bool) (G : Gh) (env : Env) (a : Act) (w : World), L.size = ops.size → unl L.toList ≤ fuel → AnySt C ops K r vals sv env0 n L env → Sim NG GW io w0 pd0 G env a w → wpAny P .any ops Q fuel L a w := by
  have wr : ∀ (j : Nat) t, DD ops.toList sv j = some t → j < 2 * n → ∃ o, ops.toList[j / 2]? = some o ∧ Wr ops.toList o t ∧ (j % 2 = 0 → sdOf ops.toList o = some t ∧ plain (get (chO ops.toList vals sv env0 (j / 2)) t) = true ∧ ∃ xs, VD vals sv j = .sl xs) ∧ (j % 2 = 1 → o.dst = some t) := by
    intro j t hj hjn
    have hlt : j / 2 < ops.toList.length := by have := hO.le; omega
    have ho : ops.toList[j / 2]? = some (ops.toList[j / 2]'hlt) := List.getElem?_eq_getElem hlt
    refine ⟨_, ho, ?_⟩
    rcases Nat.mod_two_eq_zero_or_one j with h2 | h2
    · have e : j = 2 * (j / 2) := by omega
      rw [e, DD_even] at hj
      cases hs : sv (j / 2) with
      | none => rw [hs] at hj; cases hj
      | some p =>
        rw [hs] at hj
        obtain ⟨t', s'⟩ := p
        cases hj
        obtain ⟨h3, h4, xs, h5⟩ := (hq (j / 2) _ (by omega) ho).2.2.2.2.1 _ s' hs
        refine ⟨.inr h3, fun _ => ⟨h3, h4, xs, ?_⟩, fun h => by omega⟩
        rw [e, VD_even, hs]
        exact h5
    · have e : j = 2 * (j / 2) + 1 := by omega
      rw [e, DD_odd, ho] at hj
      exact ⟨.inl hj, fun h => by omega, fun _ => hj⟩
  have full : ∀ (L : Array Bool) (G : Gh) (env : Env) (a : Act) (w : World), (∀ i, i < ops.size → L.getD i false = true) → AnySt C ops K r vals sv env0 n L env → Sim NG GW io w0 pd0 G env a w → Q .normal a w := by
    intro L G env a w hf hst hs
    have hl := hO.le
    cases hst with
    | quiet h0 h1 h2 =>
      have hnn : ops.size ≤ n := Nat.le_of_not_lt fun hlt => by have := hf n hlt; rw [h0 n (Nat.le_refl _)] at this; cases this
      have he : env = chO ops.toList vals sv env0 n := h2.uniq ((QS.chain (2 * n) (Nat.le_refl _)).congr fun k hk => ⟨fun _ => hf (k / 2) (by simp at hl; omega), fun _ => hk⟩)
      rw [List.drop_eq_nil_of_le (by simpa using hnn), ← he] at hch
      exact hn _ _ _ _ hs hch
    | last j h0 hnj hj h1 =>
      have : ops.size ≤ j := Nat.le_of_not_lt fun hlt => by have := (h0 j).1 (hf j hlt); omega
      rw [List.drop_eq_nil_of_le (by simpa using this)] at h1
      exact hn _ _ _ _ hs h1
  have noready : ∀ (L : Array Bool), L.size = ops.size → Region.ready .any ops L = [] → ∀ i, i < ops.size → L.getD i false = true := by
    intro L hsz hr i
    induction i using Nat.strongRecOn with
    | _ i ih =>
      intro hi
      by_cases hL : L.getD i false = true
      · exact hL
      · exfalso
        have ho : ops.toList[i]? = some (ops.toList[i]'(by simpa using hi)) := List.getElem?_eq_getElem (by simpa using hi)
        have hm : i ∈ Region.ready .any ops.toList.toArray L := ready_iff.2 ⟨_, ho, by
          simp only [Array.getD_eq_getD_getElem?] at hL ⊢
          rw [Array.getElem?_eq_getElem (by omega)] at hL ⊢
          simpa using hL, fun e he hb => by
            have := hO.edge i _ ho e he hb
            exact ih e.on this (by omega)⟩
        rw [Array.toArray_toList] at hm
        rw [hr] at hm; cases hm
  intro fuel
  induction fuel with
  | zero =>
    intro L G env a w hsz hu hst hs
    have hall : ∀ i, i < ops.size → L.getD i false = true := by
      intro i hi
      have := unl_zero L.toList (by omega) i
      rw [Array.getElem?_toList, Array.getElem?_eq_getElem (by omega)] at this
      rw [Array.getD_eq_getD_getElem?, Array.getElem?_eq_getElem (by omega)]
      simpa using this
    refine ⟨?_, full L G env a w hall hst hs⟩
    refine List.eq_nil_iff_forall_not_mem.2 fun i hi => ?_
    rw [← Array.toArray_toList (xs := ops)] at hi
    obtain ⟨o, ho, h1, h2⟩ := ready_iff.1 hi
    have hlt : i < ops.size := by simpa using (List.getElem?_eq_some_iff.1 ho).1
    have := hall i hlt
    rw [Array.getD_eq_getD_getElem?, Array.getElem?_eq_getElem (by omega)] at this h1
    simp at this h1
    rw [this] at h1; cases h1
  | succ fuel ih =>
    intro L G env a w hsz hu hst hs
    refine ⟨fun hr => full L G env a w (noready L hsz hr) hst hs, fun i hi => ?_⟩
    rw [← Array.toArray_toList (xs := ops)] at hi
    obtain ⟨o, ho, hLi, hre⟩ := ready_iff.1 hi
    have hlt : i < ops.size := by simpa using (List.getElem?_eq_some_iff.1 ho).1
    have hLi' : L.getD i false = false := by
      rw [Array.getD_eq_getD_getElem?, Array.getElem?_eq_getElem (by omega)] at hLi ⊢
      simpa using hLi
    have hget : L.toList[i]? = some false := by
      rw [Array.getD_eq_getD_getElem?, Array.getElem?_eq_getElem (by omega)] at hLi
      rw [Array.getElem?_toList, Array.getElem?_eq_getElem (by omega)]
      simpa using hLi
    have hoa : ops[i]? = some o := by rw [← ho]; simp
    have hsz' : (L.setIfInBounds i true).size = ops.size := by simpa using hsz
    have hu' : unl (L.setIfInBounds i true).toList ≤ fuel := by
      have := unl_set L.toList i hget
      rw [Array.toList_setIfInBounds]; omega
    have hset : ∀ j, (L.setIfInBounds i true).getD j false = true ↔ L.getD j false = true ∨ j = i := fun j => listed_set (by omega)
    have seq : ∀ (j : Nat), (∀ i, L.getD i false = true ↔ i < j) → n ≤ j → j ≤ ops.size → (∀ k, k < i → ((befores ops.toList []).getD i 0).testBit k = true) → Down ops.toList L → vops C ops.toList (some (allocs ops.toList)) (ops.toList.drop j) env K = some r → wpOp P ops Q i (wpAny P .any ops Q fuel (L.setIfInBounds i true)) a w := by
      intro j h0 hnj hj hbs hd h1
      have hij : i = j := by
        have h3 : ¬ i < j := fun h => by have := (h0 i).2 h; rw [hLi'] at this; cases this
        have h4 : ¬ j < i := fun h => by
          have := before_listed hd i o ho hre j (hbs j h)
          have := (h0 j).1 this
          omega
        omega
      subst hij
      rw [List.drop_eq_getElem_cons (by simpa using hlt)] at h1
      have hoe : ops.toList[i]'(by simpa using hlt) = o := by
        have := List.getElem?_eq_getElem (l := ops.toList) (i := i) (by simpa using hlt)
        rw [ho] at this; exact (Option.some.inj this).symm
      rw [hoe] at h1
      refine vops_step hti gws hC hoa hs h1 fun G' env' a' w' hs' h' => ih _ G' env' a' w' hsz' hu' (.last (i + 1) (fun k => ?_) (by omega) (by omega) h') hs'
      rw [hset, h0]; omega
    cases hst with
    | quiet h0 hd0 h2 =>
      by_cases hin : i < n
      ·
        have hQ := hq i o hin ho
        have hch2 := QS.chain (vals := VD vals sv) (D := DD ops.toList sv) (n := 2 * n) (env0 := env0) (2 * i) (by omega)
        have later : ∀ (k : Nat) p d, i < k → k < n → ops.toList[k]? = some p → Wr ops.toList p d → Wr ops.toList o d → ¬ L.getD k false = true := fun k p d hik hk hp h1 h3 h => by
          have := before_listed hd0 k p hp (hd0 k p hp h) i (hO.dist i k o p d hik hk ho hp h3 h1)
          rw [hLi'] at this; cases this
        have hag : Agree ops.toList (allocs ops.toList) o (chO ops.toList vals sv env0 i) env := by
          refine ⟨fun t ht => ?_, fun t cs hta hb => ?_, fun d hd' => ?_, fun d hda => ?_⟩
          · refine h2.at hch2 fun j hj hd => ?_
            obtain ⟨p, hp, hpd, _, _⟩ := wr j t hd hj
            rcases Nat.lt_trichotomy (j / 2) i with hki | hki | hki
            · refine ⟨fun _ => by omega, fun _ => ?_⟩
              cases hb : ((befores ops.toList []).getD i 0).testBit (j / 2)
              · exact absurd (by simpa using ht) ((hO.apart (j / 2) i p o hki hin hp ho hb).1 t hpd)
              · exact before_listed hd0 i o ho hre (j / 2) hb
            · rw [hki]
              exact ⟨fun h => absurd h (by rw [hLi']; decide), fun h => by omega⟩
            · refine ⟨fun h => ?_, fun h => by omega⟩
              exfalso
              cases hb : ((befores ops.toList []).getD (j / 2) 0).testBit i
              · exact absurd (by simpa using ht) ((hO.apart i (j / 2) o p hki (by omega) ho hp hb).2 t hpd)
              · have := before_listed hd0 (j / 2) p hp (hd0 (j / 2) p hp h) i hb
                rw [hLi'] at this; cases this
          · by_cases hx : ∃ (j : Nat), j < 2 * n ∧ DD ops.toList sv j = some t
            · have htl : t < env0.length := by
                refine Nat.lt_of_not_le fun hle => ?_
                rw [get, nth_none (List.getElem?_eq_none (by rw [show (chO ops.toList vals sv env0 i).length = env0.length from hch2.len]; exact hle))] at hb
                cases hb
              by_cases hki : ∃ (j : Nat), j < 2 * n ∧ (DD ops.toList sv j = some t ∧ j < 2 * i)
              · obtain ⟨j, hj, ⟨hd, hji⟩, hmax⟩ := exists_max _ hki
                obtain ⟨p, hp, hpd, hev, hod⟩ := wr j t hd hj
                rw [chO, hch2.hit j t hj hd hji htl fun j' a b c d => hmax j' a b ⟨c, d⟩] at hb
                rcases Nat.mod_two_eq_zero_or_one j with h6 | h6
                · obtain ⟨_, _, xs, h7⟩ := hev h6
                  rw [h7] at hb; cases hb
                · have e : j = 2 * (j / 2) + 1 := by omega
                  rw [e, VD_odd] at hb
                  exact absurd ((hq (j / 2) p (by omega) hp).2.2.1 cs hb t (hod h6)) hta
              · obtain ⟨j0, hj0, hd0'⟩ := hx
                obtain ⟨j, hjle, hd, hmin⟩ := exists_min (p := fun j => DD ops.toList sv j = some t) hd0'
                obtain ⟨p, hp, hpd, hev, hod⟩ := wr j t hd (by omega)
                have hge : ¬ j < 2 * i := fun h => hki ⟨j, by omega, hd, h⟩
                have hchk := QS.chain (D := DD ops.toList sv) (n := 2 * n) (vals := VD vals sv) (env0 := env0) (2 * (j / 2)) (by omega)
                have h5 : get (chO ops.toList vals sv env0 i) t = get env0 t := hch2.miss t fun j' hj' hd' h => hki ⟨j', hj', hd', h⟩
                have h6 : get (chO ops.toList vals sv env0 (j / 2)) t = get env0 t := hchk.miss t fun j' hj' hd' h => hmin j' (by omega) hd'
                have h8 : plain (get (chO ops.toList vals sv env0 (j / 2)) t) = true := by
                  rcases Nat.mod_two_eq_zero_or_one j with h7 | h7
                  · exact (hev h7).2.1
                  · exact (hq (j / 2) p (by omega) hp).1 t (hod h7)
                rw [h6, ← h5, hb] at h8
                cases h8
            · have hm : ∀ (j : Nat), j < 2 * n → DD ops.toList sv j ≠ some t := fun j h1 h4 => hx ⟨j, h1, h4⟩
              rw [chO, hch2.miss t fun j h1 h4 => absurd h4 (hm j h1)] at hb
              rw [h2.miss t fun j h1 h4 => absurd h4 (hm j h1)]
              exact hb
          · have := hQ.1 d hd'
            rw [h2.at hch2 (t := d) fun j hj hd => ?_]
            · exact this
            · obtain ⟨p, hp, hpd, _, _⟩ := wr j d hd hj
              rcases Nat.lt_trichotomy (j / 2) i with hki | hki | hki
              · exact ⟨fun _ => by omega, fun _ => before_listed hd0 i o ho hre (j / 2) (hO.dist (j / 2) i p o d hki hin hp ho hpd (.inl hd'))⟩
              · rw [hki]
                exact ⟨fun h => absurd h (by rw [hLi']; decide), fun h => by omega⟩
              · exact ⟨fun h => absurd h (later (j / 2) p d hki (by omega) hp hpd (.inl hd')), fun h => by omega⟩
          · refine List.any_eq_false.2 fun v hv => ?_
            obtain ⟨t, ht, rfl⟩ := List.getElem_of_mem hv
            have hgt : get env t = env[t] := nth_some (List.getElem?_eq_getElem ht)
            rw [← hgt]
            by_cases hx : ∃ (j : Nat), j < 2 * n ∧ (DD ops.toList sv j = some t ∧ L.getD (j / 2) false = true)
            · obtain ⟨j, hj, ⟨hd, hs4⟩, hmax⟩ := exists_max _ hx
              obtain ⟨p, hp, hpd, hev, hod⟩ := wr j t hd hj
              rw [h2.hit j t hj hd hs4 (by rw [← h2.len]; exact ht) fun j' a b c d => hmax j' a b ⟨c, d⟩]
              rcases Nat.mod_two_eq_zero_or_one j with h6 | h6
              · obtain ⟨_, _, xs, h7⟩ := hev h6
                rw [h7]; simp [refersD, refers]
              · have e : j = 2 * (j / 2) + 1 := by omega
                rw [e, VD_odd]
                have := (hq (j / 2) p (by omega) hp).2.1 d hda (by rw [hod h6]; simp)
                rw [this]; simp
            · rw [h2.miss t fun j h1 h3 h5 => hx ⟨j, h1, h3, h5⟩]
              have h7 := List.any_eq_false.1 hal0 d hda
              have h7' : env0.any (refersD d) = false := by simpa using h7
              have ht0 : t < env0.length := by rw [← h2.len]; exact ht
              have := List.any_eq_false.1 h7' env0[t] (List.getElem_mem _)
              rw [get, nth_some (List.getElem?_eq_getElem ht0)]
              exact this
        have hw := hQ.2.2.2.2.2 env G a w hag hs (wpAny P .any ops Q fuel (L.setIfInBounds i true)) (fun G' a' w' hs' => ih _ G' _ a' w' hsz' hu' (.quiet ?_ ?_ ?_) hs')
        · rwa [Array.toArray_toList] at hw
        · intro j hj
          have : ¬ (L.setIfInBounds i true).getD j false = true := fun h => by
            rcases (hset j).1 h with h | h
            · rw [h0 j hj] at h; cases h
            · omega
          simpa using this
        · intro j p hp hj e he hb
          rw [hset]
          rcases (hset j).1 hj with h | h
          · exact .inl (hd0 j p hp h e he hb)
          · subst h; rw [ho] at hp; cases hp
            exact .inl (hre e he hb)
        · have e2 : 2 * i / 2 = i := by omega
          have st1 := h2.step (k := 2 * i) (by omega) (by rw [e2, hLi']; simp) (fun j d hij hj hd hd2 h => by
            obtain ⟨p, hp, hpd, _, _⟩ := wr j d hd hj
            obtain ⟨p2, hp2, hpd2, _, _⟩ := wr (2 * i) d hd2 (by omega)
            rw [e2, ho] at hp2; cases hp2
            by_cases hji : j / 2 = i
            · rw [hji, hLi'] at h; cases h
            · exact later (j / 2) p d (by omega) (by omega) hp hpd hpd2 h)
          rw [DD_even, VD_even, put_put2] at st1
          have e3 : (2 * i + 1) / 2 = i := by omega
          have st2 := st1.step (k := 2 * i + 1) (by omega) (fun h => by
            rcases h with h | h
            · rw [e3, hLi'] at h; cases h
            · omega) (fun j d hij hj hd hd2 h => by
            obtain ⟨p, hp, hpd, _, _⟩ := wr j d hd hj
            obtain ⟨p2, hp2, hpd2, _, _⟩ := wr (2 * i + 1) d hd2 (by omega)
            rw [e3, ho] at hp2; cases hp2
            rcases h with h | h
            · exact later (j / 2) p d (by omega) (by omega) hp hpd hpd2 h
            · omega)
          rw [DD_odd, VD_odd, ho] at st2
          refine st2.congr fun k hk => ?_
          rw [hset]
          constructor
          · rintro ((h | h) | h)
            · exact .inl h
            · exact .inr (by omega)
            · exact .inr (by omega)
          · rintro (h | h)
            · exact .inl (.inl h)
            · rcases Nat.mod_two_eq_zero_or_one k with h6 | h6
              · exact .inl (.inr (by omega))
              · exact .inr (by omega)
      ·
        have hsol := fun k (hk : k < i) => hO.solid k i (by omega) (by simpa using hlt) hk
        have hall : ∀ k, k < i → L.getD k false = true := fun k hk => before_listed hd0 i o ho hre k (hsol k hk)
        have hni : n = i := by
          refine nat_eq (fun h => ?_) (fun h => by omega)
          have := hall n h
          rw [h0 n (Nat.le_refl _)] at this; cases this
        have hle : ∀ k, L.getD k false = true ↔ k < n := fun k => ⟨fun h => Nat.lt_of_not_le fun hk => absurd h (by rw [h0 k hk]; decide), fun h => hall k (by omega)⟩
        have he : env = chO ops.toList vals sv env0 n := h2.uniq ((QS.chain (2 * n) (Nat.le_refl _)).congr fun k hk => ⟨fun _ => (hle (k / 2)).2 (by omega), fun _ => hk⟩)
        rw [← he] at hch
        exact seq n hle (Nat.le_refl _) (by simpa using hO.le) hsol hd0 hch
    | last j h0 hnj hj h1 =>
      have hd : Down ops.toList L := fun k p hp hk e he hb => by
        have h5 := (h0 k).1 hk
        have := hO.edge k p hp e he hb
        exact (h0 e.on).2 (by omega)
      have hge : n ≤ i := by
        have : ¬ i < j := fun h => by have := (h0 i).2 h; rw [hLi'] at this; cases this
        omega
      exact seq j h0 hnj hj (fun k hk => hO.solid k i hge (by simpa using hlt) hk) hd h1
theorem any_sound (hm : P.follows .mixedOrders = true) (hti : TIok P C.ti) (gws : ∀ w w', GW w → Below NG w w' → GW w') (hC : CallOk P NG GW C.call) : AnyOk P NG GW C := by
  intro R io w0 pd0 G env a w K r Q id ops hO hal hs h hn
  obtain ⟨n, hO⟩ := anyOrder_ord hO
  have hmem : ∀ (k : Nat) o t d, ops.toList[k]? = some o → o.op = .alloc t → o.dst = some d → d ∈ allocs ops.toList := by
    intro k o t d ho hop hd
    unfold allocs
    exact List.mem_filterMap.2 ⟨o, List.mem_of_getElem? ho, by rw [hop]; exact hd⟩
  obtain ⟨vals, sv, h1, h0, h2⟩ := canon (io := io) (w0 := w0) (pd0 := pd0) (Q := Q) hti gws hC hO hmem h n (Nat.le_refl _)
  refine wp_region_any hm (any_ok hti gws hC hO hal h1 h2 h0 hn ops.size _ G env a w.drew (by simp) ?_ (.quiet ?_ ?_ ?_) (hs.drew gws))
  · rw [Array.toList_replicate, unl_rep]; exact Nat.le_refl _
  · intro j hj
    simp only [Array.getD_eq_getD_getElem?, Array.getElem?_replicate]
    split <;> rfl
  · intro j o ho hj
    simp only [Array.getD_eq_getD_getElem?, Array.getElem?_replicate] at hj
    split at hj <;> simp at hj
  · refine ⟨rfl, fun k d hk hd hsk => ?_, fun _ _ => rfl⟩
    simp only [Array.getD_eq_getD_getElem?, Array.getElem?_replicate] at hsk
    split at hsk <;> simp at hsk
end
end Go.Proofs.YtcfeihimmboghaaGreatDoor.VI

end
