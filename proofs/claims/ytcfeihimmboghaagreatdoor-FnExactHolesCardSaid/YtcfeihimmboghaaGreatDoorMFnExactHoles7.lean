/- A part of the proof that the law FnExactHoles answers true at every input that its row speaks of. Conditions: the row's own. -/
import Derived.Test.YtcfeihimmboghaaGreatDoorMFnExactHoles6
import Derived.Tactics
section
namespace Go.Proofs.YtcfeihimmboghaaGreatDoor.VI
open Go Go.RowKit
set_option linter.unusedVariables false
set_option linter.unusedSimpArgs false
section
variable {P : Program} {NG : Nat} {GW : World → Prop} {io : List Nat} {w0 : World} {pd0 : Nat → Nat → Prop} {G G' : Gh} {env : Env} {a : Act} {w w' : World}
variable {R : Type} {K : Env → Option R} {r : R} {next : Act → World → Prop} {Q : Exit → Act → World → Prop} {o : Oper} {C : Cx} {ops : List Oper} {dr : Option (List Nat)}
theorem vop_sound (hti : TIok P C.ti) (gws : ∀ w w', GW w → Below NG w w' → GW w') (hC : CallOk P NG GW C.call) (hs : Sim NG GW io w0 pd0 G env a w) (hn : Nx NG GW io w0 pd0 K r next) (h : vop C ops dr o env K = some r) : o.wp P a w next Q := by
  cases hop : o.op with
  | move x => exact move_sound hs hn (by unfold execOp; rw [hop]; rfl) (by simpa only [vop, hop] using h)
  | assign x => exact move_sound hs hn (by unfold execOp; rw [hop]; rfl) (by simpa only [vop, hop] using h)
  | pick c x y => exact small_sound hti hs hn (.inl ⟨_, _, _, hop⟩) h
  | alloc t =>
    simp only [vop, hop] at h
    split at h
    · rename_i i d hi hd; exact alloc_sound hti hs gws hn hop hi hd h
    · cases h
  | box t x =>
    simp only [vop, hop] at h
    split at h
    · rename_i i d hi hd
      split at h
      · rename_i hc; exact boxop_sound hti hs gws hn hop hi hd hc.1 hc.2 h
      · cases h
    · cases h
  | build t parts => exact build_sound hti hs hn hop h
  | buildSlice t len parts => exact buildSlice_sound hti gws hs hn hop h
  | load t x => exact load_sound hti hs hn hop h
  | store t x y => exact store_sound hti gws hs hn hop h
  | nilCheck x => exact small_sound hti hs hn (.inr (.inr (.inr (.inl ⟨_, hop⟩)))) h
  | binOp op t x y u => exact small_sound hti hs hn (.inr (.inr (.inl ⟨_, _, _, _, _, hop⟩))) h
  | unOp op t x => exact small_sound hti hs hn (.inr (.inl ⟨_, _, _, hop⟩)) h
  | convert s d x => exact small_sound hti hs hn (.inr (.inr (.inr (.inr (.inr (.inr (.inr ⟨_, _, _, hop⟩))))))) h
  | makeFunc f x y =>
    cases f with
    | func f => exact small_sound hti hs hn (.inr (.inr (.inr (.inr (.inr (.inr (.inl ⟨_, _, _, hop⟩))))))) h
    | _ => simp [vop, hop] at h
  | makeSlice t l c => exact makeSlice_sound hti gws hs hn hop h
  | slice t x lo hi mx => exact slice_sound hti hs hn hop h
  | fieldAddr t x f => exact fieldAddr_sound hti hs hn hop h
  | indexAddr t x ix => exact indexAddr_sound hti hs hn hop h
  | index t x ix => exact small_sound hti hs hn (.inr (.inr (.inr (.inr (.inl ⟨_, _, _, hop⟩))))) h
  | extract x n => exact small_sound hti hs hn (.inr (.inr (.inr (.inr (.inr (.inl ⟨_, _, hop⟩)))))) h
  | call c =>
    cases hc : c.callee with
    | value x => exact call_sound gws hC hs hn hop hc h
    | invoke x m => simp [vop, hop, hc] at h
    | builtin b =>
      cases b <;> first
        | exact append_sound hti gws hs hn hop hc h
        | exact len_sound hti hs hn hop (.inl hc) h
        | exact len_sound hti hs hn hop (.inr hc) h
        | (simp [vop, hop, hc] at h; done)
  | _ => simp [vop, hop] at h
theorem seen_ok (hs : Sim NG GW io w0 pd0 G env a w) {ops : Array Oper} {j : Nat} {q : Option Bool} (h : seen ops.toList env j = some q) : yielded ops a.tmps j = q := by
  unfold seen at h
  split at h
  case h_2 => cases h
  rename_i o ho
  split at h
  case h_2 => cases h
  rename_i t ht
  have ho' : ops[j]? = some o := by simpa using ho
  have hsl := get_slot hs t
  have hin : ∀ v, get env t = .s v → a.tmps[t]? = some v := by
    intro v hv
    have hne : env[t]? ≠ none := fun e => by rw [get, nth_none e] at hv; cases hv
    have hlt : t < a.tmps.size := by
      rw [← hs.size]
      by_cases hlt : t < env.length
      · exact hlt
      · exact absurd (List.getElem?_eq_none (Nat.le_of_not_lt hlt)) hne
    rw [hv] at hsl
    have h2 : DR G.pd w (.s v) (a.eval (.tmp t)) := hsl
    have h3 : a.eval (.tmp t) = v := by
      generalize a.eval (.tmp t) = m at h2
      cases h2; rfl
    rw [← h3]
    simp [Act.eval, hlt]
  unfold yielded
  simp only [ho', Option.bind_some, ht]
  split at h
  · rename_i b hb; cases h; rw [hin _ hb]
  · rename_i v hnb hb
    cases h
    rw [hin _ hb]
    split
    · rename_i b e; cases e; exact absurd rfl (hnb b)
    · rfl
  · cases h
theorem vops_sound (hti : TIok P C.ti) (gws : ∀ w w', GW w → Below NG w w' → GW w') (hC : CallOk P NG GW C.call) {ops : Array Oper} (hn : Nx NG GW io w0 pd0 K r (Q .normal)) : ∀ (l : List Oper) (G : Gh) (env : Env) (a : Act) (w : World), Sim NG GW io w0 pd0 G env a w → vops C ops.toList dr l env K = some r → wpList P ops Q l a w
  | [], G, env, a, w, hs, h => hn _ _ _ _ hs h
  | o :: l, G, env, a, w, hs, h => by
    have hnext : Nx NG GW io w0 pd0 (fun env' => vops C ops.toList dr l env' K) r (wpList P ops Q l) := fun G' env' a' w' hs' h' => vops_sound hti gws hC hn l G' env' a' w' hs' h'
    rw [vops] at h
    unfold wpList
    split at h
    · rename_i hg
      have hw : Region.wanted o (yielded ops a.tmps) = true := by simp [Region.wanted, hg]
      rw [if_pos hw]
      exact .inl (vop_sound hti gws hC hs hnext h)
    · rename_i j want hg
      have hskip : ∀ (h2 : vput dr o.dst (.s undef) env (fun env' => vops C ops.toList dr l env' K) = some r), wpList P ops Q l (a.put o.dst undef) w := fun h2 => hnext _ _ _ _ (hs.put o.dst fun d _ => VR.slot (VR.of_dr (.s _)) d) (vput_some h2)
      split at h
      · rename_i b hb
        have hy := seen_ok hs hb
        rcases bite_some h with ⟨hbw, h⟩ | ⟨hbw, h⟩
        · have hw : Region.wanted o (yielded ops a.tmps) = true := by simp only [Region.wanted, hg, hy]; simpa using hbw
          rw [if_pos hw]
          exact .inl (vop_sound hti gws hC hs hnext h)
        · have hw : ¬ Region.wanted o (yielded ops a.tmps) = true := by simp only [Region.wanted, hg, hy]; simpa using hbw
          rw [if_neg hw]
          exact hskip h
      · rename_i hb
        have hy := seen_ok hs hb
        have hw : ¬ Region.wanted o (yielded ops a.tmps) = true := by simp [Region.wanted, hg, hy]
        rw [if_neg hw]
        exact hskip h
      · cases h
def AnyOk (P : Program) (NG : Nat) (GW : World → Prop) (C : Cx) : Prop := ∀ {R : Type} {io : List Nat} {w0 : World} {pd0 : Nat → Nat → Prop} {G : Gh} {env : Env} {a : Act} {w : World} {K : Env → Option R} {r : R} {Q : Exit → Act → World → Prop} (id : Nat) (ops : Array Oper), anyOrder C ops.toList = true → (allocs ops.toList).any (fun d => env.any (refersD d)) = false → Sim NG GW io w0 pd0 G env a w → vops C ops.toList (some (allocs ops.toList)) ops.toList env K = some r → Nx NG GW io w0 pd0 K r (Q .normal) → (Code.region id ops true).wp P Q a w
theorem clr_get : ∀ (l : List Nat) (env : Env) (i t : Nat) (v : VV), (clr l i env)[t]? = some v → v = .un ∨ env[t]? = some v
  | l, [], i, t, v, h => by simp [clr] at h
  | l, u :: r, i, 0, v, h => by
    simp only [clr, List.getElem?_cons_zero, Option.some.injEq] at h
    split at h
    · exact .inr (by simpa using h)
    · exact .inl h.symm
  | l, u :: r, i, t + 1, v, h => by
    rcases clr_get l r (i + 1) t v (by simpa [clr] using h) with h | h
    · exact .inl h
    · exact .inr (by simpa using h)
theorem clr_len : ∀ (l : List Nat) (env : Env) (i : Nat), (clr l i env).length = env.length
  | _, [], _ => rfl
  | l, u :: r, i => by rw [clr, List.length_cons, clr_len l r, List.length_cons]
theorem Sim.clear (hs : Sim NG GW io w0 pd0 G env a w) (l : Option (List Nat)) : Sim NG GW io w0 pd0 G (VI.clear l env) a w := by
  cases l with
  | none => exact hs
  | some l =>
    refine { hs with size := (clr_len l env 0).trans hs.size, slot := fun t v m hv hm => ?_ }
    rcases clr_get l env 0 t v hv with rfl | h
    · exact SlotR.un
    · exact hs.slot t v m h hm
theorem run_sound (hti : TIok P C.ti) (gws : ∀ w w', GW w → Below NG w w' → GW w') (hC : CallOk P NG GW C.call) (hA : AnyOk P NG GW C) (kp : Nat → Option (List Nat)) : ∀ (c : Code) (b : Nat) (G : Gh) (env : Env) (a : Act) (w : World) (K : Exit → Env → Option R) (Q : Exit → Act → World → Prop), Sim NG GW io w0 pd0 G env a w → run C kp c b env K = some r → (∀ e G' env' a' w', Sim NG GW io w0 pd0 G' env' a' w' → K e env' = some r → Q e a' w') → c.wp P Q a w := by
  intro c
  induction c with
  | skip => intro b G env a w K Q hs h hq; exact wp_skip (hq _ _ _ _ _ hs h)
  | region id ops draw =>
    intro b G env a w K Q hs h hq
    cases draw with
    | false => exact wp_region_list (vops_sound hti gws hC (fun G' env' a' w' hs' h' => hq .normal _ _ _ _ hs' h') ops.toList G env a w hs h)
    | true =>
      obtain ⟨h1, h2⟩ := bite_none h
      split at h2
      case h_2 => cases h2
      rename_i h3
      exact hA id ops h1 h3 hs h2 (fun G' env' a' w' hs' h' => hq .normal _ _ _ _ hs' h')
  | seq x y ihx ihy =>
    intro b G env a w K Q hs h hq
    refine wp_seq (ihx b G env a w _ _ hs h fun e G' env' a' w' hs' h' => ?_)
    cases e with
    | normal => exact ihy b G' env' a' w' K Q hs' h' hq
    | _ => exact hq _ _ _ _ _ hs' h'
  | cond c x y ihx ihy =>
    intro b G env a w K Q hs h hq
    simp only [run] at h
    split at h
    case h_2 => cases h
    rename_i t ht
    have hc := rdv_rel hs c
    rw [ht] at hc
    rcases bite_some h with ⟨rfl, h⟩ | ⟨rfl, h⟩
    · exact wp_cond_true hc.sv (ihx b G env a w K Q hs h hq)
    · exact wp_cond_false hc.sv (ihy b G env a w K Q hs h hq)
  | block id c ih =>
    intro b G env a w K Q hs h hq
    refine wp_block (ih id G env a w _ _ hs h fun e G' env' a' w' hs' h' => ?_)
    cases e with
    | exit i =>
      simp only at h'
      show if i = id then Q .normal a' w' else Q (.exit i) a' w'
      split at h'
      · rename_i hb; rw [if_pos (Nat.eq_of_beq_eq_true hb)]; exact hq _ _ _ _ _ hs' h'
      · rename_i hb; rw [if_neg (fun e => by subst e; simp at hb)]; exact hq _ _ _ _ _ hs' h'
    | _ => exact hq _ _ _ _ _ hs' h'
  | loop c ih =>
    intro b G env a w K Q hs h hq
    simp only [run] at h
    have key : ∀ (n : Nat) (G : Gh) (env : Env) (a : Act) (w : World), Sim NG GW io w0 pd0 G env a w → iter (fun env' K' => clearK (kp b) env' fun e => run C kp c b e K') n env K = some r → Code.rounds P c Q n a w := by
      intro n
      induction n with
      | zero => intro G env a w hs h; cases h
      | succ n ihn =>
        intro G env a w hs h
        rw [iter, clearK_eq] at h
        refine ih b G _ a w _ _ (hs.clear (kp b)) h fun e G' env' a' w' hs' h' => ?_
        cases e with
        | normal => exact ihn G' env' a' w' hs' h'
        | _ => exact hq _ _ _ _ _ hs' h'
    exact wp_loop_rounds C.m (key C.m G env a w hs h)
  | exit id => intro b G env a w K Q hs h hq; exact wp_exit (hq _ _ _ _ _ hs h)
  | ret => intro b G env a w K Q hs h hq; exact wp_ret (hq _ _ _ _ _ hs h)
  | _ => intro b G env a w K Q hs h hq; cases h
end
section
variable {P : Program} {NG : Nat} {GW : World → Prop} {io : List Nat} {w0 : World} {pd0 : Nat → Nat → Prop} {G : Gh} {env : Env} {a : Act} {w : World} {ti : TypeId → Option TI}
theorem ioB_none : ∀ (vs : List VV) (ms : List Value), (∀ v ∈ vs, ∀ cs, v ≠ .bx cs) → ioB vs ms = []
  | [], ms, _ => by cases ms <;> rfl
  | v :: vs, [], _ => by cases v <;> rfl
  | v :: vs, m :: ms, h => by
    have := h v (by simp)
    cases v <;> first
      | (simp only [ioB]; exact ioB_none vs ms (fun x hx => h x (by simp [hx])))
      | exact absurd rfl (this _)
theorem outs_none : ∀ (vs : List VV) (i : Nat) (os : List VV), outs env i vs = some os → os = [] ∧ ∀ v ∈ vs, ∀ cs, v ≠ .bx cs
  | [], i, os, h => by simp [outs] at h; exact ⟨h, by simp⟩
  | v :: vs, i, os, h => by
    cases v <;> simp only [outs] at h <;> first
      | (cases h; done)
      | (obtain ⟨h1, h2⟩ := outs_none vs _ os h
         refine ⟨h1, fun u hu cs => ?_⟩
         rcases List.mem_cons.1 hu with rfl | hu
         · exact fun e => VV.noConfusion e
         · exact h2 u hu cs)
def endPd (G : Gh) (env : Env) (g k : Nat) : Prop := G.pd g k ∨ ∃ t e z xs, get env t = .mr e z xs ∧ g = G.bl t ∧ k < xs.length * z
theorem made_of (hs : Sim NG GW io w0 pd0 G env a w) {t : Nat} {e : TypeId} {z : Nat} {xs : List VV} (h : get env t = .mr e z xs) : MadeR G w t e z xs (a.eval (.tmp t)) := by have := get_slot hs t; rw [h] at this; exact this
theorem end_dr {v : VV} {m : Value} (h : DR G.pd w v m) : DR (endPd G env) w v m := h.keep fun _ _ _ h1 h2 => ⟨.inl h1, h2⟩
theorem end_drs {v : List VV} {m : List Value} (h : DRs G.pd w v m) : DRs (endPd G env) w v m := h.keep fun _ _ _ h1 h2 => ⟨.inl h1, h2⟩
def rvSem (tmps : Array Value) (rv : ResultVar) : Sem Value := match rv with
  | .tmp t => pure (tmps.getD t undef)
  | .cell b t => do loadVar t (← asAddr (tmps.getD b undef))
theorem made_res (hs : Sim NG GW io w0 pd0 G env a w) {t : Nat} {e : TypeId} {z : Nat} {xs : List VV} {m : Value} (hsl : MadeR G w t e z xs m) (hg : get env t = .mr e z xs) : ResR w0.heap.size (endPd G env) w (.ow e z xs) m := by
  obtain ⟨ms, hm, hh, ho, hnp, hr, hz, h1, hl, h0, hB⟩ := hsl
  have hml : ms.length = xs.length * z := by rw [← hr.length, flat_len hz]
  refine ⟨ms, ?_, end_drs hr, hz, h1, hl, fun g hg' k => ?_⟩
  · rw [hm]
    exact ⟨hml, .inr ⟨G.bl t, xs.length, ms.toArray, rfl, by rw [← hs.B]; exact hB, hh, Nat.le_refl _, hl, by rw [List.size_toArray]; exact hml, by rw [← hml]; exact List.take_length⟩⟩
  · rw [hm] at hg'
    simp [Value.ownBlock] at hg'
    subst hg'
    refine ⟨fun h => h.elim (fun h => absurd h (hnp k)) fun ⟨t', e', z', xs', h1, h2, h3⟩ => ?_, fun h => .inr ⟨t, e, z, xs, hg, rfl, h⟩⟩
    obtain ⟨_, _, _, ho', _⟩ := made_of hs h1
    rw [← h2, ho] at ho'
    have : t = t' := congrArg Prod.fst (Option.some.inj ho')
    subst this
    rw [hg] at h1; cases h1; exact h3
theorem resv_ok (hti : TIok P ti) (hs : Sim NG GW io w0 pd0 G env a w) {rv : ResultVar} {v : VV} (h : resv ti env rv = some v) :
    ∃ m, (rvSem a.tmps rv).run P w = .ok m w ∧ ResR w0.heap.size (endPd G env) w v m := by
  cases rv with
  | tmp t =>
    refine ⟨_, rfl, ?_⟩
    have hsl := get_slot hs t
    simp only [resv] at h
    change ResR _ _ _ _ (a.eval (.tmp t))
    cases hg : get env t <;> rw [hg] at h hsl <;> simp only [Option.some.injEq, reduceCtorEq] at h <;> (try subst h) <;> first
      | exact end_dr hsl
      | exact hsl
      | skip
    · rename_i u n
      split at h
      · rename_i e z xs hu
        obtain ⟨hb, h⟩ := must_some h
        cases h
        have hn := Nat.eq_of_beq_eq_true hb
        have hM := made_of hs hu
        have he : a.eval (.tmp t) = a.eval (.tmp u) := by
          obtain ⟨ms, hm, _⟩ := hM
          have h2 : a.eval (.tmp t) = .slice (some ⟨G.bl u, 0, none⟩) n n := hsl
          rw [hm, h2, hn]
        rw [he]
        exact made_res hs hM hu
      · cases h
    · rename_i e z xs
      obtain ⟨ms, ho, hr, hz, h1, hl, hgo⟩ := (hsl : OwnR G w (t, 0) e z xs _)
      rw [hs.B] at ho
      refine ⟨ms, ho, end_drs hr, hz, h1, hl, fun g hg' k => ?_⟩
      rw [← (hgo g hg').2 k]
      refine ⟨fun h => h.elim id fun ⟨t', e', z', xs', h1, h2, _⟩ => ?_, .inl⟩
      obtain ⟨_, _, _, ho', _⟩ := made_of hs h1
      rw [← h2, (hgo g hg').1] at ho'
      have : t = t' := congrArg Prod.fst (Option.some.inj ho')
      subst this
      rw [hg] at h1; cases h1
    · rename_i e z xs
      exact made_res hs hsl hg
  | cell b t =>
    simp only [resv] at h
    split at h
    case h_2 => cases h
    rename_i cs i hcs hi
    have hsl := get_slot hs b
    rw [hcs] at hsl
    have hbox : BoxR G w b cs (a.eval (.tmp b)) := hsl
    obtain ⟨n, hrun, hd⟩ := vload_box hti hi h hbox
    obtain ⟨ms, ty, hpm, _⟩ := hbox
    have he : a.tmps.getD b undef = .pointer (some ⟨G.bl b, 0, none⟩) := hpm
    refine ⟨n, ?_, ?_⟩
    · simp only [rvSem, he, asAddr]
      simp only [Instr.loadAt, Instr.sureAddr] at hrun
      simpa using hrun
    · have := end_dr (env := env) hd
      cases v <;> first
        | exact this
        | (cases hd; done)
theorem ResR.dv {B : Nat} {pd : Nat → Nat → Prop} {v : VV} {m : Value} (h : ResR B pd w v m) : DR pd w v.dv m := by
  cases v <;> first
    | (have h' : DR pd w _ m := h; rw [← h'.dv] at h'; exact h')
    | (cases h; exact .sl0 _ _)
    | skip
  rename_i e z xs
  obtain ⟨ms, ho, hr, hz, h1, hl, hpd⟩ := h
  rcases ho.2 with ⟨rfl, hn⟩ | ⟨g, cap, cur, rfl, h0, hh, hnc, hcm, hcs, htk⟩
  · obtain rfl : xs = [] := List.eq_nil_of_length_eq_zero hn
    exact .sl0 _ _
  · refine .sl xs g 0 cap z ms hnc hl hz hr h1 fun k u hu => ?_
    have hk : k < xs.length * z := by rw [← ho.1]; exact (List.getElem?_eq_some_iff.1 hu).1
    refine ⟨?_, by rw [Nat.zero_add]; exact (hpd g rfl k).2 hk⟩
    have h2 := ho.cells (g := g) rfl k u hu
    rw [Addr.add_lit] at h2; exact h2
theorem resvs_ok (hti : TIok P ti) (hs : Sim NG GW io w0 pd0 G env a w) : ∀ (rs : List ResultVar) (vs : List VV), resvs ti env rs = some vs →
    ∃ ms : List Value, (rs.mapM (rvSem a.tmps)).run P w = .ok ms w ∧ DRs (endPd G env) w vs ms
  | [], vs, h => by simp [resvs] at h; subst h; exact ⟨[], rfl, .nil⟩
  | r :: rs, vs, h => by
    simp only [resvs] at h
    split at h
    case h_2 => cases h
    rename_i v vs' hv hvs
    cases h
    obtain ⟨m, h1, h2⟩ := resv_ok (P := P) hti hs hv
    obtain ⟨ms, h3, h4⟩ := resvs_ok hti hs rs vs' hvs
    refine ⟨m :: ms, ?_, .cons _ _ _ _ h2.dv h4⟩
    rw [List.mapM_cons]
    simp only [Sem.run_bind]
    rw [h1]
    simp only [Result.andThen_ok]
    rw [h3]
    rfl
theorem results_run (fn : Func) (tmps : Array Value) {ms : List Value} (h : (fn.results.toList.mapM (rvSem tmps)).run P w = .ok ms w) :
    (results fn tmps).run P w = .ok (if h : ms.length = 1 then ms[0] else .tuple ms.toArray) w := by
  have e : results fn tmps = (do
      let vs ← fn.results.mapM (rvSem tmps)
      pure (if h : vs.size = 1 then vs[0] else .tuple vs)) := by
    unfold results
    congr 2
  rw [e, Array.mapM_eq_mapM_toList]
  simp only [Sem.run_bind, Sem.run_map]
  rw [h]
  simp
theorem fixnl_ok {B : Nat} {pd : Nat → Nat → Prop} {fn : Func} {v : VV} {m : Value} (h : ResR B pd w v m) : ResR B pd w (fixnl ti fn v) m := by
  cases v <;> first
    | exact h
    | skip
  have hm : m = .slice none 0 0 := h
  subst hm
  unfold fixnl
  simp only
  split
  · split
    · split
      · split
        · exact ⟨[], World.ownsRow_nil w _ _ _, .nil, fun x h => (by cases h), fun u h => (by cases h), Nat.zero_le _, fun g h => (by simp [Value.ownBlock] at h)⟩
        · rfl
      · rfl
    · rfl
  · rfl
theorem fin_ok (hti : TIok P ti) (hs : Sim NG GW io w0 pd0 G env a w) {fn : Func} {args : List VV} {r : VV × List VV} (h : fin ti fn args env = some r) :
    (∀ v ∈ args, ∀ cs, v ≠ .bx cs) ∧ r.2 = [] ∧ ∃ m, (results fn a.tmps).run P w = .ok m w ∧ ResR w0.heap.size (endPd G env) w r.1 m := by
  unfold fin at h
  split at h
  case h_2 => cases h
  rename_i os ho
  obtain ⟨rfl, hno⟩ := outs_none args 0 os ho
  refine ⟨hno, ?_⟩
  split at h
  · rename_i rv hrv
    split at h
    case h_2 => cases h
    rename_i v hv
    cases h
    obtain ⟨m, h1, h2⟩ := resv_ok (P := P) hti hs hv
    refine ⟨rfl, m, ?_, fixnl_ok h2⟩
    have := results_run (P := P) (w := w) fn a.tmps (ms := [m]) (by
      rw [hrv, List.mapM_cons, List.mapM_nil]
      simp only [Sem.run_bind]
      rw [h1]
      rfl)
    simpa using this
  · rename_i rs hrs
    split at h
    case h_2 => cases h
    rename_i vs hvs
    cases h
    obtain ⟨ms, h1, h2⟩ := resvs_ok (P := P) hti hs fn.results.toList vs hvs
    refine ⟨rfl, .tuple ms.toArray, ?_, .tu _ _ h2⟩
    have := results_run (P := P) (w := w) fn a.tmps h1
    have hl : ms.length ≠ 1 := by
      have hl2 := h2.length
      intro e
      have hl3 : fn.results.toList.length = vs.length := by
        have : ∀ (l : List ResultVar) (q : List VV), resvs ti env l = some q → l.length = q.length := by
          intro l
          induction l with
          | nil => intro q hq; simp [resvs] at hq; subst hq; rfl
          | cons x l ih => intro q hq; simp only [resvs] at hq; split at hq <;> cases hq; simp [ih _ (by assumption)]
        exact this _ _ hvs
      match hq : fn.results.toList with
      | [x] => exact hrs x hq
      | [] => rw [hq] at hl3; simp at hl3; omega
      | _ :: _ :: _ => rw [hq] at hl3; simp at hl3; omega
    rw [dif_neg hl] at this
    exact this
def GivenOk (P : Program) (NG : Nat) (GW : World → Prop) (Gv : FuncId → Option (List VV → Option (VV × List VV))) : Prop := ∀ f g vs r, Gv f = some g → g vs = some r → CallOk1 P NG GW f vs r
theorem callv_ok (hti : TIok P ti) (gws : ∀ w w', GW w → Below NG w w' → GW w') {keep : FuncId → Nat → Option (List Nat)} {Gv : FuncId → Option (List VV → Option (VV × List VV))} (hG : GivenOk P NG GW Gv) (hA : ∀ C : Cx, C.ti = ti → CallOk P NG GW C.call → AnyOk P NG GW C) : ∀ m, CallOk P NG GW (callv P ti keep Gv m)
  | 0 => fun f vs r _ h => by simp [callv] at h
  | m + 1 => fun f vs r hok h => by
    have ih := callv_ok hti gws hG hA (keep := keep) m
    rw [callv] at h
    split at h
    · rename_i g hg; exact hG f g vs r hg h
    split at h
    case h_2 => cases h
    rename_i fn hfn
    split at h
    case h_2 => cases h
    rename_i c hname' hb
    let C : Cx := ⟨ti, callv P ti keep Gv m, m⟩
    refine ⟨⟨fn, hfn, (Bool.or_eq_false_iff.1 hname').1, by rw [hb]; rfl⟩, fun w ms H hgw hng hl hargs hnd hio hpv hpd => ?_⟩
    rw [Bool.or_eq_false_iff] at hname'
    have hname := hname'.1
    have hbx : ∀ v ∈ vs, ∀ cs, v ≠ .bx cs := fun v hv cs e => by
      have := List.any_eq_false.1 hname'.2 v hv
      subst e; simp [isBx] at this
    have hioB := ioB_none vs ms hbx
    rw [hioB]
    let G0 : Gh := ⟨H.pd, H.pv, fun _ => 0, fun _ => none, w.heap.size⟩
    have hlen : (start fn vs).length = (ms.toArray ++ Array.replicate (fn.ntmps - ms.toArray.size) undef).size := by
      simp [start, hl]
    have hs0 : Sim NG GW [] w H.pd G0 (start fn vs) { tmps := ms.toArray ++ Array.replicate (fn.ntmps - ms.toArray.size) undef, defers := [] } w := by
      refine { size := hlen, slot := ?_, df := rfl, fr := Fr.refl _ _ _, gw := hgw, ng := hng, ngio := (by simp), own := (fun g p h => by cases h), ownp := (fun g k h => absurd rfl h), dv := hpd, B := rfl, old := (fun g k _ h => h) }
      intro t v u hv hu
      by_cases ht : t < vs.length
      · rw [start, List.getElem?_append_left ht] at hv
        rw [Array.getElem?_append_left (by simpa [← hl] using ht)] at hu
        have hA := hargs t v u hv (by simpa using hu)
        cases v <;> first
          | exact absurd rfl (hbx _ (List.mem_of_getElem? hv) _)
          | exact hA.elim
          | exact hA
          | skip
        obtain ⟨us, e1, e2, e3⟩ := hA
        refine ⟨us, e1, e2, fun i x y hx hy => ?_⟩
        obtain ⟨cs, rfl, hV⟩ := e3 i x y hx hy
        exact hV
      · rw [start, List.getElem?_append_right (by omega)] at hv
        have := List.eq_of_mem_replicate (List.mem_of_getElem? hv)
        subst this
        exact SlotR.un
    refine calls_of_wp hfn hb (run_sound (r := r) (C := C) hti gws ih (hA C rfl ih) (keep f) c 0 G0 _ _ w _ _ hs0 h fun e G' env' a' w' hs' h' => ?_)
    have key : fin ti fn vs env' = some r → a'.defers = [] ∧ ∃ v, (results fn a'.tmps).run P w' = .ok v w' ∧ ∃ m, (Ending.returned v) = .returned m ∧ Post H w [] r m w' := by
      intro hf
      obtain ⟨_, h2, m', h3, h4⟩ := fin_ok (P := P) hti hs' hf
      refine ⟨hs'.df, m', h3, m', rfl, hs'.fr, endPd G' env', fun g k hg hk => ?_, h4, by rw [h2]; rfl, fun j g v hj _ => by simp at hj⟩
      rcases hk with hk | ⟨t, e, z, xs, h5, h6, _⟩
      · exact hs'.old g k hg hk
      · obtain ⟨_, _, _, _, _, _, _, _, _, _, hB⟩ := made_of hs' h5
        rw [hs'.B] at hB
        omega
    cases e with
    | normal => exact key h'
    | ret => exact key h'
    | _ => cases h'
end
section
variable {R : Type} (C : Cx)
def vqu (o : Oper) (rd : Operand → VV) (gb : Nat → VV) (val : VV → Option R) : Option R := match o.op with
  | .move x => val (rd x)
  | .pick c a b => match rd c with
    | .s (.bool t) => bite t (val (rd a)) (val (rd b))
    | _ => none
  | .unOp op _ x => match vun op (rd x) with
    | some v => val (.s v)
    | none => none
  | .binOp op t x y _ => match vbin (isBool C t) op (rd x) (rd y) with
    | some (b, v) => must b (val (.s v))
    | none => none
  | .load ty x => match C.ti ty with
    | none => none
    | some i => match rd x with
      | .vw cs => match vload i cs 0 with
        | some v => val v
        | none => none
      | .pt t off => match gb t with
        | .bx cs => (match vload i cs off with
            | some v => val v
            | none => none)
        | _ => none
      | _ => none
  | .nilCheck x => match rd x with
    | .pt t off => val (.pt t off)
    | _ => none
  | .fieldAddr st x f => match C.ti st with
    | some i => match i.k with
      | .agg fs => match fs[f]? with
        | some (off, sz) => if sz = 0 then none else match rd x with
          | .pt t o => val (.pt t (o + off))
          | .vw cs => val (.vw (cs.drop off))
          | _ => none
        | none => none
      | _ => none
    | none => none
  | .indexAddr t x ix => match C.ti t with
    | some i => match i.k with
      | .slice e => match C.ti e with
        | some ie => match rd x, rd ix with
          | .sl xs, .s (.int _ j) => bite (decide (0 ≤ j) && decide (j < (xs.length : Int))) (vget xs j fun v => if v.cells.length = ie.sz then val (.vw v.cells) else none) none
          | .sr u n, .s (.int _ j) => bite (decide (0 ≤ j) && decide (j < (n : Int))) (val (.pe u j ie.sz)) none
          | _, _ => none
        | none => none
      | _ => none
    | none => none
  | .index t x ix => match C.ti t with
    | some i => match i.k, rd x, rd ix with
      | .str, .s (.string s), .s (.int _ j) => bite (decide (0 ≤ j) && decide (j < (s.size : Int))) (val (.byte (bt s j))) none
      | _, _, _ => none
    | none => none
  | .extract x n => match rd x with
    | .tu vs => match vs[n]? with
      | some v => val v
      | none => none
    | _ => none
  | .build t parts => match C.ti t with
    | some i => match i.k with
      | .agg _ => (match fillv i (i.zero.map liftc) (parts.toList.map fun p => (p.1, rd p.2)) with
        | some cs => val (.ag cs)
        | none => none)
      | _ => none
    | none => none
  | .buildSlice t len parts => match C.ti t with
    | some i => match i.k with
      | .slice e => match C.ti e with
        | some ie => if 0 < ie.sz ∧ len * ie.sz ≤ 16777216 then (match fills ie.sz (List.replicate len (zeroV ie)) (parts.toList.map fun p => (p.1, rd p.2)) with
          | some xs => val (.ow e ie.sz xs)
          | none => none) else none
        | none => none
      | _ => none
    | none => none
  | .makeFunc (.func f) first cap => if first.size = 0 then (match (cap.toList.map rd).all isCap with
    | true => val (.cl f (cap.toList.map rd))
    | false => none) else none
  | .convert src dst x => match C.ti src, C.ti dst with
    | some i, some j => match i.k, j.k, rd x with
      | .int _, .int k, .s (.int _ n) => val (.s (.int k (wr k n)))
      | .str, .str, .s (.string b) => val (.s (.string b))
      | .slice e, .str, .sl xs => (match C.ti e with
        | some ie => (match ie.k with
          | .int .u8 => obind (byL xs) fun l => val (.str (strOfNums l))
          | _ => none)
        | none => none)
      | _, _, _ => none
    | _, _ => none
  | .slice t x lo hi mx => match mx, C.ti t with
    | none, some i => match i.k, rd x with
      | .str, .s (.string s) => (match vbnd (lo.map rd), vbnd (hi.map rd) with
        | some l, some h => bite (bndOk s.size (l.getD 0) (h.getD s.size)) (val (.str (s.extract (l.getD 0).toNat (h.getD s.size).toNat))) none
        | _, _ => none)
      | .slice e, .sl xs => (match C.ti e, vbnd (lo.map rd), vbnd (hi.map rd) with
        | some ie, some l, some h => bite (bndOk xs.length (l.getD 0) (h.getD xs.length) && xs.all fun v => Nat.beq v.cells.length ie.sz) (val (.sl ((xs.take (h.getD xs.length).toNat).drop (l.getD 0).toNat))) none
        | _, _, _ => none)
      | _, _ => none
    | _, _ => none
  | .call c => match c.callee with
    | .builtin .len => match c.args.toList, c.argTypes.toList with
      | [x], [t] => match C.ti t with
        | some i => match i.k, rd x with
          | .str, .s (.string b) => val (.int b.size)
          | .slice _, .sl xs => val (.int xs.length)
          | .slice _, .sr _ n => val (.int n)
          | _, _ => none
        | none => none
      | _, _ => none
    | .builtin .min => match c.args.toList with
      | [x, y] => match rd x, rd y with
        | .s (.int k n), .s (.int k' n') => val (.s (.int k (if n' < n then n' else n)))
        | _, _ => none
      | _ => none
    | .value x => match rd x with
      | .cl f cap => match (c.args.toList.map rd).all drOk && drOk (.cl f cap) && (c.args.toList.map rd ++ cap).all argOk with
        | true => obind (C.call f (c.args.toList.map rd ++ cap)) fun r => (match resOk r.1 with
          | true => val r.1
          | false => none)
        | false => none
      | _ => none
    | _ => none
  | _ => none
end
section
variable {R : Type} {C : Cx} {ops : List Oper} {l : List Nat} {o : Oper} {env : Env} {K : Env → Option R}
theorem arg_dr {x : Operand} (h : drOk (rdv env x) = true) : argOf env x = rdv env x ∧ ioOf env x = [] := by
  unfold argOf ioOf
  generalize rdv env x = v at h
  cases v <;> first
    | (exact ⟨rfl, rfl⟩)
    | (simp [drOk] at h; done)
    | skip
  rename_i f cap
  refine ⟨?_, rfl⟩
  show VV.cl f (cap.map (capv env)) = VV.cl f cap
  simp only [drOk] at h
  congr 1
  conv => rhs; rw [← List.map_id cap]
  refine List.map_congr_left fun v hv => ?_
  rw [List.all_eq_true] at h
  have := h v hv
  cases v <;> simp at this
  rfl
theorem args_dr : ∀ {xs : List Operand}, (xs.map (rdv env)).all drOk = true → xs.map (argOf env) = xs.map (rdv env) ∧ xs.flatMap (ioOf env) = []
  | [], _ => ⟨rfl, rfl⟩
  | x :: r, h => by
    simp only [List.map_cons, List.all_cons, Bool.and_eq_true] at h
    obtain ⟨h1, h2⟩ := arg_dr h.1
    obtain ⟨h3, h4⟩ := args_dr h.2
    exact ⟨by rw [List.map_cons, List.map_cons, h1, h3], by rw [List.flatMap_cons, h2, h4]; rfl⟩
theorem vop_quiet (hq : quietB C ops o = true) (ha : ∀ t, o.op ≠ .alloc t) : vop C ops (some l) o env K = vqu C o (rdv env) (getB (some l) env) fun v => vput (some l) o.dst v env K := by
  cases hop : o.op with
  | move x =>
    simp only [quietB, hop] at hq
    have hfd : fd ops o.dst = false := by simpa using hq
    simp only [vop, vqu, hop, hfd, vmove]
    split
    · rename_i t
      split <;> rename_i hg <;> simp [rdv, hg, view]
    · rfl
    · rfl
  | load ty x =>
    simp only [quietB, hop] at hq
    have hfd : fd ops o.dst = false := by simpa using hq
    simp only [vop, vqu, hop, hfd]
    try rfl
  | alloc t => exact absurd hop (ha t)
  | buildSlice t len parts => simp only [vop, vqu, hop, frcL_eq]; try rfl
  | makeFunc f x y => cases f <;> simp only [vop, vqu, hop] <;> try rfl
  | call c =>
    cases hc : c.callee with
    | value x =>
      simp only [quietB, hop, hc] at hq
      simp only [vop, vqu, hop, hc]
      cases hx : rdv env x <;> try rfl
      rename_i f cap
      simp only [drArgs, List.all_cons, List.all_nil, Bool.and_true]
      cases hd : (c.args.toList.map (rdv env)).all drOk && drOk (.cl f cap)
      · rfl
      · rw [Bool.and_eq_true] at hd
        obtain ⟨e1, e2⟩ := args_dr hd.1
        have e3 : cap.map (capv env) = cap := by
          conv => rhs; rw [← List.map_id cap]
          refine List.map_congr_left fun v hv => ?_
          have := hd.2
          simp only [drOk, List.all_eq_true] at this
          have := this v hv
          cases v <;> simp at this
          rfl
        simp only [argv_eq, frcL_eq, capK_eq, e1, e2, e3, vcall, nodupB, List.isEmpty_nil, Bool.true_or, Bool.and_true, Bool.true_and, backsK]
        try rfl
    | invoke x m => simp only [vop, vqu, hop, hc]
    | builtin b => cases b <;> simp [quietB, hop, hc] at hq <;> simp only [vop, vqu, hop, hc] <;> try rfl
  | _ => first
    | (simp only [vop, vqu, hop]; done)
    | (simp only [vop, vqu, hop]; rfl)
    | (simp [quietB, hop] at hq; done)
theorem vqu_val {rd : Operand → VV} {gb : Nat → VV} {val : VV → Option R} {r : R} (h : vqu C o rd gb val = some r) : ∃ v, val v = some r ∧ ∀ {R' : Type} (val' : VV → Option R'), vqu C o rd gb val' = val' v := by
  unfold vqu at h ⊢
  cases hop : o.op with
  | move x => rw [hop] at h; exact ⟨_, h, fun {R'} _ => rfl⟩
  | pick c x y =>
    rw [hop] at h
    simp only at h ⊢
    split at h
    · rename_i t ht
      rcases bite_some h with ⟨rfl, h⟩ | ⟨rfl, h⟩ <;> exact ⟨_, h, fun {R'} _ => rfl⟩
    · cases h
  | binOp op t x y u =>
    rw [hop] at h
    simp only at h ⊢
    split at h
    · rename_i b v hv
      obtain ⟨hb, h⟩ := must_some h
      subst hb
      exact ⟨_, h, fun {R'} _ => rfl⟩
    · cases h
  | indexAddr t x ix =>
    rw [hop] at h
    simp only at h ⊢
    split at h
    case h_2 => cases h
    split at h
    case h_2 => cases h
    split at h
    case h_2 => cases h
    split at h
    · obtain ⟨hb, h⟩ := bite_none h
      obtain ⟨v, hv, h⟩ := vget_some h
      split at h
      · rename_i hl
        refine ⟨_, h, fun {R'} val' => ?_⟩
        simp only [hb, bite, vget, hv, hl, if_pos]
      · cases h
    · obtain ⟨hb, h⟩ := bite_none h
      exact ⟨_, h, fun {R'} val' => by simp only [hb, bite]⟩
    · cases h
  | index t x ix =>
    rw [hop] at h
    simp only at h ⊢
    split at h
    case h_2 => cases h
    split at h
    · obtain ⟨hb, h⟩ := bite_none h
      exact ⟨_, h, fun {R'} val' => by simp only [hb, bite]⟩
    · cases h
  | slice t x lo hi mx =>
    rw [hop] at h
    simp only at h ⊢
    split at h
    case h_2 => cases h
    split at h
    · split at h
      · obtain ⟨hb, h⟩ := bite_none h
        exact ⟨_, h, fun {R'} val' => by simp only [hb, bite]⟩
      · cases h
    · split at h
      · obtain ⟨hb, h⟩ := bite_none h
        exact ⟨_, h, fun {R'} val' => by simp only [hb, bite]⟩
      · cases h
    · cases h
  | makeFunc f x y =>
    rw [hop] at h
    cases f <;> simp only [reduceCtorEq] at h ⊢
    split at h
    · rename_i h0
      split at h
      · rename_i h1; exact ⟨_, h, fun {R'} val' => by simp only [h0, if_pos]⟩
      · cases h
    · cases h
  | call c =>
    rw [hop] at h
    simp only at h ⊢
    cases hc : c.callee with
    | value x =>
      rw [hc] at h
      simp only at h ⊢
      split at h
      case h_2 => cases h
      split at h
      case h_2 => cases h
      rename_i hk
      unfold obind at h ⊢
      split at h
      · rename_i q hq
        simp only at h ⊢
        split at h
        · rename_i hr; exact ⟨_, h, fun {R'} val' => by simp only [hr]⟩
        · cases h
      · cases h
    | invoke x m => rw [hc] at h; cases h
    | builtin b =>
      rw [hc] at h
      cases b <;> simp only [reduceCtorEq] at h ⊢
      · split at h
        case h_2 => cases h
        split at h
        case h_2 => cases h
        split at h <;> first
          | (cases h; done)
          | exact ⟨_, h, fun {R'} _ => rfl⟩
      · split at h
        case h_2 => cases h
        split at h
        case h_2 => cases h
        exact ⟨_, h, fun {R'} _ => rfl⟩
  | _ =>
    rw [hop] at h
    simp only [reduceCtorEq] at h ⊢ <;> (repeat' (split at h)) <;> first
      | (cases h; done)
      | (obtain ⟨l, hl, h2⟩ := obind_some h; refine ⟨_, h2, fun {R'} val' => ?_⟩; rw [hl]; first | rfl | (simp [*, obind]; done))
      | (refine ⟨_, h, fun {R'} val' => ?_⟩; first | rfl | (simp only [*]; done) | (simp [*]; done))
theorem map_rd {rd rd' : Operand → VV} {xs : List Operand} (h : ∀ x ∈ xs, rd' x = rd x) : xs.map rd' = xs.map rd := List.map_congr_left h
theorem omap_rd {rd rd' : Operand → VV} {x : Option Operand} (h : ∀ y, x = some y → rd' y = rd y) : x.map rd' = x.map rd := by
  cases x with
  | none => rfl
  | some y => rw [Option.map_some, Option.map_some, h y rfl]
theorem vqu_congr {rd rd' : Operand → VV} {gb gb' : Nat → VV} {val : VV → Option R} (h : ∀ x ∈ o.op.operands.toList, rd' x = rd x) (hg : ∀ ty x, o.op = .load ty x → ∀ t off, rd x = .pt t off → gb' t = gb t) : vqu C o rd' gb' val = vqu C o rd gb val := by
  unfold vqu
  cases hop : o.op with
  | load t x =>
    rw [hop] at h
    simp only
    rw [h x (by simp [Op.operands])]
    cases C.ti t with
    | none => rfl
    | some i =>
      cases hx : rd x <;> try rfl
      rename_i u off
      simp only
      rw [hg t x hop u off hx]
  | build t parts =>
    rw [hop] at h
    have e : (parts.toList.map fun p => (p.1, rd' p.2)) = parts.toList.map fun p => (p.1, rd p.2) := List.map_congr_left fun p hp => by
      rw [h p.2 (by simp [Op.operands]; exact ⟨p.1, by simpa using hp⟩)]
    simp only [e]
  | buildSlice t n parts =>
    rw [hop] at h
    have e : (parts.toList.map fun p => (p.1, rd' p.2)) = parts.toList.map fun p => (p.1, rd p.2) := List.map_congr_left fun p hp => by
      rw [h p.2 (by simp [Op.operands]; exact ⟨p.1, by simpa using hp⟩)]
    simp only [e]
  | makeFunc f x y =>
    rw [hop] at h
    have e : y.toList.map rd' = y.toList.map rd := map_rd fun z hz => h z (by simp [Op.operands]; exact .inr (by simpa using hz))
    cases f <;> simp only [e]
  | slice t x lo hi mx =>
    rw [hop] at h
    have e1 := h x (by simp [Op.operands])
    have e2 : lo.map rd' = lo.map rd := omap_rd fun y hy => h y (by subst hy; simp [Op.operands])
    have e3 : hi.map rd' = hi.map rd := omap_rd fun y hy => h y (by subst hy; simp [Op.operands])
    simp only [e1, e2, e3]
  | call c =>
    rw [hop] at h
    cases hc : c.callee with
    | value x =>
      have e1 := h x (by simp [Op.operands, Call.operands, hc])
      have e2 : c.args.toList.map rd' = c.args.toList.map rd := map_rd fun z hz => h z (by simp [Op.operands, Call.operands, hc]; exact .inr (by simpa using hz))
      simp only [hc, e1, e2]
    | invoke x m => simp only [hc]
    | builtin b =>
      have e : ∀ z ∈ c.args.toList, rd' z = rd z := fun z hz => h z (by simp [Op.operands, Call.operands, hc]; simpa using hz)
      cases b <;> simp only [hc]
      · split
        · rename_i x t hx ht
          rw [e x (by rw [hx]; simp)]
        · rfl
      · split
        · rename_i x y hx
          rw [e x (by rw [hx]; simp), e y (by rw [hx]; simp)]
        · rfl
  | binOp op t x y u =>
    rw [hop] at h
    simp only [h x (by simp [Op.operands]), h y (by simp [Op.operands])]
  | pick c x y =>
    rw [hop] at h
    simp only [h c (by simp [Op.operands]), h x (by simp [Op.operands]), h y (by simp [Op.operands])]
  | indexAddr t x y =>
    rw [hop] at h
    simp only [h x (by simp [Op.operands]), h y (by simp [Op.operands])]
  | index t x y =>
    rw [hop] at h
    simp only [h x (by simp [Op.operands]), h y (by simp [Op.operands])]
  | move x => rw [hop] at h; simp only [h x (by simp [Op.operands])]
  | unOp op t x => rw [hop] at h; simp only [h x (by simp [Op.operands])]
  | nilCheck x => rw [hop] at h; simp only [h x (by simp [Op.operands])]
  | fieldAddr t x f => rw [hop] at h; simp only [h x (by simp [Op.operands])]
  | extract x n => rw [hop] at h; simp only [h x (by simp [Op.operands])]
  | convert s d x => rw [hop] at h; simp only [h x (by simp [Op.operands])]
  | _ => rfl
end
theorem befores_len : ∀ (l : List Oper) (acc : List Nat), (befores l acc).length = acc.length + l.length
  | [], acc => rfl
  | o :: r, acc => by rw [befores, befores_len r]; simp; omega
theorem befores_old : ∀ (l : List Oper) (acc : List Nat) (i : Nat), i < acc.length → (befores l acc)[i]? = acc[i]?
  | [], acc, i, h => rfl
  | o :: r, acc, i, h => by rw [befores, befores_old r _ i (by simp; omega), List.getElem?_append_left h]
def edgeBits (acc : List Nat) (o : Oper) : Nat := o.after.toList.foldl (fun s e => match Region.binds .any e with
    | true => s ||| (1 <<< e.on) ||| acc.getD e.on 0
    | false => s) 0
theorem fold_bits (acc : List Nat) (j : Nat) : ∀ (es : List Edge) (s : Nat), (es.foldl (fun s e => match Region.binds .any e with
    | true => s ||| (1 <<< e.on) ||| acc.getD e.on 0
    | false => s) s).testBit j = true → s.testBit j = true ∨ ∃ e ∈ es, Region.binds .any e = true ∧ (e.on = j ∨ (acc.getD e.on 0).testBit j = true)
  | [], s, h => .inl h
  | e :: es, s, h => by
    rw [List.foldl_cons] at h
    rcases fold_bits acc j es _ h with h | ⟨e', he, h1, h2⟩
    · split at h
      · rename_i hb
        rw [Nat.testBit_or, Nat.testBit_or, Bool.or_eq_true, Bool.or_eq_true] at h
        rcases h with (h | h) | h
        · exact .inl h
        · refine .inr ⟨e, by simp, hb, .inl ?_⟩
          rw [Nat.one_shiftLeft, Nat.testBit_two_pow] at h
          simpa using h
        · exact .inr ⟨e, by simp, hb, .inr h⟩
      · exact .inl h
    · exact .inr ⟨e', by simp [he], h1, h2⟩
theorem befores_at : ∀ (l : List Oper) (acc : List Nat) (i : Nat) (o : Oper), l[i]? = some o → (befores l acc)[acc.length + i]? = some (edgeBits ((befores l acc).take (acc.length + i)) o)
  | [], acc, i, o, h => by simp at h
  | x :: r, acc, 0, o, h => by
    simp at h; subst h
    rw [befores, Nat.add_zero, befores_old r _ acc.length (by simp)]
    have ht : (befores r (acc ++ [edgeBits acc x])).take acc.length = acc := by
      refine List.ext_getElem? fun k => ?_
      rw [List.getElem?_take]
      split
      · rw [befores_old r _ k (by simp; omega), List.getElem?_append_left (by omega)]
      · rw [List.getElem?_eq_none (by omega)]
    show (acc ++ [edgeBits acc x])[acc.length]? = _
    simp only [List.getElem?_concat_length, Option.some.injEq]
    show _ = edgeBits ((befores r (acc ++ [edgeBits acc x])).take acc.length) x
    rw [ht]
  | x :: r, acc, i + 1, o, h => by
    have := befores_at r (acc ++ [edgeBits acc x]) i o (by simpa using h)
    rw [befores]
    simp only [List.length_append, List.length_cons, List.length_nil] at this
    rw [show acc.length + (i + 1) = acc.length + (0 + 1) + i by omega]
    exact this
theorem before_edge {l : List Oper} {i j : Nat} {o : Oper} (h : l[i]? = some o) (hb : ((befores l []).getD i 0).testBit j = true) : ∃ e ∈ o.after.toList, Region.binds .any e = true ∧ (e.on = j ∨ (e.on < i ∧ ((befores l []).getD e.on 0).testBit j = true)) := by
  have h1 := befores_at l [] i o h
  simp only [List.length_nil, Nat.zero_add] at h1
  rw [List.getD_eq_getElem?_getD, h1, Option.getD_some] at hb
  rcases fold_bits _ j o.after.toList 0 hb with h2 | ⟨e, he, h2, h3⟩
  · simp at h2
  · refine ⟨e, he, h2, h3.imp id fun h3 => ?_⟩
    rw [List.getD_eq_getElem?_getD, List.getElem?_take] at h3
    split at h3
    · rename_i hlt; exact ⟨hlt, by rw [List.getD_eq_getElem?_getD]; exact h3⟩
    · simp at h3
def Down (l : List Oper) (L : Array Bool) : Prop := ∀ (i : Nat) o, l[i]? = some o → L.getD i false = true → ∀ e ∈ o.after.toList, Region.binds .any e = true → L.getD e.on false = true
theorem before_listed {l : List Oper} {L : Array Bool} (hd : Down l L) : ∀ (i : Nat) (o : Oper), l[i]? = some o → (∀ e ∈ o.after.toList, Region.binds .any e = true → L.getD e.on false = true) → ∀ j, ((befores l []).getD i 0).testBit j = true → L.getD j false = true := by
  intro i
  induction i using Nat.strongRecOn with
  | _ i ih =>
    intro o ho hr j hj
    obtain ⟨e, he, hb, h⟩ := before_edge ho hj
    have hl := hr e he hb
    rcases h with rfl | ⟨hlt, h⟩
    · exact hl
    · have hi : i < l.length := (List.getElem?_eq_some_iff.1 ho).1
      have ho' : l[e.on]? = some (l[e.on]'(by omega)) := List.getElem?_eq_getElem (by omega)
      exact ih e.on hlt _ ho' (hd e.on _ ho' hl) j h
theorem quietN_spec (bs : List Nat) : ∀ n, quietN bs n ≤ n ∧ ∀ j, quietN bs n ≤ j → j < n → bs.getD j 0 = 2 ^ j - 1
  | 0 => ⟨Nat.le_refl _, fun j _ h => absurd h (Nat.not_lt_zero _)⟩
  | n + 1 => by
    obtain ⟨h1, h2⟩ := quietN_spec bs n
    rw [quietN]
    split
    · rename_i hb
      refine ⟨by omega, fun j hj hn => ?_⟩
      by_cases e : j = n
      · subst e; exact Nat.eq_of_beq_eq_true hb
      · exact h2 j hj (by omega)
    · exact ⟨Nat.le_refl _, fun j hj hn => by omega⟩
theorem ready_iff {l : List Oper} {L : Array Bool} {i : Nat} : i ∈ Region.ready .any l.toArray L ↔ ∃ o, l[i]? = some o ∧ L.getD i true = false ∧ ∀ e ∈ o.after.toList, Region.binds .any e = true → L.getD e.on false = true := by
  unfold Region.ready
  simp only [List.mem_filter, List.mem_range, Bool.and_eq_true, Bool.not_eq_true', List.size_toArray, List.getElem?_toArray]
  constructor
  · rintro ⟨h1, h2, h3⟩
    refine ⟨l[i], List.getElem?_eq_getElem h1, h2, fun e he hb => ?_⟩
    rw [List.getElem?_eq_getElem h1] at h3
    simp only [Option.map_some, Option.getD_some, Array.all_eq_true'] at h3
    have := h3 e (by simpa using he)
    rw [hb] at this
    simpa using this
  · rintro ⟨o, h1, h2, h3⟩
    refine ⟨(List.getElem?_eq_some_iff.1 h1).1, h2, ?_⟩
    rw [h1]
    simp only [Option.map_some, Option.getD_some, Array.all_eq_true']
    intro e he
    cases hb : Region.binds .any e
    · rfl
    · simpa using h3 e (by simpa using he) hb
end Go.Proofs.YtcfeihimmboghaaGreatDoor.VI

end
