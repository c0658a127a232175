/- A part of the proof that the law FnExactNewest answers true at every input that its row speaks of. Conditions: the row's own. -/
import Derived.Test.YteldcmniknocpaaGreatDoorMFnExactNewest2
import Derived.Test.YteldcmniknocpaaGreatDoorMFnExactNewest1
import Derived.Test.YteldcmniknocpaaGreatDoorVMore
import Derived.KernelRfl
import Derived.Laws.Strings
import Derived.Test.YteldcmniknocpaaGreatDoorProg
import Derived.Test.YteldcmniknocpaaGreatDoorKFnExactNewest0
section
namespace Go.Proofs.YteldcmniknocpaaGreatDoor.VI
open Go Go.RowKit
set_option linter.unusedVariables false
set_option linter.unusedSimpArgs false
section
variable {P : Program} {NG : Nat} {GW : World → Prop} {io : List Nat} {w0 : World} {pd0 : Nat → Nat → Prop} {G : Gh} {env : Env} {a : Act} {w : World} {ti : TypeId → Option TI}
theorem ioB_none : ∀ (vs : List VV) (ms : List Value), (∀ v ∈ vs, ∀ cs, v ≠ .bx cs) → ioB vs ms = []
  | [], ms, _ => by cases ms <;> rfl
  | v :: vs, [], _ => by cases v <;> rfl
  | v :: vs, m :: ms, h => by
    have := h v (by simp)
    cases v <;> first
      | (simp only [ioB]; exact ioB_none vs ms (fun x hx => h x (by simp [hx])))
      | exact absurd rfl (this _)
theorem outs_none : ∀ (vs : List VV) (i : Nat) (os : List VV), outs env i vs = some os → os = [] ∧ ∀ v ∈ vs, ∀ cs, v ≠ .bx cs
  | [], i, os, h => by simp [outs] at h; exact ⟨h, by simp⟩
  | v :: vs, i, os, h => by
    cases v <;> simp only [outs] at h <;> first
      | (cases h; done)
      | (obtain ⟨h1, h2⟩ := outs_none vs _ os h
         refine ⟨h1, fun u hu cs => ?_⟩
         rcases List.mem_cons.1 hu with rfl | hu
         · exact fun e => VV.noConfusion e
         · exact h2 u hu cs)
def endPd (G : Gh) (env : Env) (g k : Nat) : Prop := G.pd g k ∨ ∃ t e z xs, get env t = .mr e z xs ∧ g = G.bl t ∧ k < xs.length * z
theorem made_of (hs : Sim NG GW io w0 pd0 G env a w) {t : Nat} {e : TypeId} {z : Nat} {xs : List VV} (h : get env t = .mr e z xs) : MadeR G w t e z xs (a.eval (.tmp t)) := by have := get_slot hs t; rw [h] at this; exact this
theorem end_dr {v : VV} {m : Value} (h : DR G.pd w v m) : DR (endPd G env) w v m := h.keep fun _ _ _ h1 h2 => ⟨.inl h1, h2⟩
theorem end_drs {v : List VV} {m : List Value} (h : DRs G.pd w v m) : DRs (endPd G env) w v m := h.keep fun _ _ _ h1 h2 => ⟨.inl h1, h2⟩
def rvSem (tmps : Array Value) (rv : ResultVar) : Sem Value := match rv with
  | .tmp t => pure (tmps.getD t undef)
  | .cell b t => do loadVar t (← asAddr (tmps.getD b undef))
theorem made_res (hs : Sim NG GW io w0 pd0 G env a w) {t : Nat} {e : TypeId} {z : Nat} {xs : List VV} {m : Value} (hsl : MadeR G w t e z xs m) (hg : get env t = .mr e z xs) : ResR w0.heap.size (endPd G env) w (.ow e z xs) m := by
  obtain ⟨ms, hm, hh, ho, hnp, hr, hz, h1, hl, h0, hB⟩ := hsl
  have hml : ms.length = xs.length * z := by rw [← hr.length, flat_len hz]
  refine ⟨ms, ?_, end_drs hr, hz, h1, hl, fun g hg' k => ?_⟩
  · rw [hm]
    exact ⟨hml, .inr ⟨G.bl t, xs.length, ms.toArray, rfl, by rw [← hs.B]; exact hB, hh, Nat.le_refl _, hl, by rw [List.size_toArray]; exact hml, by rw [← hml]; exact List.take_length⟩⟩
  · rw [hm] at hg'
    simp [Value.ownBlock] at hg'
    subst hg'
    refine ⟨fun h => h.elim (fun h => absurd h (hnp k)) fun ⟨t', e', z', xs', h1, h2, h3⟩ => ?_, fun h => .inr ⟨t, e, z, xs, hg, rfl, h⟩⟩
    obtain ⟨_, _, _, ho', _⟩ := made_of hs h1
    rw [← h2, ho] at ho'
    have : t = t' := congrArg Prod.fst (Option.some.inj ho')
    subst this
    rw [hg] at h1; cases h1; exact h3
theorem resv_ok (hti : TIok P ti) (hs : Sim NG GW io w0 pd0 G env a w) {rv : ResultVar} {v : VV} (h : resv ti env rv = some v) :
    ∃ m, (rvSem a.tmps rv).run P w = .ok m w ∧ ResR w0.heap.size (endPd G env) w v m := by
  cases rv with
  | tmp t =>
    refine ⟨_, rfl, ?_⟩
    have hsl := get_slot hs t
    simp only [resv] at h
    change ResR _ _ _ _ (a.eval (.tmp t))
    cases hg : get env t <;> rw [hg] at h hsl <;> simp only [Option.some.injEq, reduceCtorEq] at h <;> (try subst h) <;> first
      | exact end_dr hsl
      | exact hsl
      | skip
    · rename_i u n
      split at h
      · rename_i e z xs hu
        obtain ⟨hb, h⟩ := must_some h
        cases h
        have hn := Nat.eq_of_beq_eq_true hb
        have hM := made_of hs hu
        have he : a.eval (.tmp t) = a.eval (.tmp u) := by
          obtain ⟨ms, hm, _⟩ := hM
          have h2 : a.eval (.tmp t) = .slice (some ⟨G.bl u, 0, none⟩) n n := hsl
          rw [hm, h2, hn]
        rw [he]
        exact made_res hs hM hu
      · cases h
    · rename_i e z xs
      obtain ⟨ms, ho, hr, hz, h1, hl, hgo⟩ := (hsl : OwnR G w (t, 0) e z xs _)
      rw [hs.B] at ho
      refine ⟨ms, ho, end_drs hr, hz, h1, hl, fun g hg' k => ?_⟩
      rw [← (hgo g hg').2 k]
      refine ⟨fun h => h.elim id fun ⟨t', e', z', xs', h1, h2, _⟩ => ?_, .inl⟩
      obtain ⟨_, _, _, ho', _⟩ := made_of hs h1
      rw [← h2, (hgo g hg').1] at ho'
      have : t = t' := congrArg Prod.fst (Option.some.inj ho')
      subst this
      rw [hg] at h1; cases h1
    · rename_i e z xs
      exact made_res hs hsl hg
  | cell b t =>
    simp only [resv] at h
    split at h
    case h_2 => cases h
    rename_i cs i hcs hi
    have hsl := get_slot hs b
    rw [hcs] at hsl
    have hbox : BoxR G w b cs (a.eval (.tmp b)) := hsl
    obtain ⟨n, hrun, hd⟩ := vload_box hti hi h hbox
    obtain ⟨ms, ty, hpm, _⟩ := hbox
    have he : a.tmps.getD b undef = .pointer (some ⟨G.bl b, 0, none⟩) := hpm
    refine ⟨n, ?_, ?_⟩
    · simp only [rvSem, he, asAddr]
      simp only [Instr.loadAt, Instr.sureAddr] at hrun
      simpa using hrun
    · have := end_dr (env := env) hd
      cases v <;> first
        | exact this
        | (cases hd; done)
theorem ResR.dv {B : Nat} {pd : Nat → Nat → Prop} {v : VV} {m : Value} (h : ResR B pd w v m) : DR pd w v.dv m := by
  cases v <;> first
    | (have h' : DR pd w _ m := h; rw [← h'.dv] at h'; exact h')
    | (cases h; exact .sl0 _ _)
    | skip
  rename_i e z xs
  obtain ⟨ms, ho, hr, hz, h1, hl, hpd⟩ := h
  rcases ho.2 with ⟨rfl, hn⟩ | ⟨g, cap, cur, rfl, h0, hh, hnc, hcm, hcs, htk⟩
  · obtain rfl : xs = [] := List.eq_nil_of_length_eq_zero hn
    exact .sl0 _ _
  · refine .sl xs g 0 cap z ms hnc hl hz hr h1 fun k u hu => ?_
    have hk : k < xs.length * z := by rw [← ho.1]; exact (List.getElem?_eq_some_iff.1 hu).1
    refine ⟨?_, by rw [Nat.zero_add]; exact (hpd g rfl k).2 hk⟩
    have h2 := ho.cells (g := g) rfl k u hu
    rw [Addr.add_lit] at h2; exact h2
theorem resvs_ok (hti : TIok P ti) (hs : Sim NG GW io w0 pd0 G env a w) : ∀ (rs : List ResultVar) (vs : List VV), resvs ti env rs = some vs →
    ∃ ms : List Value, (rs.mapM (rvSem a.tmps)).run P w = .ok ms w ∧ DRs (endPd G env) w vs ms
  | [], vs, h => by simp [resvs] at h; subst h; exact ⟨[], rfl, .nil⟩
  | r :: rs, vs, h => by
    simp only [resvs] at h
    split at h
    case h_2 => cases h
    rename_i v vs' hv hvs
    cases h
    obtain ⟨m, h1, h2⟩ := resv_ok (P := P) hti hs hv
    obtain ⟨ms, h3, h4⟩ := resvs_ok hti hs rs vs' hvs
    refine ⟨m :: ms, ?_, .cons _ _ _ _ h2.dv h4⟩
    rw [List.mapM_cons]
    simp only [Sem.run_bind]
    rw [h1]
    simp only [Result.andThen_ok]
    rw [h3]
    rfl
theorem results_run (fn : Func) (tmps : Array Value) {ms : List Value} (h : (fn.results.toList.mapM (rvSem tmps)).run P w = .ok ms w) :
    (results fn tmps).run P w = .ok (if h : ms.length = 1 then ms[0] else .tuple ms.toArray) w := by
  have e : results fn tmps = (do
      let vs ← fn.results.mapM (rvSem tmps)
      pure (if h : vs.size = 1 then vs[0] else .tuple vs)) := by
    unfold results
    congr 2
  rw [e, Array.mapM_eq_mapM_toList]
  simp only [Sem.run_bind, Sem.run_map]
  rw [h]
  simp
theorem fixnl_ok {B : Nat} {pd : Nat → Nat → Prop} {fn : Func} {v : VV} {m : Value} (h : ResR B pd w v m) : ResR B pd w (fixnl ti fn v) m := by
  cases v <;> first
    | exact h
    | skip
  have hm : m = .slice none 0 0 := h
  subst hm
  unfold fixnl
  simp only
  split
  · split
    · split
      · split
        · exact ⟨[], World.ownsRow_nil w _ _ _, .nil, fun x h => (by cases h), fun u h => (by cases h), Nat.zero_le _, fun g h => (by simp [Value.ownBlock] at h)⟩
        · rfl
      · rfl
    · rfl
  · rfl
theorem fin_ok (hti : TIok P ti) (hs : Sim NG GW io w0 pd0 G env a w) {fn : Func} {args : List VV} {r : VV × List VV} (h : fin ti fn args env = some r) :
    (∀ v ∈ args, ∀ cs, v ≠ .bx cs) ∧ r.2 = [] ∧ ∃ m, (results fn a.tmps).run P w = .ok m w ∧ ResR w0.heap.size (endPd G env) w r.1 m := by
  unfold fin at h
  split at h
  case h_2 => cases h
  rename_i os ho
  obtain ⟨rfl, hno⟩ := outs_none args 0 os ho
  refine ⟨hno, ?_⟩
  split at h
  · rename_i rv hrv
    split at h
    case h_2 => cases h
    rename_i v hv
    cases h
    obtain ⟨m, h1, h2⟩ := resv_ok (P := P) hti hs hv
    refine ⟨rfl, m, ?_, fixnl_ok h2⟩
    have := results_run (P := P) (w := w) fn a.tmps (ms := [m]) (by
      rw [hrv, List.mapM_cons, List.mapM_nil]
      simp only [Sem.run_bind]
      rw [h1]
      rfl)
    simpa using this
  · rename_i rs hrs
    split at h
    case h_2 => cases h
    rename_i vs hvs
    cases h
    obtain ⟨ms, h1, h2⟩ := resvs_ok (P := P) hti hs fn.results.toList vs hvs
    refine ⟨rfl, .tuple ms.toArray, ?_, .tu _ _ h2⟩
    have := results_run (P := P) (w := w) fn a.tmps h1
    have hl : ms.length ≠ 1 := by
      have hl2 := h2.length
      intro e
      have hl3 : fn.results.toList.length = vs.length := by
        have : ∀ (l : List ResultVar) (q : List VV), resvs ti env l = some q → l.length = q.length := by
          intro l
          induction l with
          | nil => intro q hq; simp [resvs] at hq; subst hq; rfl
          | cons x l ih => intro q hq; simp only [resvs] at hq; split at hq <;> cases hq; simp [ih _ (by assumption)]
        exact this _ _ hvs
      match hq : fn.results.toList with
      | [x] => exact hrs x hq
      | [] => rw [hq] at hl3; simp at hl3; omega
      | _ :: _ :: _ => rw [hq] at hl3; simp at hl3; omega
    rw [dif_neg hl] at this
    exact this
def GivenOk (P : Program) (NG : Nat) (GW : World → Prop) (Gv : FuncId → Option (List VV → Option (VV × List VV))) : Prop := ∀ f g vs r, Gv f = some g → g vs = some r → CallOk1 P NG GW f vs r
theorem callv_ok (hti : TIok P ti) (gws : ∀ w w', GW w → Below NG w w' → GW w') {keep : FuncId → Nat → Option (List Nat)} {Gv : FuncId → Option (List VV → Option (VV × List VV))} (hG : GivenOk P NG GW Gv) (hA : ∀ C : Cx, C.ti = ti → CallOk P NG GW C.call → AnyOk P NG GW C) : ∀ m, CallOk P NG GW (callv P ti keep Gv m)
  | 0 => fun f vs r _ h => by simp [callv] at h
  | m + 1 => fun f vs r hok h => by
    have ih := callv_ok hti gws hG hA (keep := keep) m
    rw [callv] at h
    split at h
    · rename_i g hg; exact hG f g vs r hg h
    split at h
    case h_2 => cases h
    rename_i fn hfn
    split at h
    case h_2 => cases h
    rename_i c hname' hb
    let C : Cx := ⟨ti, callv P ti keep Gv m, m⟩
    refine ⟨⟨fn, hfn, (Bool.or_eq_false_iff.1 hname').1, by rw [hb]; rfl⟩, fun w ms H hgw hng hl hargs hnd hio hpv hpd => ?_⟩
    rw [Bool.or_eq_false_iff] at hname'
    have hname := hname'.1
    have hbx : ∀ v ∈ vs, ∀ cs, v ≠ .bx cs := fun v hv cs e => by
      have := List.any_eq_false.1 hname'.2 v hv
      subst e; simp [isBx] at this
    have hioB := ioB_none vs ms hbx
    rw [hioB]
    let G0 : Gh := ⟨H.pd, H.pv, fun _ => 0, fun _ => none, w.heap.size⟩
    have hlen : (start fn vs).length = (ms.toArray ++ Array.replicate (fn.ntmps - ms.toArray.size) undef).size := by
      simp [start, hl]
    have hs0 : Sim NG GW [] w H.pd G0 (start fn vs) { tmps := ms.toArray ++ Array.replicate (fn.ntmps - ms.toArray.size) undef, defers := [] } w := by
      refine { size := hlen, slot := ?_, df := rfl, fr := Fr.refl _ _ _, gw := hgw, ng := hng, ngio := (by simp), own := (fun g p h => by cases h), ownp := (fun g k h => absurd rfl h), dv := hpd, B := rfl, old := (fun g k _ h => h) }
      intro t v u hv hu
      by_cases ht : t < vs.length
      · rw [start, List.getElem?_append_left ht] at hv
        rw [Array.getElem?_append_left (by simpa [← hl] using ht)] at hu
        have hA := hargs t v u hv (by simpa using hu)
        cases v <;> first
          | exact absurd rfl (hbx _ (List.mem_of_getElem? hv) _)
          | exact hA.elim
          | exact hA
          | skip
        obtain ⟨us, e1, e2, e3⟩ := hA
        refine ⟨us, e1, e2, fun i x y hx hy => ?_⟩
        obtain ⟨cs, rfl, hV⟩ := e3 i x y hx hy
        exact hV
      · rw [start, List.getElem?_append_right (by omega)] at hv
        have := List.eq_of_mem_replicate (List.mem_of_getElem? hv)
        subst this
        exact SlotR.un
    refine calls_of_wp hfn hb (run_sound (r := r) (C := C) hti gws ih (hA C rfl ih) (keep f) c 0 G0 _ _ w _ _ hs0 h fun e G' env' a' w' hs' h' => ?_)
    have key : fin ti fn vs env' = some r → a'.defers = [] ∧ ∃ v, (results fn a'.tmps).run P w' = .ok v w' ∧ ∃ m, (Ending.returned v) = .returned m ∧ Post H w [] r m w' := by
      intro hf
      obtain ⟨_, h2, m', h3, h4⟩ := fin_ok (P := P) hti hs' hf
      refine ⟨hs'.df, m', h3, m', rfl, hs'.fr, endPd G' env', fun g k hg hk => ?_, h4, by rw [h2]; rfl, fun j g v hj _ => by simp at hj⟩
      rcases hk with hk | ⟨t, e, z, xs, h5, h6, _⟩
      · exact hs'.old g k hg hk
      · obtain ⟨_, _, _, _, _, _, _, _, _, _, hB⟩ := made_of hs' h5
        rw [hs'.B] at hB
        omega
    cases e with
    | normal => exact key h'
    | ret => exact key h'
    | _ => cases h'
end
section
variable {R : Type} (C : Cx)
def vqu (o : Oper) (rd : Operand → VV) (gb : Nat → VV) (val : VV → Option R) : Option R := match o.op with
  | .move x => val (rd x)
  | .pick c a b => match rd c with
    | .s (.bool t) => bite t (val (rd a)) (val (rd b))
    | _ => none
  | .unOp op _ x => match vun op (rd x) with
    | some v => val (.s v)
    | none => none
  | .binOp op t x y _ => match vbin (isBool C t) op (rd x) (rd y) with
    | some (b, v) => must b (val (.s v))
    | none => none
  | .load ty x => match C.ti ty with
    | none => none
    | some i => match rd x with
      | .vw cs => match vload i cs 0 with
        | some v => val v
        | none => none
      | .pt t off => match gb t with
        | .bx cs => (match vload i cs off with
            | some v => val v
            | none => none)
        | _ => none
      | _ => none
  | .nilCheck x => match rd x with
    | .pt t off => val (.pt t off)
    | _ => none
  | .fieldAddr st x f => match C.ti st with
    | some i => match i.k with
      | .agg fs => match fs[f]? with
        | some (off, sz) => if sz = 0 then none else match rd x with
          | .pt t o => val (.pt t (o + off))
          | .vw cs => val (.vw (cs.drop off))
          | _ => none
        | none => none
      | _ => none
    | none => none
  | .indexAddr t x ix => match C.ti t with
    | some i => match i.k with
      | .slice e => match C.ti e with
        | some ie => match rd x, rd ix with
          | .sl xs, .s (.int _ j) => bite (decide (0 ≤ j) && decide (j < (xs.length : Int))) (vget xs j fun v => if v.cells.length = ie.sz then val (.vw v.cells) else none) none
          | .sr u n, .s (.int _ j) => bite (decide (0 ≤ j) && decide (j < (n : Int))) (val (.pe u j ie.sz)) none
          | _, _ => none
        | none => none
      | _ => none
    | none => none
  | .index t x ix => match C.ti t with
    | some i => match i.k, rd x, rd ix with
      | .str, .s (.string s), .s (.int _ j) => bite (decide (0 ≤ j) && decide (j < (s.size : Int))) (val (.byte (bt s j))) none
      | _, _, _ => none
    | none => none
  | .extract x n => match rd x with
    | .tu vs => match vs[n]? with
      | some v => val v
      | none => none
    | _ => none
  | .build t parts => match C.ti t with
    | some i => match i.k with
      | .agg _ => (match fillv i (i.zero.map liftc) (parts.toList.map fun p => (p.1, rd p.2)) with
        | some cs => val (.ag cs)
        | none => none)
      | _ => none
    | none => none
  | .buildSlice t len parts => match C.ti t with
    | some i => match i.k with
      | .slice e => match C.ti e with
        | some ie => if 0 < ie.sz ∧ len * ie.sz ≤ 16777216 then (match fills ie.sz (List.replicate len (zeroV ie)) (parts.toList.map fun p => (p.1, rd p.2)) with
          | some xs => val (.ow e ie.sz xs)
          | none => none) else none
        | none => none
      | _ => none
    | none => none
  | .makeFunc (.func f) first cap => if first.size = 0 then (match (cap.toList.map rd).all isCap with
    | true => val (.cl f (cap.toList.map rd))
    | false => none) else none
  | .convert src dst x => match C.ti src, C.ti dst with
    | some i, some j => match i.k, j.k, rd x with
      | .int _, .int k, .s (.int _ n) => val (.s (.int k (wr k n)))
      | .str, .str, .s (.string b) => val (.s (.string b))
      | .slice e, .str, .sl xs => (match C.ti e with
        | some ie => (match ie.k with
          | .int .u8 => obind (byL xs) fun l => val (.str (strOfNums l))
          | _ => none)
        | none => none)
      | _, _, _ => none
    | _, _ => none
  | .slice t x lo hi mx => match mx, C.ti t with
    | none, some i => match i.k, rd x with
      | .str, .s (.string s) => (match vbnd (lo.map rd), vbnd (hi.map rd) with
        | some l, some h => bite (bndOk s.size (l.getD 0) (h.getD s.size)) (val (.str (s.extract (l.getD 0).toNat (h.getD s.size).toNat))) none
        | _, _ => none)
      | .slice e, .sl xs => (match C.ti e, vbnd (lo.map rd), vbnd (hi.map rd) with
        | some ie, some l, some h => bite (bndOk xs.length (l.getD 0) (h.getD xs.length) && xs.all fun v => Nat.beq v.cells.length ie.sz) (val (.sl ((xs.take (h.getD xs.length).toNat).drop (l.getD 0).toNat))) none
        | _, _, _ => none)
      | _, _ => none
    | _, _ => none
  | .call c => match c.callee with
    | .builtin .len => match c.args.toList, c.argTypes.toList with
      | [x], [t] => match C.ti t with
        | some i => match i.k, rd x with
          | .str, .s (.string b) => val (.int b.size)
          | .slice _, .sl xs => val (.int xs.length)
          | .slice _, .sr _ n => val (.int n)
          | _, _ => none
        | none => none
      | _, _ => none
    | .builtin .min => match c.args.toList with
      | [x, y] => match rd x, rd y with
        | .s (.int k n), .s (.int k' n') => val (.s (.int k (if n' < n then n' else n)))
        | _, _ => none
      | _ => none
    | .value x => match rd x with
      | .cl f cap => match (c.args.toList.map rd).all drOk && drOk (.cl f cap) && (c.args.toList.map rd ++ cap).all argOk with
        | true => obind (C.call f (c.args.toList.map rd ++ cap)) fun r => (match resOk r.1 with
          | true => val r.1
          | false => none)
        | false => none
      | _ => none
    | _ => none
  | _ => none
end
section
variable {R : Type} {C : Cx} {ops : List Oper} {l : List Nat} {o : Oper} {env : Env} {K : Env → Option R}
theorem arg_dr {x : Operand} (h : drOk (rdv env x) = true) : argOf env x = rdv env x ∧ ioOf env x = [] := by
  unfold argOf ioOf
  generalize rdv env x = v at h
  cases v <;> first
    | (exact ⟨rfl, rfl⟩)
    | (simp [drOk] at h; done)
    | skip
  rename_i f cap
  refine ⟨?_, rfl⟩
  show VV.cl f (cap.map (capv env)) = VV.cl f cap
  simp only [drOk] at h
  congr 1
  conv => rhs; rw [← List.map_id cap]
  refine List.map_congr_left fun v hv => ?_
  rw [List.all_eq_true] at h
  have := h v hv
  cases v <;> simp at this
  rfl
theorem args_dr : ∀ {xs : List Operand}, (xs.map (rdv env)).all drOk = true → xs.map (argOf env) = xs.map (rdv env) ∧ xs.flatMap (ioOf env) = []
  | [], _ => ⟨rfl, rfl⟩
  | x :: r, h => by
    simp only [List.map_cons, List.all_cons, Bool.and_eq_true] at h
    obtain ⟨h1, h2⟩ := arg_dr h.1
    obtain ⟨h3, h4⟩ := args_dr h.2
    exact ⟨by rw [List.map_cons, List.map_cons, h1, h3], by rw [List.flatMap_cons, h2, h4]; rfl⟩
theorem vop_quiet (hq : quietB C ops o = true) (ha : ∀ t, o.op ≠ .alloc t) : vop C ops (some l) o env K = vqu C o (rdv env) (getB (some l) env) fun v => vput (some l) o.dst v env K := by
  cases hop : o.op with
  | move x =>
    simp only [quietB, hop] at hq
    have hfd : fd ops o.dst = false := by simpa using hq
    simp only [vop, vqu, hop, hfd, vmove]
    split
    · rename_i t
      split <;> rename_i hg <;> simp [rdv, hg, view]
    · rfl
    · rfl
  | load ty x =>
    simp only [quietB, hop] at hq
    have hfd : fd ops o.dst = false := by simpa using hq
    simp only [vop, vqu, hop, hfd]
    try rfl
  | alloc t => exact absurd hop (ha t)
  | buildSlice t len parts => simp only [vop, vqu, hop, frcL_eq]; try rfl
  | makeFunc f x y => cases f <;> simp only [vop, vqu, hop] <;> try rfl
  | call c =>
    cases hc : c.callee with
    | value x =>
      simp only [quietB, hop, hc] at hq
      simp only [vop, vqu, hop, hc]
      cases hx : rdv env x <;> try rfl
      rename_i f cap
      simp only [drArgs, List.all_cons, List.all_nil, Bool.and_true]
      cases hd : (c.args.toList.map (rdv env)).all drOk && drOk (.cl f cap)
      · rfl
      · rw [Bool.and_eq_true] at hd
        obtain ⟨e1, e2⟩ := args_dr hd.1
        have e3 : cap.map (capv env) = cap := by
          conv => rhs; rw [← List.map_id cap]
          refine List.map_congr_left fun v hv => ?_
          have := hd.2
          simp only [drOk, List.all_eq_true] at this
          have := this v hv
          cases v <;> simp at this
          rfl
        simp only [argv_eq, frcL_eq, capK_eq, e1, e2, e3, vcall, nodupB, List.isEmpty_nil, Bool.true_or, Bool.and_true, Bool.true_and, backsK]
        try rfl
    | invoke x m => simp only [vop, vqu, hop, hc]
    | builtin b => cases b <;> simp [quietB, hop, hc] at hq <;> simp only [vop, vqu, hop, hc] <;> try rfl
  | _ => first
    | (simp only [vop, vqu, hop]; done)
    | (simp only [vop, vqu, hop]; rfl)
    | (simp [quietB, hop] at hq; done)
theorem vqu_val {rd : Operand → VV} {gb : Nat → VV} {val : VV → Option R} {r : R} (h : vqu C o rd gb val = some r) : ∃ v, val v = some r ∧ ∀ {R' : Type} (val' : VV → Option R'), vqu C o rd gb val' = val' v := by
  unfold vqu at h ⊢
  cases hop : o.op with
  | move x => rw [hop] at h; exact ⟨_, h, fun {R'} _ => rfl⟩
  | pick c x y =>
    rw [hop] at h
    simp only at h ⊢
    split at h
    · rename_i t ht
      rcases bite_some h with ⟨rfl, h⟩ | ⟨rfl, h⟩ <;> exact ⟨_, h, fun {R'} _ => rfl⟩
    · cases h
  | binOp op t x y u =>
    rw [hop] at h
    simp only at h ⊢
    split at h
    · rename_i b v hv
      obtain ⟨hb, h⟩ := must_some h
      subst hb
      exact ⟨_, h, fun {R'} _ => rfl⟩
    · cases h
  | indexAddr t x ix =>
    rw [hop] at h
    simp only at h ⊢
    split at h
    case h_2 => cases h
    split at h
    case h_2 => cases h
    split at h
    case h_2 => cases h
    split at h
    · obtain ⟨hb, h⟩ := bite_none h
      obtain ⟨v, hv, h⟩ := vget_some h
      split at h
      · rename_i hl
        refine ⟨_, h, fun {R'} val' => ?_⟩
        simp only [hb, bite, vget, hv, hl, if_pos]
      · cases h
    · obtain ⟨hb, h⟩ := bite_none h
      exact ⟨_, h, fun {R'} val' => by simp only [hb, bite]⟩
    · cases h
  | index t x ix =>
    rw [hop] at h
    simp only at h ⊢
    split at h
    case h_2 => cases h
    split at h
    · obtain ⟨hb, h⟩ := bite_none h
      exact ⟨_, h, fun {R'} val' => by simp only [hb, bite]⟩
    · cases h
  | slice t x lo hi mx =>
    rw [hop] at h
    simp only at h ⊢
    split at h
    case h_2 => cases h
    split at h
    · split at h
      · obtain ⟨hb, h⟩ := bite_none h
        exact ⟨_, h, fun {R'} val' => by simp only [hb, bite]⟩
      · cases h
    · split at h
      · obtain ⟨hb, h⟩ := bite_none h
        exact ⟨_, h, fun {R'} val' => by simp only [hb, bite]⟩
      · cases h
    · cases h
  | makeFunc f x y =>
    rw [hop] at h
    cases f <;> simp only [reduceCtorEq] at h ⊢
    split at h
    · rename_i h0
      split at h
      · rename_i h1; exact ⟨_, h, fun {R'} val' => by simp only [h0, if_pos]⟩
      · cases h
    · cases h
  | call c =>
    rw [hop] at h
    simp only at h ⊢
    cases hc : c.callee with
    | value x =>
      rw [hc] at h
      simp only at h ⊢
      split at h
      case h_2 => cases h
      split at h
      case h_2 => cases h
      rename_i hk
      unfold obind at h ⊢
      split at h
      · rename_i q hq
        simp only at h ⊢
        split at h
        · rename_i hr; exact ⟨_, h, fun {R'} val' => by simp only [hr]⟩
        · cases h
      · cases h
    | invoke x m => rw [hc] at h; cases h
    | builtin b =>
      rw [hc] at h
      cases b <;> simp only [reduceCtorEq] at h ⊢
      · split at h
        case h_2 => cases h
        split at h
        case h_2 => cases h
        split at h <;> first
          | (cases h; done)
          | exact ⟨_, h, fun {R'} _ => rfl⟩
      · split at h
        case h_2 => cases h
        split at h
        case h_2 => cases h
        exact ⟨_, h, fun {R'} _ => rfl⟩
  | _ =>
    rw [hop] at h
    simp only [reduceCtorEq] at h ⊢ <;> (repeat' (split at h)) <;> first
      | (cases h; done)
      | (obtain ⟨l, hl, h2⟩ := obind_some h; refine ⟨_, h2, fun {R'} val' => ?_⟩; rw [hl]; first | rfl | (simp [*, obind]; done))
      | (refine ⟨_, h, fun {R'} val' => ?_⟩; first | rfl | (simp only [*]; done) | (simp [*]; done))
theorem map_rd {rd rd' : Operand → VV} {xs : List Operand} (h : ∀ x ∈ xs, rd' x = rd x) : xs.map rd' = xs.map rd := List.map_congr_left h
theorem omap_rd {rd rd' : Operand → VV} {x : Option Operand} (h : ∀ y, x = some y → rd' y = rd y) : x.map rd' = x.map rd := by
  cases x with
  | none => rfl
  | some y => rw [Option.map_some, Option.map_some, h y rfl]
theorem vqu_congr {rd rd' : Operand → VV} {gb gb' : Nat → VV} {val : VV → Option R} (h : ∀ x ∈ o.op.operands.toList, rd' x = rd x) (hg : ∀ ty x, o.op = .load ty x → ∀ t off, rd x = .pt t off → gb' t = gb t) : vqu C o rd' gb' val = vqu C o rd gb val := by
  unfold vqu
  cases hop : o.op with
  | load t x =>
    rw [hop] at h
    simp only
    rw [h x (by simp [Op.operands])]
    cases C.ti t with
    | none => rfl
    | some i =>
      cases hx : rd x <;> try rfl
      rename_i u off
      simp only
      rw [hg t x hop u off hx]
  | build t parts =>
    rw [hop] at h
    have e : (parts.toList.map fun p => (p.1, rd' p.2)) = parts.toList.map fun p => (p.1, rd p.2) := List.map_congr_left fun p hp => by
      rw [h p.2 (by simp [Op.operands]; exact ⟨p.1, by simpa using hp⟩)]
    simp only [e]
  | buildSlice t n parts =>
    rw [hop] at h
    have e : (parts.toList.map fun p => (p.1, rd' p.2)) = parts.toList.map fun p => (p.1, rd p.2) := List.map_congr_left fun p hp => by
      rw [h p.2 (by simp [Op.operands]; exact ⟨p.1, by simpa using hp⟩)]
    simp only [e]
  | makeFunc f x y =>
    rw [hop] at h
    have e : y.toList.map rd' = y.toList.map rd := map_rd fun z hz => h z (by simp [Op.operands]; exact .inr (by simpa using hz))
    cases f <;> simp only [e]
  | slice t x lo hi mx =>
    rw [hop] at h
    have e1 := h x (by simp [Op.operands])
    have e2 : lo.map rd' = lo.map rd := omap_rd fun y hy => h y (by subst hy; simp [Op.operands])
    have e3 : hi.map rd' = hi.map rd := omap_rd fun y hy => h y (by subst hy; simp [Op.operands])
    simp only [e1, e2, e3]
  | call c =>
    rw [hop] at h
    cases hc : c.callee with
    | value x =>
      have e1 := h x (by simp [Op.operands, Call.operands, hc])
      have e2 : c.args.toList.map rd' = c.args.toList.map rd := map_rd fun z hz => h z (by simp [Op.operands, Call.operands, hc]; exact .inr (by simpa using hz))
      simp only [hc, e1, e2]
    | invoke x m => simp only [hc]
    | builtin b =>
      have e : ∀ z ∈ c.args.toList, rd' z = rd z := fun z hz => h z (by simp [Op.operands, Call.operands, hc]; simpa using hz)
      cases b <;> simp only [hc]
      · split
        · rename_i x t hx ht
          rw [e x (by rw [hx]; simp)]
        · rfl
      · split
        · rename_i x y hx
          rw [e x (by rw [hx]; simp), e y (by rw [hx]; simp)]
        · rfl
  | binOp op t x y u =>
    rw [hop] at h
    simp only [h x (by simp [Op.operands]), h y (by simp [Op.operands])]
  | pick c x y =>
    rw [hop] at h
    simp only [h c (by simp [Op.operands]), h x (by simp [Op.operands]), h y (by simp [Op.operands])]
  | indexAddr t x y =>
    rw [hop] at h
    simp only [h x (by simp [Op.operands]), h y (by simp [Op.operands])]
  | index t x y =>
    rw [hop] at h
    simp only [h x (by simp [Op.operands]), h y (by simp [Op.operands])]
  | move x => rw [hop] at h; simp only [h x (by simp [Op.operands])]
  | unOp op t x => rw [hop] at h; simp only [h x (by simp [Op.operands])]
  | nilCheck x => rw [hop] at h; simp only [h x (by simp [Op.operands])]
  | fieldAddr t x f => rw [hop] at h; simp only [h x (by simp [Op.operands])]
  | extract x n => rw [hop] at h; simp only [h x (by simp [Op.operands])]
  | convert s d x => rw [hop] at h; simp only [h x (by simp [Op.operands])]
  | _ => rfl
end
theorem befores_len : ∀ (l : List Oper) (acc : List Nat), (befores l acc).length = acc.length + l.length
  | [], acc => rfl
  | o :: r, acc => by rw [befores, befores_len r]; simp; omega
theorem befores_old : ∀ (l : List Oper) (acc : List Nat) (i : Nat), i < acc.length → (befores l acc)[i]? = acc[i]?
  | [], acc, i, h => rfl
  | o :: r, acc, i, h => by rw [befores, befores_old r _ i (by simp; omega), List.getElem?_append_left h]
def edgeBits (acc : List Nat) (o : Oper) : Nat := o.after.toList.foldl (fun s e => match Region.binds .any e with
    | true => s ||| (1 <<< e.on) ||| acc.getD e.on 0
    | false => s) 0
theorem fold_bits (acc : List Nat) (j : Nat) : ∀ (es : List Edge) (s : Nat), (es.foldl (fun s e => match Region.binds .any e with
    | true => s ||| (1 <<< e.on) ||| acc.getD e.on 0
    | false => s) s).testBit j = true → s.testBit j = true ∨ ∃ e ∈ es, Region.binds .any e = true ∧ (e.on = j ∨ (acc.getD e.on 0).testBit j = true)
  | [], s, h => .inl h
  | e :: es, s, h => by
    rw [List.foldl_cons] at h
    rcases fold_bits acc j es _ h with h | ⟨e', he, h1, h2⟩
    · split at h
      · rename_i hb
        rw [Nat.testBit_or, Nat.testBit_or, Bool.or_eq_true, Bool.or_eq_true] at h
        rcases h with (h | h) | h
        · exact .inl h
        · refine .inr ⟨e, by simp, hb, .inl ?_⟩
          rw [Nat.one_shiftLeft, Nat.testBit_two_pow] at h
          simpa using h
        · exact .inr ⟨e, by simp, hb, .inr h⟩
      · exact .inl h
    · exact .inr ⟨e', by simp [he], h1, h2⟩
theorem befores_at : ∀ (l : List Oper) (acc : List Nat) (i : Nat) (o : Oper), l[i]? = some o → (befores l acc)[acc.length + i]? = some (edgeBits ((befores l acc).take (acc.length + i)) o)
  | [], acc, i, o, h => by simp at h
  | x :: r, acc, 0, o, h => by
    simp at h; subst h
    rw [befores, Nat.add_zero, befores_old r _ acc.length (by simp)]
    have ht : (befores r (acc ++ [edgeBits acc x])).take acc.length = acc := by
      refine List.ext_getElem? fun k => ?_
      rw [List.getElem?_take]
      split
      · rw [befores_old r _ k (by simp; omega), List.getElem?_append_left (by omega)]
      · rw [List.getElem?_eq_none (by omega)]
    show (acc ++ [edgeBits acc x])[acc.length]? = _
    simp only [List.getElem?_concat_length, Option.some.injEq]
    show _ = edgeBits ((befores r (acc ++ [edgeBits acc x])).take acc.length) x
    rw [ht]
  | x :: r, acc, i + 1, o, h => by
    have := befores_at r (acc ++ [edgeBits acc x]) i o (by simpa using h)
    rw [befores]
    simp only [List.length_append, List.length_cons, List.length_nil] at this
    rw [show acc.length + (i + 1) = acc.length + (0 + 1) + i by omega]
    exact this
theorem before_edge {l : List Oper} {i j : Nat} {o : Oper} (h : l[i]? = some o) (hb : ((befores l []).getD i 0).testBit j = true) : ∃ e ∈ o.after.toList, Region.binds .any e = true ∧ (e.on = j ∨ (e.on < i ∧ ((befores l []).getD e.on 0).testBit j = true)) := by
  have h1 := befores_at l [] i o h
  simp only [List.length_nil, Nat.zero_add] at h1
  rw [List.getD_eq_getElem?_getD, h1, Option.getD_some] at hb
  rcases fold_bits _ j o.after.toList 0 hb with h2 | ⟨e, he, h2, h3⟩
  · simp at h2
  · refine ⟨e, he, h2, h3.imp id fun h3 => ?_⟩
    rw [List.getD_eq_getElem?_getD, List.getElem?_take] at h3
    split at h3
    · rename_i hlt; exact ⟨hlt, by rw [List.getD_eq_getElem?_getD]; exact h3⟩
    · simp at h3
def Down (l : List Oper) (L : Array Bool) : Prop := ∀ (i : Nat) o, l[i]? = some o → L.getD i false = true → ∀ e ∈ o.after.toList, Region.binds .any e = true → L.getD e.on false = true
theorem before_listed {l : List Oper} {L : Array Bool} (hd : Down l L) : ∀ (i : Nat) (o : Oper), l[i]? = some o → (∀ e ∈ o.after.toList, Region.binds .any e = true → L.getD e.on false = true) → ∀ j, ((befores l []).getD i 0).testBit j = true → L.getD j false = true := by
  intro i
  induction i using Nat.strongRecOn with
  | _ i ih =>
    intro o ho hr j hj
    obtain ⟨e, he, hb, h⟩ := before_edge ho hj
    have hl := hr e he hb
    rcases h with rfl | ⟨hlt, h⟩
    · exact hl
    · have hi : i < l.length := (List.getElem?_eq_some_iff.1 ho).1
      have ho' : l[e.on]? = some (l[e.on]'(by omega)) := List.getElem?_eq_getElem (by omega)
      exact ih e.on hlt _ ho' (hd e.on _ ho' hl) j h
theorem quietN_spec (bs : List Nat) : ∀ n, quietN bs n ≤ n ∧ ∀ j, quietN bs n ≤ j → j < n → bs.getD j 0 = 2 ^ j - 1
  | 0 => ⟨Nat.le_refl _, fun j _ h => absurd h (Nat.not_lt_zero _)⟩
  | n + 1 => by
    obtain ⟨h1, h2⟩ := quietN_spec bs n
    rw [quietN]
    split
    · rename_i hb
      refine ⟨by omega, fun j hj hn => ?_⟩
      by_cases e : j = n
      · subst e; exact Nat.eq_of_beq_eq_true hb
      · exact h2 j hj (by omega)
    · exact ⟨Nat.le_refl _, fun j hj hn => by omega⟩
theorem ready_iff {l : List Oper} {L : Array Bool} {i : Nat} : i ∈ Region.ready .any l.toArray L ↔ ∃ o, l[i]? = some o ∧ L.getD i true = false ∧ ∀ e ∈ o.after.toList, Region.binds .any e = true → L.getD e.on false = true := by
  unfold Region.ready
  simp only [List.mem_filter, List.mem_range, Bool.and_eq_true, Bool.not_eq_true', List.size_toArray, List.getElem?_toArray]
  constructor
  · rintro ⟨h1, h2, h3⟩
    refine ⟨l[i], List.getElem?_eq_getElem h1, h2, fun e he hb => ?_⟩
    rw [List.getElem?_eq_getElem h1] at h3
    simp only [Option.map_some, Option.getD_some, Array.all_eq_true'] at h3
    have := h3 e (by simpa using he)
    rw [hb] at this
    simpa using this
  · rintro ⟨o, h1, h2, h3⟩
    refine ⟨(List.getElem?_eq_some_iff.1 h1).1, h2, ?_⟩
    rw [h1]
    simp only [Option.map_some, Option.getD_some, Array.all_eq_true']
    intro e he
    cases hb : Region.binds .any e
    · rfl
    · simpa using h3 e (by simpa using he) hb
section
variable {P : Program} {NG : Nat} {GW : World → Prop} {io : List Nat} {w0 : World} {pd0 : Nat → Nat → Prop} {G : Gh} {env env' : Env} {a : Act} {w : World}
variable {R : Type} {K : Env → Option R} {r : R} {Q : Exit → Act → World → Prop} {o : Oper} {C : Cx} {ops : List Oper} {al : List Nat}
structure Agree (ops : List Oper) (al : List Nat) (o : Oper) (env env' : Env) : Prop where
  see : ∀ t ∈ o.looksAt ops.toArray, get env' t = get env t
  box : ∀ t cs, t ∉ al → get env t = .bx cs → get env' t = .bx cs
  dst : ∀ d, o.dst = some d → plain (get env' d) = true
  ref : ∀ d ∈ al, env'.any (refersD d) = false
theorem look_op {t : Nat} (h : Operand.tmp t ∈ o.op.operands.toList) : t ∈ o.looksAt ops.toArray := by
  unfold Oper.looksAt
  refine List.mem_append_left _ (List.mem_filterMap.2 ⟨_, h, rfl⟩)
theorem look_guard {j : Nat} {want : Bool} {p : Oper} {t : Nat} (hg : o.guard = some (j, want)) (hj : ops[j]? = some p) (ht : p.dst = some t) : t ∈ o.looksAt ops.toArray := by
  unfold Oper.looksAt
  refine List.mem_append_right _ ?_
  simp [hg, hj, ht]
theorem Agree.rd (h : Agree ops al o env env') : ∀ x ∈ o.op.operands.toList, rdv env' x = rdv env x := by
  intro x hx
  cases x with
  | tmp t => simp only [rdv]; rw [h.see t (look_op hx)]
  | _ => rfl
theorem vput_ok {dst : Option Nat} {v : VV} (h : ∃ r : R, vput (some al) dst v env K = some r) : (∀ d, dst = some d → plain (get env d) = true ∧ plain v = true ∧ al.all (fun t => !(refersD t v)) = true) := by
  obtain ⟨r, h⟩ := h
  intro d hd
  subst hd
  simp only [vput] at h
  split at h
  · rename_i hp; rw [Bool.and_eq_true, Bool.and_eq_true] at hp; exact hp
  · cases h
theorem vput_go {R' : Type} {K' : Env → Option R'} {dst : Option Nat} {v : VV} (h1 : ∀ d, dst = some d → plain (get env d) = true) (h2 : ∀ d, dst = some d → plain v = true ∧ al.all (fun t => !(refersD t v)) = true) : vput (some al) dst v env K' = K' (put dst v env) := by
  cases dst with
  | none => rfl
  | some d =>
    simp only [vput]
    rw [h1 d rfl, (h2 d rfl).1, (h2 d rfl).2]
    simp only [Bool.and_self, vset_eq]
    rfl
theorem nth_set : ∀ (env : Env) (d t : Nat) (v : VV), nth (env.set d v) t = if d = t ∧ d < env.length then v else nth env t
  | [], d, t, v => by simp [nth]
  | a :: r, 0, 0, v => by simp [nth]
  | a :: r, 0, t + 1, v => by simp [nth]
  | a :: r, d + 1, 0, v => by simp [nth]
  | a :: r, d + 1, t + 1, v => by simp only [List.set_cons_succ, nth]; rw [nth_set r d t v]; simp
def put2 (sv : Option (Nat × VV)) (env : Env) : Env := match sv with
  | some p => env.set p.1 p.2
  | none => env
def QStep (P : Program) (NG : Nat) (GW : World → Prop) (io : List Nat) (w0 : World) (pd0 : Nat → Nat → Prop) (Q : Exit → Act → World → Prop) (ops : List Oper) (al : List Nat) (i : Nat) (o : Oper) (env : Env) (v : VV) (sv : Option (Nat × VV)) : Prop :=
  (∀ d, o.dst = some d → plain (get env d) = true) ∧ (∀ t ∈ al, o.dst ≠ none → refersD t v = false) ∧ (∀ cs, v = .bx cs → ∀ d, o.dst = some d → d ∈ al) ∧ (∀ e z xs, v = .mr e z xs → o.dst = none) ∧ (∀ t s, sv = some (t, s) → sdOf ops o = some t ∧ plain (get env t) = true ∧ ∃ xs, s = .sl xs) ∧
    ∀ (env' : Env) (G : Gh) (a : Act) (w : World), Agree ops al o env env' → Sim NG GW io w0 pd0 G env' a w → ∀ Nk : Act → World → Prop, (∀ G' a' w', Sim NG GW io w0 pd0 G' (put o.dst v (put2 sv env')) a' w' → Nk a' w') → wpOp P ops.toArray Q i Nk a w
theorem seen_agree (h : Agree ops al o env env') {j : Nat} {want : Bool} (hg : o.guard = some (j, want)) : seen ops env' j = seen ops env j := by
  unfold seen
  cases hj : ops[j]? with
  | none => rfl
  | some p =>
    simp only
    cases ht : p.dst with
    | none => rfl
    | some t => simp only [h.see t (look_guard hg hj ht)]
theorem quiet_step (hti : TIok P C.ti) (gws : ∀ w w', GW w → Below NG w w' → GW w') (hC : CallOk P NG GW C.call) (hq : quietB C ops o = true) (hal : ∀ d t, o.op = .alloc t → o.dst = some d → d ∈ al) {i : Nat} (hi : ops[i]? = some o) {rest : List Oper} (h : vops C ops (some al) (o :: rest) env K = some r) :
    ∃ v sv, vops C ops (some al) rest (put o.dst v (put2 sv env)) K = some r ∧ QStep P NG GW io w0 pd0 Q ops al i o env v sv := by
  have run : ∀ h : vop C ops (some al) o env (fun env' => vops C ops (some al) rest env' K) = some r, ∃ v, vops C ops (some al) rest (put o.dst v env) K = some r ∧ (∀ d, o.dst = some d → plain (get env d) = true) ∧ (∀ t ∈ al, o.dst ≠ none → refersD t v = false) ∧ (∀ cs, v = .bx cs → ∀ d, o.dst = some d → d ∈ al) ∧ (∀ e z xs, v = .mr e z xs → o.dst = none) ∧
      ∀ (env' : Env), Agree ops al o env env' → ∀ {R' : Type} (K' : Env → Option R'), vop C ops (some al) o env' K' = K' (put o.dst v env') := by
    intro h
    by_cases ha : ∃ t, o.op = .alloc t
    · obtain ⟨t, hop⟩ := ha
      simp only [vop, hop] at h
      split at h
      case h_2 => cases h
      rename_i ti d hti' hd
      have hdm := hal d t hop hd
      simp only [vnew] at h
      split at h
      case h_2 => cases h
      rename_i hc
      rw [Bool.or_eq_false_iff] at hc
      rw [vset_eq] at h
      refine ⟨.bx (ti.zero.map zcell), by rw [hd]; exact h, ?_, fun _ _ _ => rfl, ?_, fun _ _ _ he => VV.noConfusion he, ?_⟩
      · intro d' hd'; rw [hd] at hd'; cases hd'; simpa using hc.2
      · intro cs _ d' hd'; rw [hd] at hd'; cases hd'; exact hdm
      · intro env' hA R' K'
        simp only [vop, hop, hti', hd, vnew]
        rw [hA.ref d hdm, hA.dst d hd]
        simp only [Bool.not_true, Bool.or_self, vset_eq]
        rfl
    · have ha' : ∀ t, o.op ≠ .alloc t := fun t e => ha ⟨t, e⟩
      rw [vop_quiet hq ha'] at h
      obtain ⟨v, hv, huni⟩ := vqu_val h
      have hok := vput_ok ⟨r, hv⟩
      have hK := vput_some hv
      refine ⟨v, hK, fun d hd => (hok d hd).1, fun t ht hne => ?_, fun cs e d hd => ?_, fun e z xs he => ?_, fun env' hA R' K' => ?_⟩
      · cases hd : o.dst with
        | none => exact absurd hd hne
        | some d =>
          have := (hok d hd).2.2
          rw [List.all_eq_true] at this
          simpa using this t ht
      · have := (hok d hd).2.1
        rw [e] at this; cases this
      · cases hd : o.dst with
        | none => rfl
        | some d =>
          have := (hok d hd).2.1
          rw [he] at this; cases this
      · rw [vop_quiet hq ha', vqu_congr (rd := rdv env) (gb := getB (some al) env) hA.rd ?_]
        · rw [huni]
          exact vput_go hA.dst fun d hd => (hok d hd).2
        · intro ty x hop t off hx
          have hb : ∃ cs, getB (some al) env t = .bx cs := by
            simp only [vqu, hop] at h
            split at h
            · cases h
            · rw [hx] at h
              simp only at h
              split at h
              · exact ⟨_, by assumption⟩
              · cases h
          obtain ⟨cs, hcs⟩ := hb
          rw [hcs]
          have hg := getB_bx hcs
          unfold getB at hcs ⊢
          simp only at hcs ⊢
          split at hcs
          · cases hcs
          · rename_i hm
            exact hA.box t cs (fun hmem => by
              have := List.any_eq_false.1 hm t hmem
              simp at this) hg
  have mk : ∀ v, (∀ (env' : Env), Agree ops al o env env' → ∀ {R' : Type} (K' : Env → Option R'), vop C ops (some al) o env' K' = K' (put o.dst v env')) → ∀ (env' : Env) (G : Gh) (a : Act) (w : World), Agree ops al o env env' → Sim NG GW io w0 pd0 G env' a w → ∀ Nk : Act → World → Prop, (∀ G' a' w', Sim NG GW io w0 pd0 G' (put o.dst v env') a' w' → Nk a' w') → o.wp P a w Nk Q := by
    intro v hv env' G a w hA hs Nk hNk
    have := hv env' hA (R' := Env) some
    refine vop_sound (r := put o.dst v env') (K := some) hti gws hC hs (fun G' e' a' w' hs' he => ?_) this
    cases he
    exact hNk G' a' w' hs'
  rw [vops] at h
  split at h
  · rename_i hg
    obtain ⟨v, h1, h2, h3, h4, h5, h6⟩ := run h
    refine ⟨v, none, h1, h2, h3, h4, h5, fun t s he => (by cases he), fun env' G a w hA hs Nk hNk => ?_⟩
    unfold wpOp
    rw [show ops.toArray[i]? = some o by simpa using hi]
    simp only
    rw [if_pos (by simp [Region.wanted, hg])]
    exact .inl (mk v h6 env' G a w hA hs Nk hNk)
  · rename_i j want hg
    have skip : ∀ h : vput (some al) o.dst (.s undef) env (fun env' => vops C ops (some al) rest env' K) = some r, (∀ (env' : Env) (G : Gh) (a : Act) (w : World), Agree ops al o env env' → Sim NG GW io w0 pd0 G env' a w → ¬ Region.wanted o (yielded ops.toArray a.tmps) = true) → ∃ v sv, vops C ops (some al) rest (put o.dst v (put2 sv env)) K = some r ∧ QStep P NG GW io w0 pd0 Q ops al i o env v sv := by
      intro h hw
      have hok := vput_ok ⟨r, h⟩
      refine ⟨.s undef, none, vput_some h, fun d hd => (hok d hd).1, fun _ _ _ => rfl, fun cs e => VV.noConfusion e, fun _ _ _ e => VV.noConfusion e, fun t s he => (by cases he), fun env' G a w hA hs Nk hNk => ?_⟩
      unfold wpOp
      rw [show ops.toArray[i]? = some o by simpa using hi]
      simp only
      rw [if_neg (hw env' G a w hA hs)]
      exact hNk G _ _ (hs.put o.dst fun d _ => VR.slot (VR.of_dr (.s _)) d)
    split at h
    · rename_i b hb
      have hy : ∀ (env' : Env) (G : Gh) (a : Act) (w : World), Agree ops al o env env' → Sim NG GW io w0 pd0 G env' a w → yielded ops.toArray a.tmps j = some b := fun env' G a w hA hs => seen_ok hs (ops := ops.toArray) (by rw [← hb]; exact seen_agree hA hg)
      rcases bite_some h with ⟨hbw, h⟩ | ⟨hbw, h⟩
      · obtain ⟨v, h1, h2, h3, h4, h5, h6⟩ := run h
        refine ⟨v, none, h1, h2, h3, h4, h5, fun t s he => (by cases he), fun env' G a w hA hs Nk hNk => ?_⟩
        unfold wpOp
        rw [show ops.toArray[i]? = some o by simpa using hi]
        simp only
        rw [if_pos (by simp only [Region.wanted, hg, hy env' G a w hA hs]; simpa using hbw)]
        exact .inl (mk v h6 env' G a w hA hs Nk hNk)
      · exact skip h fun env' G a w hA hs => by simp only [Region.wanted, hg, hy env' G a w hA hs]; simpa using hbw
    · rename_i hb
      refine skip h fun env' G a w hA hs => ?_
      have hy : yielded ops.toArray a.tmps j = none := seen_ok hs (ops := ops.toArray) (by rw [← hb]; exact seen_agree hA hg)
      simp [Region.wanted, hg, hy]
    · cases h
theorem get_set_ne {d t : Nat} {s : VV} (h : t ≠ d) : get (env.set t s) d = get env d := by
  unfold get
  rw [nth_set, if_neg (fun e => h e.1)]
def vapp (C : Cx) (c : Call) (a b : VV) : Option (VV × VV) := match c.argTypes.toList with
  | [t, t'] => if Nat.beq t t' then (match C.ti t with
      | some i => (match i.k with
        | .slice e => (match C.ti e with
          | some ie => if 0 < ie.sz ∧ 0 < ie.bytes then (match a, b with
            | .ow e' z xs, .sl ys => if Nat.beq e' e && Nat.beq z ie.sz then bite (decide ((xs.length + ys.length) * ie.bytes ≤ 140737488355328) && ys.all fun v => Nat.beq v.cells.length ie.sz) (some (.sl xs, .ow e ie.sz (xs ++ ys))) none else none
            | .nl, .sl ys => bite (decide (ys.length * ie.bytes ≤ 140737488355328) && ys.all fun v => Nat.beq v.cells.length ie.sz) (some (.sl [], .ow e ie.sz ys)) none
            | _, _ => none) else none
          | none => none)
        | _ => none)
      | none => none) else none
  | _ => none
theorem app_mem {c : Call} {l : List Operand} (hc : c.callee = .builtin .append) (ha : c.args.toList = l) {x : Operand} (hx : x ∈ l) : x ∈ (Op.call c).operands.toList := by
  have h1 : x ∈ c.args := by rw [← Array.mem_toList_iff, ha]; exact hx
  simp [Op.operands, Call.operands, hc, h1]
theorem bite_obind {α β : Type} {b : Bool} {p : α} {f : α → Option β} : obind (bite b (some p) none) f = bite b (f p) none := by cases b <;> rfl
theorem vop_app {R' : Type} {K' : Env → Option R'} {c : Call} {u : Nat} {y : Operand} (hop : o.op = .call c) (hc : c.callee = .builtin .append) (ha : c.args.toList = [.tmp u, y]) {dr : Option (List Nat)} : vop C ops dr o env K' = obind (vapp C c (get env u) (rdv env y)) fun p => vset u p.1 env fun env' => vput dr o.dst p.2 env' K' := by
  simp only [vop, hop, hc, ha, vapp]
  split
  · rename_i x y' t t' e1 e2
    cases e1
    (try simp only [e2])
    split
    · rename_i hb
      (try simp only [hb, if_true])
      split
      · rename_i i hi
        (try simp only [hi])
        split
        · rename_i e hk
          (try simp only [hk])
          split
          · rename_i ie hie
            (try simp only [hie])
            split
            · rename_i hz
              (try simp only [hz, and_self, if_true])
              split
              · rename_i h1 h2
                (try simp only [h1, h2])
                split
                · rename_i hb2
                  (try simp only [hb2, if_true, bite_obind])
                · rename_i hb2
                  (try simp only [hb2])
                  rfl
              · rename_i h1 h2
                (try simp only [h1, h2, bite_obind])
              · rename_i h1 h2
                split
                · exact absurd ‹_› (h1 _ _ _ _ ‹_›)
                · exact absurd ‹_› (h2 _ ‹_›)
                · rfl
            · rename_i hz
              (try simp only [hz, if_false])
              rfl
          · rename_i hie
            (try simp only [hie])
            rfl
        · rename_i hk
          split
          · rename_i e he
            exact absurd he (hk e)
          · rfl
      · rename_i hi
        (try simp only [hi])
        rfl
    · rename_i hb
      (try simp only [hb])
      rfl
  · rename_i hne
    split
    · rename_i t t' e2
      exact absurd e2 (hne u y t t' rfl)
    · rfl
theorem vapp_form {c : Call} {a b s v : VV} (h : vapp C c a b = some (s, v)) : plain a = true ∧ (∃ xs, s = .sl xs) ∧ ∃ e z xs, v = .ow e z xs := by
  unfold vapp at h
  repeat' split at h
  all_goals first
    | (cases h; done)
    | skip
  · rcases bite_some h with ⟨_, h⟩ | ⟨_, h⟩
    · cases h; exact ⟨rfl, ⟨_, rfl⟩, _, _, _, rfl⟩
    · cases h
  · rcases bite_some h with ⟨_, h⟩ | ⟨_, h⟩
    · cases h; exact ⟨rfl, ⟨_, rfl⟩, _, _, _, rfl⟩
    · cases h
theorem own_step (hti : TIok P C.ti) (gws : ∀ w w', GW w → Below NG w w' → GW w') (hC : CallOk P NG GW C.call) (hq : ownMove ops o = true) {i : Nat} (hi : ops[i]? = some o) {rest : List Oper} (h : vops C ops (some al) (o :: rest) env K = some r) :
    ∃ v sv, vops C ops (some al) rest (put o.dst v (put2 sv env)) K = some r ∧ QStep P NG GW io w0 pd0 Q ops al i o env v sv := by
  unfold ownMove at hq
  split at hq
  case h_2 => cases hq
  rename_i t d hsd hg hd
  have hne : t ≠ d := fun e => by subst e; simp at hq
  have hop : (o.op = .move (.tmp t) ∧ fd ops o.dst = true) ∨ ∃ c y, o.op = .call c ∧ c.callee = .builtin .append ∧ c.args.toList = [.tmp t, y] := by
    have hsd' := hsd
    unfold sdOf at hsd'
    split at hsd'
    · rename_i t' hop
      split at hsd'
      · rename_i hf; cases hsd'; exact .inl ⟨hop, hf⟩
      · cases hsd'
    · rename_i c hop
      split at hsd'
      · rename_i u y hc ha; cases hsd'; exact .inr ⟨c, _, hop, hc, ha⟩
      · cases hsd'
    · cases hsd'
  rw [vops, hg] at h
  have fin : ∀ (v : VV) (sv : Option (Nat × VV)), vops C ops (some al) rest (put o.dst v (put2 sv env)) K = some r → (plain (get env d) = true ∧ plain v = true ∧ al.all (fun t => !(refersD t v)) = true) → (∀ t s, sv = some (t, s) → sdOf ops o = some t ∧ plain (get env t) = true ∧ ∃ xs, s = .sl xs) → (∀ (env' : Env), Agree ops al o env env' → ∀ {R' : Type} (K' : Env → Option R'), vop C ops (some al) o env' K' = K' (put o.dst v (put2 sv env'))) →
      ∃ v sv, vops C ops (some al) rest (put o.dst v (put2 sv env)) K = some r ∧ QStep P NG GW io w0 pd0 Q ops al i o env v sv := by
    intro v sv h1 h2 h3 h4
    refine ⟨v, sv, h1, fun d' hd' => ?_, fun u hu _ => ?_, fun cs e => ?_, fun e z xs he => ?_, h3, fun env' G a w hA hs Nk hNk => ?_⟩
    · rw [hd] at hd'; cases hd'; exact h2.1
    · have := h2.2.2
      rw [List.all_eq_true] at this
      simpa using this u hu
    · have := h2.2.1
      rw [e] at this; cases this
    · have := h2.2.1
      rw [he] at this; cases this
    · unfold wpOp
      rw [show ops.toArray[i]? = some o by simpa using hi]
      simp only
      rw [if_pos (by simp [Region.wanted, hg])]
      refine .inl (vop_sound (r := put o.dst v (put2 sv env')) (K := some) hti gws hC hs (fun G' e' a' w' hs' he => ?_) (ops := ops) (dr := some al) ?_)
      · cases he; exact hNk G' a' w' hs'
      · exact h4 env' hA (R' := Env) some
  have go : ∀ (env' : Env) (s v : VV) {R' : Type} (K' : Env → Option R'), plain (get env' d) = true → plain v = true ∧ al.all (fun t => !(refersD t v)) = true → vput (some al) (some d) v (env'.set t s) K' = K' (put (some d) v (env'.set t s)) := fun env' s v R' K' h1 h2 => vput_go (fun d' hd' => by cases hd'; rw [get_set_ne hne]; exact h1) (fun d' _ => h2)
  rcases hop with ⟨hop, hfd⟩ | ⟨c, y, hop, hc, ha⟩
  · rw [hd] at hfd
    have hlook : t ∈ o.looksAt ops.toArray := look_op (by rw [hop]; simp [Op.operands])
    have red : ∀ (env' : Env) {R' : Type} (K' : Env → Option R'), vop C ops (some al) o env' K' = vmove (some al) true (some d) (.tmp t) env' K' := fun env' R' K' => by simp only [vop, hop, hd, hfd]
    rw [red] at h
    cases hgt : get env t with
    | ow e z xs =>
      simp only [vmove, hgt, vset_eq] at h
      have hok := vput_ok ⟨r, h⟩ d rfl
      rw [get_set_ne hne] at hok
      refine fin (.ow e z xs) (some (t, .sl xs)) (by rw [hd]; exact vput_some h) hok (fun t' s' he => ?_) fun env' hA R' K' => ?_
      · cases he; exact ⟨hsd, by rw [hgt]; rfl, xs, rfl⟩
      · have h5 : get env' t = .ow e z xs := (hA.see t hlook).trans hgt
        rw [red]
        simp only [vmove, h5, vset_eq]
        rw [hd]
        exact go env' _ _ K' (hA.dst d hd) hok.2
    | nl =>
      simp only [vmove, hgt] at h
      have hok := vput_ok ⟨r, h⟩ d rfl
      refine fin .nl none (by rw [hd]; exact vput_some h) hok (fun t' s' he => by cases he) fun env' hA R' K' => ?_
      have h5 : get env' t = .nl := (hA.see t hlook).trans hgt
      rw [red]
      simp only [vmove, h5]
      rw [hd]
      exact vput_go (fun d' hd' => by cases hd'; exact hA.dst d hd) (fun d' _ => hok.2)
    | _ =>
      simp only [vmove, hgt] at h
      have hok := vput_ok ⟨r, h⟩ d rfl
      refine fin (rdv env (.tmp t)) none (by rw [hd]; exact vput_some h) hok (fun t' s' he => by cases he) fun env' hA R' K' => ?_
      have h5 := (hA.see t hlook).trans hgt
      have h6 : rdv env' (.tmp t) = rdv env (.tmp t) := by simp only [rdv, h5, hgt]
      rw [red]
      simp only [vmove, h5]
      rw [hd, h6]
      exact vput_go (fun d' hd' => by cases hd'; exact hA.dst d hd) (fun d' _ => hok.2)
  · have hlook : t ∈ o.looksAt ops.toArray := look_op (by rw [hop]; exact app_mem hc ha (by simp))
    have hy : ∀ env', Agree ops al o env env' → rdv env' y = rdv env y := fun env' hA => hA.rd y (by rw [hop]; exact app_mem hc ha (by simp))
    rw [vop_app hop hc ha] at h
    cases hv : vapp C c (get env t) (rdv env y) with
    | none => rw [hv] at h; cases h
    | some p =>
      obtain ⟨s, v⟩ := p
      obtain ⟨f1, ⟨ys, rfl⟩, e, z, xs, rfl⟩ := vapp_form hv
      rw [hv] at h
      have h' : vset t (.sl ys) env (fun env' => vput (some al) o.dst (.ow e z xs) env' fun env' => vops C ops (some al) rest env' K) = some r := h
      rw [vset_eq, hd] at h'
      have hok := vput_ok ⟨r, h'⟩ d rfl
      rw [get_set_ne hne] at hok
      refine fin (.ow e z xs) (some (t, .sl ys)) (by rw [hd]; exact vput_some h') hok (fun t' s' he => ?_) fun env' hA R' K' => ?_
      · cases he; exact ⟨hsd, f1, ys, rfl⟩
      · rw [vop_app hop hc ha, hA.see t hlook, hy env' hA, hv]
        show vset t (.sl ys) env' (fun env' => vput (some al) o.dst (.ow e z xs) env' K') = _
        rw [vset_eq, hd]
        exact go env' _ _ K' (hA.dst d hd) hok.2
end
section
variable {D : Nat → Option Nat} {vals : Nat → VV} {env0 env : Env} {n : Nat}
def chainE (D : Nat → Option Nat) (vals : Nat → VV) (env0 : Env) : Nat → Env
  | 0 => env0
  | k + 1 => put (D k) (vals k) (chainE D vals env0 k)
theorem chainE_congr {D' : Nat → Option Nat} {vals' : Nat → VV} : ∀ k, (∀ j, j < k → vals j = vals' j) → (∀ j, j < k → D j = D' j) → chainE D vals env0 k = chainE D' vals' env0 k
  | 0, _, _ => rfl
  | k + 1, h, g => by rw [chainE, chainE, chainE_congr k (fun j hj => h j (by omega)) (fun j hj => g j (by omega)), h k (by omega), g k (by omega)]
structure QS (D : Nat → Option Nat) (vals : Nat → VV) (env0 : Env) (n : Nat) (S : Nat → Prop) (env : Env) : Prop where
  len : env.length = env0.length
  hit : ∀ (k : Nat) d, k < n → D k = some d → S k → d < env0.length → (∀ j, k < j → j < n → D j = some d → ¬ S j) → get env d = vals k
  miss : ∀ t, (∀ (k : Nat), k < n → D k = some t → ¬ S k) → get env t = get env0 t
theorem get_put {dst : Option Nat} {v : VV} {t : Nat} : get (put dst v env) t = if dst = some t ∧ t < env.length then v else get env t := by
  cases dst with
  | none => simp [put]
  | some d =>
    simp only [put, get]
    rw [nth_set]
    by_cases h : d = t
    · subst h; simp
    · simp [h]
theorem put_len {dst : Option Nat} {v : VV} : (put dst v env).length = env.length := by cases dst <;> simp [put]
theorem QS.step {S : Nat → Prop} (h : QS D vals env0 n S env) {k : Nat} (hk : k < n) (hS : ¬ S k) (hlast : ∀ (j : Nat) d, k < j → j < n → D j = some d → D k = some d → ¬ S j) : QS D vals env0 n (fun j => S j ∨ j = k) (put (D k) (vals k) env) := by
  refine ⟨put_len.trans h.len, ?_, ?_⟩
  · intro j d hj hd hSj hlt hmax
    rw [get_put]
    by_cases e : j = k
    · subst e
      rw [if_pos ⟨hd, by rw [h.len]; exact hlt⟩]
    · have hSj' := hSj.resolve_right e
      rw [if_neg (fun h2 => by
        rcases Nat.lt_or_gt_of_ne e with h3 | h3
        · exact hmax k h3 hk h2.1 (.inr rfl)
        · exact hlast j d h3 hj hd h2.1 hSj')]
      exact h.hit j d hj hd hSj' hlt fun j' h1 h2 h3 h4 => hmax j' h1 h2 h3 (.inl h4)
  · intro t ht
    rw [get_put, if_neg (fun h2 => ht k hk h2.1 (.inr rfl))]
    exact h.miss t fun j hj hd hs => ht j hj hd (.inl hs)
theorem QS.congr {S S' : Nat → Prop} (h : QS D vals env0 n S env) (e : ∀ k, k < n → (S k ↔ S' k)) : QS D vals env0 n S' env :=
  ⟨h.len, fun k d hk hd hs hlt hm => h.hit k d hk hd ((e k hk).2 hs) hlt fun j h1 h2 h3 h4 => hm j h1 h2 h3 ((e j h2).1 h4), fun t ht => h.miss t fun k hk hd hs => ht k hk hd ((e k hk).1 hs)⟩
theorem QS.chain : ∀ k, k ≤ n → QS D vals env0 n (fun j => j < k) (chainE D vals env0 k)
  | 0, _ => ⟨rfl, fun _ _ _ _ h => absurd h (Nat.not_lt_zero _), fun _ _ => rfl⟩
  | k + 1, hk => by
    have := (QS.chain k (by omega)).step (k := k) (by omega) (by omega) (fun j d hj _ _ _ h => by omega)
    rw [chainE]
    exact this.congr fun j _ => by omega
open Classical in
theorem exists_max {p : Nat → Prop} : ∀ n, (∃ k, k < n ∧ p k) → ∃ k, k < n ∧ p k ∧ ∀ j, k < j → j < n → ¬ p j
  | 0, h => by obtain ⟨k, h1, _⟩ := h; omega
  | n + 1, h => by
    by_cases hp : p n
    · exact ⟨n, by omega, hp, fun j h1 h2 => by omega⟩
    · obtain ⟨k, h1, h2⟩ := h
      obtain ⟨k', h3, h4, h5⟩ := exists_max n ⟨k, by
        rcases Nat.lt_or_ge k n with h | h
        · exact h
        · exact absurd (by rw [show n = k by omega]; exact h2) hp, h2⟩
      exact ⟨k', by omega, h4, fun j h6 h7 => by
        rcases Nat.lt_or_ge j n with h | h
        · exact h5 j h6 h
        · rw [show j = n by omega]; exact hp⟩
open Classical in
theorem exists_min {p : Nat → Prop} {k : Nat} (h : p k) : ∃ k', k' ≤ k ∧ p k' ∧ ∀ j, j < k' → ¬ p j := by
  induction k using Nat.strongRecOn with
  | _ k ih =>
    by_cases hx : ∃ j, j < k ∧ p j
    · obtain ⟨j, h1, h2⟩ := hx
      obtain ⟨k', h3, h4, h5⟩ := ih j h1 h2
      exact ⟨k', by omega, h4, h5⟩
    · exact ⟨k, Nat.le_refl _, h, fun j h1 h2 => hx ⟨j, h1, h2⟩⟩
theorem env_ext : ∀ {e e' : Env}, e.length = e'.length → (∀ t, t < e.length → get e t = get e' t) → e = e'
  | [], [], _, _ => rfl
  | a :: r, b :: s, hl, h => by
    have h0 := h 0 (by simp)
    have := env_ext (e := r) (e' := s) (by simpa using hl) fun t ht => h (t + 1) (by simp; omega)
    simp [get, nth] at h0
    rw [h0, this]
  | [], _ :: _, hl, _ => by simp at hl
  | _ :: _, [], hl, _ => by simp at hl
open Classical in
theorem QS.uniq {S : Nat → Prop} {env' : Env} (h : QS D vals env0 n S env) (h' : QS D vals env0 n S env') : env = env' := by
  refine env_ext (h.len.trans h'.len.symm) fun t ht => ?_
  by_cases hx : ∃ k, k < n ∧ (D k = some t ∧ S k)
  · obtain ⟨k, h1, ⟨h3, h4⟩, h5⟩ := exists_max n hx
    rw [h.len] at ht
    have h6 : ∀ j, k < j → j < n → D j = some t → ¬ S j := fun j a b c d => h5 j a b ⟨c, d⟩
    rw [h.hit k t h1 h3 h4 ht h6, h'.hit k t h1 h3 h4 ht h6]
  · have hm : ∀ (k : Nat), k < n → D k = some t → ¬ S k := fun k h1 h3 h4 => hx ⟨k, h1, h3, h4⟩
    rw [h.miss t hm, h'.miss t hm]
end
section
variable {P : Program} {NG : Nat} {GW : World → Prop} {io : List Nat} {w0 : World} {pd0 : Nat → Nat → Prop} {C : Cx} {R : Type} {K : Env → Option R} {r : R} {Q : Exit → Act → World → Prop} {l : List Oper} {env0 : Env} {al : List Nat}
def Wr (l : List Oper) (o : Oper) (d : Nat) : Prop := o.dst = some d ∨ sdOf l o = some d
theorem wl_mem {o : Oper} {d : Nat} : d ∈ wl l o ↔ Wr l o d := by
  unfold wl Wr
  cases o.dst <;> cases sdOf l o <;> simp [eq_comm]
theorem wrIn_false {o : Oper} {ts : List Nat} (h : wrIn l o ts = false) {d : Nat} (hd : Wr l o d) : d ∉ ts := by
  unfold wrIn at h
  intro hm
  have := List.any_eq_false.1 h d (wl_mem.2 hd)
  simp only [Bool.not_eq_true, List.any_eq_false] at this
  have h2 := this d hm
  simp at h2
structure Ord (C : Cx) (l : List Oper) (n : Nat) : Prop where
  edge : ∀ (j : Nat) y, l[j]? = some y → ∀ e ∈ y.after.toList, Region.binds .any e = true → e.on < j
  quiet : ∀ (j : Nat) y, j < n → l[j]? = some y → quietB C l y = true ∨ ownMove l y = true
  dist : ∀ (i j : Nat) p o d, i < j → j < n → l[i]? = some p → l[j]? = some o → Wr l p d → Wr l o d → ((befores l []).getD j 0).testBit i = true
  apart : ∀ (i j : Nat) x y, i < j → j < n → l[i]? = some x → l[j]? = some y → ((befores l []).getD j 0).testBit i = false → (∀ d, Wr l x d → d ∉ y.looksAt l.toArray) ∧ (∀ d, Wr l y d → d ∉ x.looksAt l.toArray)
  solid : ∀ (i j : Nat), n ≤ j → j < l.length → i < j → ((befores l []).getD j 0).testBit i = true
  le : n ≤ l.length
theorem own_ne {o : Oper} (h : ownMove l o = true) {d : Nat} (h1 : o.dst = some d) : sdOf l o ≠ some d := by
  intro h2
  unfold ownMove at h
  rw [h1, h2] at h
  split at h
  · rename_i t d' e1 e2 e3
    cases e1; cases e3
    simp at h
  · cases h
theorem anyOrder_ord (h : anyOrder C l = true) : ∃ n, Ord C l n := by
  unfold anyOrder at h
  simp only [List.all_eq_true, List.mem_range] at h
  obtain ⟨hn1, hn2⟩ := quietN_spec (befores l []) l.length
  refine ⟨quietN (befores l []) l.length, ?_⟩
  have hj : ∀ (j : Nat) y, l[j]? = some y → (∀ e ∈ y.after.toList, Region.binds .any e = true → e.on < j) ∧ (quietN (befores l []) l.length ≤ j ∨ ((quietB C l y = true ∨ ownMove l y = true) ∧ ∀ i, i < j → ∀ x, l[i]? = some x → (((befores l []).getD j 0).testBit i = true ∨ (wrIn l x (wl l y) = false ∧ (wrIn l x (y.looksAt l.toArray) = false ∧ wrIn l y (x.looksAt l.toArray) = false))))) := by
    intro j y hy
    have := h j (List.getElem?_eq_some_iff.1 hy).1
    rw [hy] at this
    simp only [Bool.and_eq_true, List.all_eq_true, Bool.or_eq_true] at this
    refine ⟨fun e he hb => ?_, ?_⟩
    · rcases this.1 e he with h1 | h1
      · rw [hb] at h1; cases h1
      · simpa [Nat.blt_eq] using h1
    · rcases this.2 with h1 | ⟨h1, h2⟩
      · exact .inl (by simpa using h1)
      · refine .inr ⟨h1, fun i hi x hx => ?_⟩
        have h3 := h2 i (by simpa using hi)
        rw [hx] at h3
        simp only [Bool.and_eq_true, Bool.or_eq_true, Bool.not_eq_true'] at h3
        exact h3
  refine ⟨fun j y hy => (hj j y hy).1, ?_, ?_, ?_, ?_, hn1⟩
  · intro j y hlt hy
    rcases (hj j y hy).2 with h1 | h1
    · omega
    · exact h1.1
  · intro i j p o d hij hjn hp ho hd hd'
    rcases (hj j o ho).2 with h1 | h1
    · omega
    · rcases h1.2 i hij p hp with h2 | h2
      · exact h2
      · exact absurd (wl_mem.2 hd') (wrIn_false h2.1 hd)
  · intro i j x y hij hjn hx hy hb
    rcases (hj j y hy).2 with h1 | h1
    · omega
    · rcases h1.2 i hij x hx with h2 | h2
      · rw [hb] at h2; cases h2
      · exact ⟨fun d hd => wrIn_false h2.2.1 hd, fun d hd => wrIn_false h2.2.2 hd⟩
  · intro i j hnj hjl hij
    rw [hn2 j hnj hjl, Nat.testBit_two_pow_sub_one]
    simpa using hij
def DD (l : List Oper) (sv : Nat → Option (Nat × VV)) (j : Nat) : Option Nat := match j % 2 with
  | 0 => (sv (j / 2)).map Prod.fst
  | _ => (l[j / 2]?).bind (·.dst)
def VD (vals : Nat → VV) (sv : Nat → Option (Nat × VV)) (j : Nat) : VV := match j % 2 with
  | 0 => ((sv (j / 2)).map Prod.snd).getD .un
  | _ => vals (j / 2)
theorem DD_even {sv : Nat → Option (Nat × VV)} {k : Nat} : DD l sv (2 * k) = (sv k).map Prod.fst := by
  unfold DD
  rw [show 2 * k % 2 = 0 by omega, show 2 * k / 2 = k by omega]
  rfl
theorem DD_odd {sv : Nat → Option (Nat × VV)} {k : Nat} : DD l sv (2 * k + 1) = (l[k]?).bind (·.dst) := by
  unfold DD
  rw [show (2 * k + 1) % 2 = 1 by omega, show (2 * k + 1) / 2 = k by omega]
  rfl
theorem VD_even {vals : Nat → VV} {sv : Nat → Option (Nat × VV)} {k : Nat} : VD vals sv (2 * k) = ((sv k).map Prod.snd).getD .un := by
  unfold VD
  rw [show 2 * k % 2 = 0 by omega, show 2 * k / 2 = k by omega]
  rfl
theorem VD_odd {vals : Nat → VV} {sv : Nat → Option (Nat × VV)} {k : Nat} : VD vals sv (2 * k + 1) = vals k := by
  unfold VD
  rw [show (2 * k + 1) % 2 = 1 by omega, show (2 * k + 1) / 2 = k by omega]
  rfl
theorem put_put2 {sv : Option (Nat × VV)} {env : Env} : put (sv.map Prod.fst) ((sv.map Prod.snd).getD .un) env = put2 sv env := by
  cases sv <;> rfl
def chO (l : List Oper) (vals : Nat → VV) (sv : Nat → Option (Nat × VV)) (env0 : Env) (k : Nat) : Env := chainE (DD l sv) (VD vals sv) env0 (2 * k)
theorem chO_succ {vals : Nat → VV} {sv : Nat → Option (Nat × VV)} {k : Nat} {o : Oper} (ho : l[k]? = some o) : chO l vals sv env0 (k + 1) = put o.dst (vals k) (put2 (sv k) (chO l vals sv env0 k)) := by
  unfold chO
  rw [show 2 * (k + 1) = 2 * k + 1 + 1 by omega, chainE, chainE, DD_odd, VD_odd, DD_even, VD_even, put_put2, ho]
  rfl
theorem chO_congr {vals vals' : Nat → VV} {sv sv' : Nat → Option (Nat × VV)} {k : Nat} (h : ∀ j, j < k → vals j = vals' j) (g : ∀ j, j < k → sv j = sv' j) : chO l vals sv env0 k = chO l vals' sv' env0 k := by
  unfold chO
  refine chainE_congr _ (fun j hj => ?_) (fun j hj => ?_)
  · unfold VD
    rw [h (j / 2) (by omega), g (j / 2) (by omega)]
  · unfold DD
    rw [g (j / 2) (by omega)]
theorem canon (hti : TIok P C.ti) (gws : ∀ w w', GW w → Below NG w w' → GW w') (hC : CallOk P NG GW C.call) {n : Nat} (hO : Ord C l n) (hal : ∀ (k : Nat) o t d, l[k]? = some o → o.op = .alloc t → o.dst = some d → d ∈ al) (h : vops C l (some al) l env0 K = some r) :
    ∀ m, m ≤ n → ∃ (vals : Nat → VV) (sv : Nat → Option (Nat × VV)), vops C l (some al) (l.drop m) (chO l vals sv env0 m) K = some r ∧ (∀ k, m ≤ k → sv k = none) ∧ ∀ (k : Nat) o, k < m → l[k]? = some o → QStep P NG GW io w0 pd0 Q l al k o (chO l vals sv env0 k) (vals k) (sv k)
  | 0, _ => ⟨fun _ => .un, fun _ => none, h, fun _ _ => rfl, fun k o hk => absurd hk (Nat.not_lt_zero _)⟩
  | m + 1, hm => by
    obtain ⟨vals, sv, h1, h0, h2⟩ := canon hti gws hC hO hal h m (by omega)
    have hl := hO.le
    have ho : l[m]? = some (l[m]'(by omega)) := List.getElem?_eq_getElem (by omega)
    rw [List.drop_eq_getElem_cons (by omega)] at h1
    obtain ⟨v, s, h3, h4⟩ : ∃ v s, vops C l (some al) (l.drop (m + 1)) (put (l[m]'(by omega)).dst v (put2 s (chO l vals sv env0 m))) K = some r ∧ QStep P NG GW io w0 pd0 Q l al m (l[m]'(by omega)) (chO l vals sv env0 m) v s := by
      rcases hO.quiet m _ (by omega) ho with hq | hq
      · exact quiet_step (io := io) (w0 := w0) (pd0 := pd0) (Q := Q) hti gws hC hq (fun d t h5 h6 => hal m _ t d ho h5 h6) ho h1
      · exact own_step (io := io) (w0 := w0) (pd0 := pd0) (Q := Q) hti gws hC hq ho h1
    let vals' : Nat → VV := fun k => if k = m then v else vals k
    let sv' : Nat → Option (Nat × VV) := fun k => if k = m then s else sv k
    have hc : ∀ k, k ≤ m → chO l vals sv env0 k = chO l vals' sv' env0 k := fun k hk => chO_congr (fun j hj => by simp only [vals']; rw [if_neg (by omega)]) (fun j hj => by simp only [sv']; rw [if_neg (by omega)])
    refine ⟨vals', sv', ?_, fun k hk => ?_, fun k o hk hok => ?_⟩
    · rw [chO_succ ho, ← hc m (Nat.le_refl _)]
      simp only [vals', sv', if_pos]
      exact h3
    · simp only [sv']
      rw [if_neg (by omega)]
      exact h0 k (by omega)
    · by_cases e : k = m
      · subst e
        rw [ho] at hok; cases hok
        rw [← hc k (Nat.le_refl _)]
        simp only [vals', sv', if_pos]
        exact h4
      · rw [← hc k (by omega)]
        simp only [vals', sv', if_neg e]
        exact h2 k o (by omega) hok
end
def unl : List Bool → Nat
  | [] => 0
  | true :: r => unl r
  | false :: r => unl r + 1
theorem unl_set : ∀ (l : List Bool) (i : Nat), l[i]? = some false → unl (l.set i true) + 1 = unl l
  | [], i, h => by simp at h
  | true :: r, 0, h => by simp at h
  | false :: r, 0, h => rfl
  | true :: r, i + 1, h => by rw [List.set_cons_succ]; simp only [unl]; exact unl_set r i (by simpa using h)
  | false :: r, i + 1, h => by rw [List.set_cons_succ]; simp only [unl]; rw [unl_set r i (by simpa using h)]
theorem unl_zero : ∀ (l : List Bool), unl l = 0 → ∀ i : Nat, l[i]? ≠ some false
  | [], h, i => by simp
  | true :: r, h, 0 => by simp
  | false :: r, h, i => by simp [unl] at h
  | true :: r, h, i + 1 => by rw [List.getElem?_cons_succ]; exact unl_zero r (by simpa only [unl] using h) i
theorem unl_rep : ∀ n, unl (List.replicate n false) = n
  | 0 => rfl
  | n + 1 => by rw [List.replicate_succ, unl, unl_rep n]
theorem nat_eq {a b : Nat} (h : ¬ a < b) (k : ¬ b < a) : a = b := by omega
theorem listed_set {L : Array Bool} {i j : Nat} (hi : i < L.size) : (L.setIfInBounds i true).getD j false = true ↔ L.getD j false = true ∨ j = i := by
  simp only [Array.getD_eq_getD_getElem?, Array.getElem?_setIfInBounds]
  by_cases h : i = j
  · subst h; simp [hi]
  · rw [if_neg h]
    have : j ≠ i := fun e => h e.symm
    simp [this]
section
variable {P : Program} {NG : Nat} {GW : World → Prop} {io : List Nat} {w0 : World} {pd0 : Nat → Nat → Prop} {C : Cx} {R : Type} {K : Env → Option R} {r : R} {Q : Exit → Act → World → Prop} {env0 : Env} {ops : Array Oper} {n : Nat} {vals : Nat → VV} {sv : Nat → Option (Nat × VV)}
open Classical in
theorem QS.at {D : Nat → Option Nat} {S S' : Nat → Prop} {e e' : Env} (h : QS D vals env0 n S e) (h' : QS D vals env0 n S' e') {t : Nat} (hs : ∀ (k : Nat), k < n → D k = some t → (S k ↔ S' k)) : get e t = get e' t := by
  by_cases ht : t < env0.length
  · by_cases hx : ∃ (k : Nat), k < n ∧ (D k = some t ∧ S k)
    · obtain ⟨k, h1, ⟨h3, h4⟩, h5⟩ := exists_max n hx
      rw [h.hit k t h1 h3 h4 ht fun j a b c d => h5 j a b ⟨c, d⟩, h'.hit k t h1 h3 ((hs k h1 h3).1 h4) ht fun j a b c d => h5 j a b ⟨c, (hs j b c).2 d⟩]
    · have hm : ∀ (k : Nat), k < n → D k = some t → ¬ S k := fun k h1 h3 h4 => hx ⟨k, h1, h3, h4⟩
      rw [h.miss t hm, h'.miss t fun k h1 h3 h4 => hm k h1 h3 ((hs k h1 h3).2 h4)]
  · have hn : ∀ {e : Env}, e.length = env0.length → get e t = .un := fun he => nth_none (List.getElem?_eq_none (by omega))
    rw [hn h.len, hn h'.len]
theorem vops_step {dr : Option (List Nat)} (hti : TIok P C.ti) (gws : ∀ w w', GW w → Below NG w w' → GW w') (hC : CallOk P NG GW C.call) {G : Gh} {env : Env} {a : Act} {w : World} {i : Nat} {o : Oper} {rest : List Oper} {Nk : Act → World → Prop} (hi : ops[i]? = some o) (hs : Sim NG GW io w0 pd0 G env a w) (h : vops C ops.toList dr (o :: rest) env K = some r) (hN : ∀ G' env' a' w', Sim NG GW io w0 pd0 G' env' a' w' → vops C ops.toList dr rest env' K = some r → Nk a' w') : wpOp P ops Q i Nk a w := by
  have hnext : Nx NG GW io w0 pd0 (fun env' => vops C ops.toList dr rest env' K) r Nk := fun G' env' a' w' hs' h' => hN G' env' a' w' hs' h'
  unfold wpOp
  rw [hi]
  simp only
  rw [vops] at h
  split at h
  · rename_i hg
    have hw : Region.wanted o (yielded ops a.tmps) = true := by simp [Region.wanted, hg]
    rw [if_pos hw]
    exact .inl (vop_sound hti gws hC hs hnext h)
  · rename_i j want hg
    have hskip : ∀ (h2 : vput dr o.dst (.s undef) env (fun env' => vops C ops.toList dr rest env' K) = some r), Nk (a.put o.dst undef) w := fun h2 => hnext _ _ _ _ (hs.put o.dst fun d _ => VR.slot (VR.of_dr (.s _)) d) (vput_some h2)
    split at h
    · rename_i b hb
      have hy := seen_ok hs hb
      rcases bite_some h with ⟨hbw, h⟩ | ⟨hbw, h⟩
      · have hw : Region.wanted o (yielded ops a.tmps) = true := by simp only [Region.wanted, hg, hy]; simpa using hbw
        rw [if_pos hw]
        exact .inl (vop_sound hti gws hC hs hnext h)
      · have hw : ¬ Region.wanted o (yielded ops a.tmps) = true := by simp only [Region.wanted, hg, hy]; simpa using hbw
        rw [if_neg hw]
        exact hskip h
    · rename_i hb
      have hy := seen_ok hs hb
      have hw : ¬ Region.wanted o (yielded ops a.tmps) = true := by simp [Region.wanted, hg, hy]
      rw [if_neg hw]
      exact hskip h
    · cases h
inductive AnySt (C : Cx) (ops : Array Oper) (K : Env → Option R) (r : R) (vals : Nat → VV) (sv : Nat → Option (Nat × VV)) (env0 : Env) (n : Nat) (L : Array Bool) (env : Env) : Prop where
  | quiet (h0 : ∀ j, n ≤ j → L.getD j false = false) (h1 : Down ops.toList L) (h2 : QS (DD ops.toList sv) (VD vals sv) env0 (2 * n) (fun j => L.getD (j / 2) false = true) env)
  | last (j : Nat) (h0 : ∀ i, L.getD i false = true ↔ i < j) (hn : n ≤ j) (hj : j ≤ ops.size) (h1 : vops C ops.toList (some (allocs ops.toList)) (ops.toList.drop j) env K = some r)
theorem any_ok (hti : TIok P C.ti) (gws : ∀ w w', GW w → Below NG w w' → GW w') (hC : CallOk P NG GW C.call) (hO : Ord C ops.toList n)
    (hal0 : (allocs ops.toList).any (fun d => env0.any (refersD d)) = false)
    (hch : vops C ops.toList (some (allocs ops.toList)) (ops.toList.drop n) (chO ops.toList vals sv env0 n) K = some r)
    (hq : ∀ (k : Nat) o, k < n → ops.toList[k]? = some o → QStep P NG GW io w0 pd0 Q ops.toList (allocs ops.toList) k o (chO ops.toList vals sv env0 k) (vals k) (sv k)) (hsv : ∀ k, n ≤ k → sv k = none)
    (hn : Nx NG GW io w0 pd0 K r (Q .normal)) :
    ∀ (fuel : Nat) (L : Array Bool) (G : Gh) (env : Env) (a : Act) (w : World), L.size = ops.size → unl L.toList ≤ fuel → AnySt C ops K r vals sv env0 n L env → Sim NG GW io w0 pd0 G env a w → wpAny P .any ops Q fuel L a w := by
  have wr : ∀ (j : Nat) t, DD ops.toList sv j = some t → j < 2 * n → ∃ o, ops.toList[j / 2]? = some o ∧ Wr ops.toList o t ∧ (j % 2 = 0 → sdOf ops.toList o = some t ∧ plain (get (chO ops.toList vals sv env0 (j / 2)) t) = true ∧ ∃ xs, VD vals sv j = .sl xs) ∧ (j % 2 = 1 → o.dst = some t) := by
    intro j t hj hjn
    have hlt : j / 2 < ops.toList.length := by have := hO.le; omega
    have ho : ops.toList[j / 2]? = some (ops.toList[j / 2]'hlt) := List.getElem?_eq_getElem hlt
    refine ⟨_, ho, ?_⟩
    rcases Nat.mod_two_eq_zero_or_one j with h2 | h2
    · have e : j = 2 * (j / 2) := by omega
      rw [e, DD_even] at hj
      cases hs : sv (j / 2) with
      | none => rw [hs] at hj; cases hj
      | some p =>
        rw [hs] at hj
        obtain ⟨t', s'⟩ := p
        cases hj
        obtain ⟨h3, h4, xs, h5⟩ := (hq (j / 2) _ (by omega) ho).2.2.2.2.1 _ s' hs
        refine ⟨.inr h3, fun _ => ⟨h3, h4, xs, ?_⟩, fun h => by omega⟩
        rw [e, VD_even, hs]
        exact h5
    · have e : j = 2 * (j / 2) + 1 := by omega
      rw [e, DD_odd, ho] at hj
      exact ⟨.inl hj, fun h => by omega, fun _ => hj⟩
  have full : ∀ (L : Array Bool) (G : Gh) (env : Env) (a : Act) (w : World), (∀ i, i < ops.size → L.getD i false = true) → AnySt C ops K r vals sv env0 n L env → Sim NG GW io w0 pd0 G env a w → Q .normal a w := by
    intro L G env a w hf hst hs
    have hl := hO.le
    cases hst with
    | quiet h0 h1 h2 =>
      have hnn : ops.size ≤ n := Nat.le_of_not_lt fun hlt => by have := hf n hlt; rw [h0 n (Nat.le_refl _)] at this; cases this
      have he : env = chO ops.toList vals sv env0 n := h2.uniq ((QS.chain (2 * n) (Nat.le_refl _)).congr fun k hk => ⟨fun _ => hf (k / 2) (by simp at hl; omega), fun _ => hk⟩)
      rw [List.drop_eq_nil_of_le (by simpa using hnn), ← he] at hch
      exact hn _ _ _ _ hs hch
    | last j h0 hnj hj h1 =>
      have : ops.size ≤ j := Nat.le_of_not_lt fun hlt => by have := (h0 j).1 (hf j hlt); omega
      rw [List.drop_eq_nil_of_le (by simpa using this)] at h1
      exact hn _ _ _ _ hs h1
  have noready : ∀ (L : Array Bool), L.size = ops.size → Region.ready .any ops L = [] → ∀ i, i < ops.size → L.getD i false = true := by
    intro L hsz hr i
    induction i using Nat.strongRecOn with
    | _ i ih =>
      intro hi
      by_cases hL : L.getD i false = true
      · exact hL
      · exfalso
        have ho : ops.toList[i]? = some (ops.toList[i]'(by simpa using hi)) := List.getElem?_eq_getElem (by simpa using hi)
        have hm : i ∈ Region.ready .any ops.toList.toArray L := ready_iff.2 ⟨_, ho, by
          simp only [Array.getD_eq_getD_getElem?] at hL ⊢
          rw [Array.getElem?_eq_getElem (by omega)] at hL ⊢
          simpa using hL, fun e he hb => by
            have := hO.edge i _ ho e he hb
            exact ih e.on this (by omega)⟩
        rw [Array.toArray_toList] at hm
        rw [hr] at hm; cases hm
  intro fuel
  induction fuel with
  | zero =>
    intro L G env a w hsz hu hst hs
    have hall : ∀ i, i < ops.size → L.getD i false = true := by
      intro i hi
      have := unl_zero L.toList (by omega) i
      rw [Array.getElem?_toList, Array.getElem?_eq_getElem (by omega)] at this
      rw [Array.getD_eq_getD_getElem?, Array.getElem?_eq_getElem (by omega)]
      simpa using this
    refine ⟨?_, full L G env a w hall hst hs⟩
    refine List.eq_nil_iff_forall_not_mem.2 fun i hi => ?_
    rw [← Array.toArray_toList (xs := ops)] at hi
    obtain ⟨o, ho, h1, h2⟩ := ready_iff.1 hi
    have hlt : i < ops.size := by simpa using (List.getElem?_eq_some_iff.1 ho).1
    have := hall i hlt
    rw [Array.getD_eq_getD_getElem?, Array.getElem?_eq_getElem (by omega)] at this h1
    simp at this h1
    rw [this] at h1; cases h1
  | succ fuel ih =>
    intro L G env a w hsz hu hst hs
    refine ⟨fun hr => full L G env a w (noready L hsz hr) hst hs, fun i hi => ?_⟩
    rw [← Array.toArray_toList (xs := ops)] at hi
    obtain ⟨o, ho, hLi, hre⟩ := ready_iff.1 hi
    have hlt : i < ops.size := by simpa using (List.getElem?_eq_some_iff.1 ho).1
    have hLi' : L.getD i false = false := by
      rw [Array.getD_eq_getD_getElem?, Array.getElem?_eq_getElem (by omega)] at hLi ⊢
      simpa using hLi
    have hget : L.toList[i]? = some false := by
      rw [Array.getD_eq_getD_getElem?, Array.getElem?_eq_getElem (by omega)] at hLi
      rw [Array.getElem?_toList, Array.getElem?_eq_getElem (by omega)]
      simpa using hLi
    have hoa : ops[i]? = some o := by rw [← ho]; simp
    have hsz' : (L.setIfInBounds i true).size = ops.size := by simpa using hsz
    have hu' : unl (L.setIfInBounds i true).toList ≤ fuel := by
      have := unl_set L.toList i hget
      rw [Array.toList_setIfInBounds]; omega
    have hset : ∀ j, (L.setIfInBounds i true).getD j false = true ↔ L.getD j false = true ∨ j = i := fun j => listed_set (by omega)
    have seq : ∀ (j : Nat), (∀ i, L.getD i false = true ↔ i < j) → n ≤ j → j ≤ ops.size → (∀ k, k < i → ((befores ops.toList []).getD i 0).testBit k = true) → Down ops.toList L → vops C ops.toList (some (allocs ops.toList)) (ops.toList.drop j) env K = some r → wpOp P ops Q i (wpAny P .any ops Q fuel (L.setIfInBounds i true)) a w := by
      intro j h0 hnj hj hbs hd h1
      have hij : i = j := by
        have h3 : ¬ i < j := fun h => by have := (h0 i).2 h; rw [hLi'] at this; cases this
        have h4 : ¬ j < i := fun h => by
          have := before_listed hd i o ho hre j (hbs j h)
          have := (h0 j).1 this
          omega
        omega
      subst hij
      rw [List.drop_eq_getElem_cons (by simpa using hlt)] at h1
      have hoe : ops.toList[i]'(by simpa using hlt) = o := by
        have := List.getElem?_eq_getElem (l := ops.toList) (i := i) (by simpa using hlt)
        rw [ho] at this; exact (Option.some.inj this).symm
      rw [hoe] at h1
      refine vops_step hti gws hC hoa hs h1 fun G' env' a' w' hs' h' => ih _ G' env' a' w' hsz' hu' (.last (i + 1) (fun k => ?_) (by omega) (by omega) h') hs'
      rw [hset, h0]; omega
    cases hst with
    | quiet h0 hd0 h2 =>
      by_cases hin : i < n
      ·
        have hQ := hq i o hin ho
        have hch2 := QS.chain (vals := VD vals sv) (D := DD ops.toList sv) (n := 2 * n) (env0 := env0) (2 * i) (by omega)
        have later : ∀ (k : Nat) p d, i < k → k < n → ops.toList[k]? = some p → Wr ops.toList p d → Wr ops.toList o d → ¬ L.getD k false = true := fun k p d hik hk hp h1 h3 h => by
          have := before_listed hd0 k p hp (hd0 k p hp h) i (hO.dist i k o p d hik hk ho hp h3 h1)
          rw [hLi'] at this; cases this
        have hag : Agree ops.toList (allocs ops.toList) o (chO ops.toList vals sv env0 i) env := by
          refine ⟨fun t ht => ?_, fun t cs hta hb => ?_, fun d hd' => ?_, fun d hda => ?_⟩
          · refine h2.at hch2 fun j hj hd => ?_
            obtain ⟨p, hp, hpd, _, _⟩ := wr j t hd hj
            rcases Nat.lt_trichotomy (j / 2) i with hki | hki | hki
            · refine ⟨fun _ => by omega, fun _ => ?_⟩
              cases hb : ((befores ops.toList []).getD i 0).testBit (j / 2)
              · exact absurd (by simpa using ht) ((hO.apart (j / 2) i p o hki hin hp ho hb).1 t hpd)
              · exact before_listed hd0 i o ho hre (j / 2) hb
            · rw [hki]
              exact ⟨fun h => absurd h (by rw [hLi']; decide), fun h => by omega⟩
            · refine ⟨fun h => ?_, fun h => by omega⟩
              exfalso
              cases hb : ((befores ops.toList []).getD (j / 2) 0).testBit i
              · exact absurd (by simpa using ht) ((hO.apart i (j / 2) o p hki (by omega) ho hp hb).2 t hpd)
              · have := before_listed hd0 (j / 2) p hp (hd0 (j / 2) p hp h) i hb
                rw [hLi'] at this; cases this
          · by_cases hx : ∃ (j : Nat), j < 2 * n ∧ DD ops.toList sv j = some t
            · have htl : t < env0.length := by
                refine Nat.lt_of_not_le fun hle => ?_
                rw [get, nth_none (List.getElem?_eq_none (by rw [show (chO ops.toList vals sv env0 i).length = env0.length from hch2.len]; exact hle))] at hb
                cases hb
              by_cases hki : ∃ (j : Nat), j < 2 * n ∧ (DD ops.toList sv j = some t ∧ j < 2 * i)
              · obtain ⟨j, hj, ⟨hd, hji⟩, hmax⟩ := exists_max _ hki
                obtain ⟨p, hp, hpd, hev, hod⟩ := wr j t hd hj
                rw [chO, hch2.hit j t hj hd hji htl fun j' a b c d => hmax j' a b ⟨c, d⟩] at hb
                rcases Nat.mod_two_eq_zero_or_one j with h6 | h6
                · obtain ⟨_, _, xs, h7⟩ := hev h6
                  rw [h7] at hb; cases hb
                · have e : j = 2 * (j / 2) + 1 := by omega
                  rw [e, VD_odd] at hb
                  exact absurd ((hq (j / 2) p (by omega) hp).2.2.1 cs hb t (hod h6)) hta
              · obtain ⟨j0, hj0, hd0'⟩ := hx
                obtain ⟨j, hjle, hd, hmin⟩ := exists_min (p := fun j => DD ops.toList sv j = some t) hd0'
                obtain ⟨p, hp, hpd, hev, hod⟩ := wr j t hd (by omega)
                have hge : ¬ j < 2 * i := fun h => hki ⟨j, by omega, hd, h⟩
                have hchk := QS.chain (D := DD ops.toList sv) (n := 2 * n) (vals := VD vals sv) (env0 := env0) (2 * (j / 2)) (by omega)
                have h5 : get (chO ops.toList vals sv env0 i) t = get env0 t := hch2.miss t fun j' hj' hd' h => hki ⟨j', hj', hd', h⟩
                have h6 : get (chO ops.toList vals sv env0 (j / 2)) t = get env0 t := hchk.miss t fun j' hj' hd' h => hmin j' (by omega) hd'
                have h8 : plain (get (chO ops.toList vals sv env0 (j / 2)) t) = true := by
                  rcases Nat.mod_two_eq_zero_or_one j with h7 | h7
                  · exact (hev h7).2.1
                  · exact (hq (j / 2) p (by omega) hp).1 t (hod h7)
                rw [h6, ← h5, hb] at h8
                cases h8
            · have hm : ∀ (j : Nat), j < 2 * n → DD ops.toList sv j ≠ some t := fun j h1 h4 => hx ⟨j, h1, h4⟩
              rw [chO, hch2.miss t fun j h1 h4 => absurd h4 (hm j h1)] at hb
              rw [h2.miss t fun j h1 h4 => absurd h4 (hm j h1)]
              exact hb
          · have := hQ.1 d hd'
            rw [h2.at hch2 (t := d) fun j hj hd => ?_]
            · exact this
            · obtain ⟨p, hp, hpd, _, _⟩ := wr j d hd hj
              rcases Nat.lt_trichotomy (j / 2) i with hki | hki | hki
              · exact ⟨fun _ => by omega, fun _ => before_listed hd0 i o ho hre (j / 2) (hO.dist (j / 2) i p o d hki hin hp ho hpd (.inl hd'))⟩
              · rw [hki]
                exact ⟨fun h => absurd h (by rw [hLi']; decide), fun h => by omega⟩
              · exact ⟨fun h => absurd h (later (j / 2) p d hki (by omega) hp hpd (.inl hd')), fun h => by omega⟩
          · refine List.any_eq_false.2 fun v hv => ?_
            obtain ⟨t, ht, rfl⟩ := List.getElem_of_mem hv
            have hgt : get env t = env[t] := nth_some (List.getElem?_eq_getElem ht)
            rw [← hgt]
            by_cases hx : ∃ (j : Nat), j < 2 * n ∧ (DD ops.toList sv j = some t ∧ L.getD (j / 2) false = true)
            · obtain ⟨j, hj, ⟨hd, hs4⟩, hmax⟩ := exists_max _ hx
              obtain ⟨p, hp, hpd, hev, hod⟩ := wr j t hd hj
              rw [h2.hit j t hj hd hs4 (by rw [← h2.len]; exact ht) fun j' a b c d => hmax j' a b ⟨c, d⟩]
              rcases Nat.mod_two_eq_zero_or_one j with h6 | h6
              · obtain ⟨_, _, xs, h7⟩ := hev h6
                rw [h7]; simp [refersD, refers]
              · have e : j = 2 * (j / 2) + 1 := by omega
                rw [e, VD_odd]
                have := (hq (j / 2) p (by omega) hp).2.1 d hda (by rw [hod h6]; simp)
                rw [this]; simp
            · rw [h2.miss t fun j h1 h3 h5 => hx ⟨j, h1, h3, h5⟩]
              have h7 := List.any_eq_false.1 hal0 d hda
              have h7' : env0.any (refersD d) = false := by simpa using h7
              have ht0 : t < env0.length := by rw [← h2.len]; exact ht
              have := List.any_eq_false.1 h7' env0[t] (List.getElem_mem _)
              rw [get, nth_some (List.getElem?_eq_getElem ht0)]
              exact this
        have hw := hQ.2.2.2.2.2 env G a w hag hs (wpAny P .any ops Q fuel (L.setIfInBounds i true)) (fun G' a' w' hs' => ih _ G' _ a' w' hsz' hu' (.quiet ?_ ?_ ?_) hs')
        · rwa [Array.toArray_toList] at hw
        · intro j hj
          have : ¬ (L.setIfInBounds i true).getD j false = true := fun h => by
            rcases (hset j).1 h with h | h
            · rw [h0 j hj] at h; cases h
            · omega
          simpa using this
        · intro j p hp hj e he hb
          rw [hset]
          rcases (hset j).1 hj with h | h
          · exact .inl (hd0 j p hp h e he hb)
          · subst h; rw [ho] at hp; cases hp
            exact .inl (hre e he hb)
        · have e2 : 2 * i / 2 = i := by omega
          have st1 := h2.step (k := 2 * i) (by omega) (by rw [e2, hLi']; simp) (fun j d hij hj hd hd2 h => by
            obtain ⟨p, hp, hpd, _, _⟩ := wr j d hd hj
            obtain ⟨p2, hp2, hpd2, _, _⟩ := wr (2 * i) d hd2 (by omega)
            rw [e2, ho] at hp2; cases hp2
            by_cases hji : j / 2 = i
            · rw [hji, hLi'] at h; cases h
            · exact later (j / 2) p d (by omega) (by omega) hp hpd hpd2 h)
          rw [DD_even, VD_even, put_put2] at st1
          have e3 : (2 * i + 1) / 2 = i := by omega
          have st2 := st1.step (k := 2 * i + 1) (by omega) (fun h => by
            rcases h with h | h
            · rw [e3, hLi'] at h; cases h
            · omega) (fun j d hij hj hd hd2 h => by
            obtain ⟨p, hp, hpd, _, _⟩ := wr j d hd hj
            obtain ⟨p2, hp2, hpd2, _, _⟩ := wr (2 * i + 1) d hd2 (by omega)
            rw [e3, ho] at hp2; cases hp2
            rcases h with h | h
            · exact later (j / 2) p d (by omega) (by omega) hp hpd hpd2 h
            · omega)
          rw [DD_odd, VD_odd, ho] at st2
          refine st2.congr fun k hk => ?_
          rw [hset]
          constructor
          · rintro ((h | h) | h)
            · exact .inl h
            · exact .inr (by omega)
            · exact .inr (by omega)
          · rintro (h | h)
            · exact .inl (.inl h)
            · rcases Nat.mod_two_eq_zero_or_one k with h6 | h6
              · exact .inl (.inr (by omega))
              · exact .inr (by omega)
      ·
        have hsol := fun k (hk : k < i) => hO.solid k i (by omega) (by simpa using hlt) hk
        have hall : ∀ k, k < i → L.getD k false = true := fun k hk => before_listed hd0 i o ho hre k (hsol k hk)
        have hni : n = i := by
          refine nat_eq (fun h => ?_) (fun h => by omega)
          have := hall n h
          rw [h0 n (Nat.le_refl _)] at this; cases this
        have hle : ∀ k, L.getD k false = true ↔ k < n := fun k => ⟨fun h => Nat.lt_of_not_le fun hk => absurd h (by rw [h0 k hk]; decide), fun h => hall k (by omega)⟩
        have he : env = chO ops.toList vals sv env0 n := h2.uniq ((QS.chain (2 * n) (Nat.le_refl _)).congr fun k hk => ⟨fun _ => (hle (k / 2)).2 (by omega), fun _ => hk⟩)
        rw [← he] at hch
        exact seq n hle (Nat.le_refl _) (by simpa using hO.le) hsol hd0 hch
    | last j h0 hnj hj h1 =>
      have hd : Down ops.toList L := fun k p hp hk e he hb => by
        have h5 := (h0 k).1 hk
        have := hO.edge k p hp e he hb
        exact (h0 e.on).2 (by omega)
      have hge : n ≤ i := by
        have : ¬ i < j := fun h => by have := (h0 i).2 h; rw [hLi'] at this; cases this
        omega
      exact seq j h0 hnj hj (fun k hk => hO.solid k i hge (by simpa using hlt) hk) hd h1
theorem any_sound (hm : P.follows .mixedOrders = true) (hti : TIok P C.ti) (gws : ∀ w w', GW w → Below NG w w' → GW w') (hC : CallOk P NG GW C.call) : AnyOk P NG GW C := by
  intro R io w0 pd0 G env a w K r Q id ops hO hal hs h hn
  obtain ⟨n, hO⟩ := anyOrder_ord hO
  have hmem : ∀ (k : Nat) o t d, ops.toList[k]? = some o → o.op = .alloc t → o.dst = some d → d ∈ allocs ops.toList := by
    intro k o t d ho hop hd
    unfold allocs
    exact List.mem_filterMap.2 ⟨o, List.mem_of_getElem? ho, by rw [hop]; exact hd⟩
  obtain ⟨vals, sv, h1, h0, h2⟩ := canon (io := io) (w0 := w0) (pd0 := pd0) (Q := Q) hti gws hC hO hmem h n (Nat.le_refl _)
  refine wp_region_any hm (any_ok hti gws hC hO hal h1 h2 h0 hn ops.size _ G env a w.drew (by simp) ?_ (.quiet ?_ ?_ ?_) (hs.drew gws))
  · rw [Array.toList_replicate, unl_rep]; exact Nat.le_refl _
  · intro j hj
    simp only [Array.getD_eq_getD_getElem?, Array.getElem?_replicate]
    split <;> rfl
  · intro j o ho hj
    simp only [Array.getD_eq_getD_getElem?, Array.getElem?_replicate] at hj
    split at hj <;> simp at hj
  · refine ⟨rfl, fun k d hk hd hsk => ?_, fun _ _ => rfl⟩
    simp only [Array.getD_eq_getD_getElem?, Array.getElem?_replicate] at hsk
    split at hsk <;> simp at hsk
end
def kindB : IntKind → IntKind → Bool
  | a, b => decide (a = b)
def zB : Value → Value → Bool
  | .int k 0, .int k' 0 => kindB k k'
  | .bool false, .bool false => true
  | .string ⟨⟨[]⟩⟩, .string ⟨⟨[]⟩⟩ => true
  | .slice none 0 0, .slice none 0 0 => true
  | .pointer none, .pointer none => true
  | _, _ => false
theorem zB_eq {a b : Value} (h : zB a b = true) : a = b ∧ b.oneCell' = true := by
  unfold zB at h
  split at h <;> first
    | (cases h; done)
    | (simp only [kindB, decide_eq_true_eq] at h; subst h; exact ⟨rfl, rfl⟩)
    | exact ⟨rfl, rfl⟩
def zsB : List Value → List Value → Bool
  | [], [] => true
  | a :: r, b :: s => zB a b && zsB r s
  | _, _ => false
theorem zsB_eq : ∀ {a b : List Value}, zsB a b = true → a = b ∧ ∀ v ∈ b, v.oneCell' = true
  | [], [], _ => ⟨rfl, by simp⟩
  | a :: r, b :: s, h => by
    rw [zsB, Bool.and_eq_true] at h
    obtain ⟨rfl, h1⟩ := zB_eq h.1
    obtain ⟨rfl, h2⟩ := zsB_eq h.2
    exact ⟨rfl, by intro v hv; rcases List.mem_cons.1 hv with rfl | hv; exact h1; exact h2 v hv⟩
  | [], _ :: _, h => by simp [zsB] at h
  | _ :: _, [], h => by simp [zsB] at h
def fsB (P : Program) : List Field → List (Nat × Nat) → Bool
  | [], [] => true
  | f :: r, (o, z) :: s => Nat.beq f.offset o && ((match P.info? f.type with
    | some inf => Nat.beq inf.size z
    | none => false) && fsB P r s)
  | _, _ => false
theorem fsB_ok {P : Program} : ∀ {l : List Field} {fs : List (Nat × Nat)}, fsB P l fs = true → l.length = fs.length ∧ ∀ (j : Nat) o z, fs[j]? = some (o, z) → ∃ f inf, l[j]? = some f ∧ f.offset = o ∧ P.info? f.type = some inf ∧ inf.size = z
  | [], [], _ => ⟨rfl, by simp⟩
  | f :: r, (o, z) :: s, h => by
    rw [fsB, Bool.and_eq_true, Bool.and_eq_true] at h
    obtain ⟨h1, h2, h3⟩ := h
    obtain ⟨hl, h4⟩ := fsB_ok h3
    refine ⟨by simp [hl], fun j o' z' hj => ?_⟩
    cases j with
    | zero =>
      simp at hj
      obtain ⟨rfl, rfl⟩ := hj
      split at h2
      · rename_i inf hi
        exact ⟨f, inf, rfl, Nat.eq_of_beq_eq_true h1, hi, Nat.eq_of_beq_eq_true h2⟩
      · cases h2
    | succ j => exact h4 j o' z' (by simpa using hj)
  | [], _ :: _, h => by simp [fsB] at h
  | _ :: _, [], h => by simp [fsB] at h
def infoB (P : Program) (t : TypeId) (i : TI) : Bool := match P.info? t with
  | some inf => (match inf.zero with
    | some z => zsB z.cells.toList i.zero && (Nat.beq inf.size i.sz && (Nat.beq inf.bytes i.bytes && (Nat.beq i.zero.length i.sz && (match i.k with
      | .agg _ => (match z with
        | .agg _ => true
        | _ => false)
      | _ => Nat.beq i.sz 1))))
    | none => false)
  | none => false
def undB (P : Program) (t : TypeId) : TK → Bool
  | .agg fs => (match P.underlying t with
    | some (.struct fields) => fsB P fields.toList fs
    | _ => false)
  | .slice e => (match P.underlying t with
    | some (.slice e') => Nat.beq e' e
    | _ => false)
  | .str => (match P.underlying t with
    | some .string => true
    | _ => false)
  | .bool => (match P.underlying t with
    | some .bool => true
    | _ => false)
  | .int k => (match P.underlying t with
    | some (.int k') => kindB k' k
    | _ => false)
  | .ptr => (match P.underlying t with
    | some (.pointer _) => true
    | _ => false)
def look : List (TypeId × TI) → TypeId → Option TI
  | [], _ => none
  | (u, i) :: r, t => match Nat.beq u t with
    | true => some i
    | false => look r t
theorem look_all {q : TypeId × TI → Bool} : ∀ {l : List (TypeId × TI)} {t : TypeId} {i : TI}, l.all q = true → look l t = some i → q (t, i) = true
  | [], t, i, _, h => by cases h
  | (u, j) :: r, t, i, ha, h => by
    rw [List.all_cons, Bool.and_eq_true] at ha
    rw [look] at h
    split at h
    · rename_i hb
      cases h
      have := Nat.eq_of_beq_eq_true hb
      subst this
      exact ha.1
    · exact look_all ha.2 h
theorem TIok.of {P : Program} {l : List (TypeId × TI)} (h1 : l.all (fun p => infoB P p.1 p.2) = true) (h2 : l.all (fun p => undB P p.1 p.2.k) = true) : TIok P (look l) := by
  refine ⟨fun t i h => ?_, fun t i h => ?_⟩
  · have := look_all h1 h
    simp only [infoB] at this
    split at this
    case h_2 => cases this
    rename_i inf hinf
    split at this
    case h_2 => cases this
    rename_i z hz
    simp only [Bool.and_eq_true] at this
    obtain ⟨a, b, c, d, e⟩ := this
    obtain ⟨a1, a2⟩ := zsB_eq a
    refine ⟨inf, z, hinf, hz, a1, Nat.eq_of_beq_eq_true b, Nat.eq_of_beq_eq_true c, Nat.eq_of_beq_eq_true d, a2, ?_⟩
    cases hk : i.k <;> simp only [hk] at e ⊢ <;> first
      | exact Nat.eq_of_beq_eq_true e
      | (split at e
         · exact ⟨_, rfl⟩
         · cases e)
  · have := look_all h2 h
    simp only at this
    cases hk : i.k <;> simp only [hk, undB] at this ⊢ <;> split at this <;> first
      | (cases this; done)
      | (rename_i h3; exact h3)
      | (rename_i h3; exact ⟨_, h3⟩)
      | (rename_i h3; simp only [kindB, decide_eq_true_eq] at this; rw [h3, this])
      | (rename_i h3; rw [h3, Nat.eq_of_beq_eq_true this])
      | (rename_i h3
         obtain ⟨h4, h5⟩ := fsB_ok this
         exact ⟨_, h3, by simpa using h4, fun j o z hj => by
          obtain ⟨f, inf, h6, h7⟩ := h5 j o z hj
          exact ⟨f, inf, by simpa using h6, h7⟩⟩)
end Go.Proofs.YteldcmniknocpaaGreatDoor.VI

end
section
namespace Go.Proofs.YteldcmniknocpaaGreatDoor.VI
open Go Go.RowKit Go.Proofs.YteldcmniknocpaaGreatDoorW.PrintWords
set_option linter.unusedVariables false
set_option linter.unusedSimpArgs false
abbrev anyP : Nat → Nat → Prop := fun _ _ => True
structure KV {α : Type} (d : Kd α) (enc : α → List VV) : Prop where
  pos : 0 < d.sz
  len : ∀ x, (enc x).length = d.sz
  rel : ∀ {w x cs}, d.K w x cs → DRs anyP w (enc x) cs
theorem kv_scalar {α : Type} {mk : α → Value} {h1 : ∀ x, (mk x).oneCell' = true} : KV (Kd.scalar mk h1) (fun x => [.s (mk x)]) :=
  ⟨Nat.one_pos, fun _ => rfl, fun {w x cs} h => by cases h; exact .cons _ _ _ _ (.s _) .nil⟩
theorem kv_string : KV Kd.string (fun x => [VV.str x]) := kv_scalar (h1 := fun _ => rfl)
theorem kv_bool : KV Kd.bool (fun x => [VV.bool x]) := kv_scalar (h1 := fun _ => rfl)
theorem kv_int : KV (Kd.int .i64) (fun x => [VV.int x]) := kv_scalar (h1 := fun _ => rfl)
theorem kv_byte : KV (Kd.int .u8) (fun x => [VV.byte x]) := kv_scalar (h1 := fun _ => rfl)
theorem dr_row {α : Type} {d : Kd α} {enc : α → VV} (h : KV d (fun x => (enc x).cells)) {w : World} {A : Option Addr} {xs : List α} {c : Nat} (hc : xs.length ≤ c) (hr : Kd.C d w A xs.length xs) : DR anyP w (.sl (xs.map enc)) (.slice A xs.length c) := by
  obtain ⟨_, hm, hA⟩ := hr
  by_cases h0 : xs.length = 0
  · obtain rfl := List.eq_nil_of_length_eq_zero h0
    exact .sl0 _ _
  obtain ⟨ad, rfl, hrow⟩ := hA (by omega)
  have hsp : ad.spot = none := by
    obtain ⟨cs, hl, _, hcell⟩ := hrow 0 _ (List.getElem?_eq_getElem (by omega))
    have hp := h.pos
    have h1 := hcell 0 _ (List.getElem?_eq_getElem (by omega))
    rw [Nat.zero_mul, Nat.zero_add] at h1
    have h2 : ad.add 0 = ad := by simp [Addr.add]
    rw [h2] at h1
    unfold World.cell? at h1
    split at h1
    · cases hs : ad.spot with
      | none => rfl
      | some _ => rw [hs] at h1; simp at h1
    · cases h1
  obtain ⟨g, off, sp⟩ := ad
  subst hsp
  have key : ∀ (ys : List α) (j0 : Nat), (∀ j p, ys[j]? = some p → ∃ c, c.length = d.sz ∧ d.K w p c ∧ ∀ i u, c[i]? = some u → w.cell? ((⟨g, off, none⟩ : Addr).add ((j0 + j) * d.sz + i)) = some u) → ∃ ms : List Value, DRs anyP w (ys.flatMap fun x => (enc x).cells) ms ∧ (∀ u ∈ ms, u.oneCell' = true) ∧ ∀ (k : Nat) u, ms[k]? = some u → w.cell? ⟨g, off + (j0 * d.sz + k), none⟩ = some u := by
    intro ys
    induction ys with
    | nil => intro j0 _; exact ⟨[], .nil, by simp, fun k u hk => by simp at hk⟩
    | cons y r ih =>
      intro j0 hy
      obtain ⟨c, hl, hK, hcell⟩ := hy 0 y rfl
      obtain ⟨ms, h1, h2, h3⟩ := ih (j0 + 1) fun j p hp => by
        obtain ⟨c', q1, q2, q3⟩ := hy (j + 1) p (by simpa using hp)
        refine ⟨c', q1, q2, fun i u hu => ?_⟩
        have := q3 i u hu
        rw [show j0 + (j + 1) = j0 + 1 + j by omega] at this
        exact this
      refine ⟨c ++ ms, by rw [List.flatMap_cons]; exact (h.rel hK).app h1, fun u hu => ?_, fun k u hu => ?_⟩
      · rcases List.mem_append.1 hu with hu | hu
        · exact d.K_one hK u hu
        · exact h2 u hu
      · by_cases hk : k < c.length
        · rw [List.getElem?_append_left hk] at hu
          have := hcell k u hu
          rw [Nat.add_zero] at this
          have hadd : ∀ n, (⟨g, off, none⟩ : Addr).add n = ⟨g, off + n, none⟩ := fun n => by unfold Addr.add; split <;> simp_all
          rw [hadd] at this
          exact this
        · rw [List.getElem?_append_right (by omega)] at hu
          have := h3 (k - c.length) u hu
          rw [show off + ((j0 + 1) * d.sz + (k - c.length)) = off + (j0 * d.sz + k) by rw [Nat.add_mul]; omega] at this
          exact this
  obtain ⟨ms, h1, h2, h3⟩ := key xs 0 (fun j p hp => by rw [Nat.zero_add]; exact hrow j p hp)
  have := DR.sl (pd := anyP) (w := w) (xs.map enc) g off c d.sz ms (by simpa using hc) (by simpa [maxLen] using hm) (by
      intro x hx
      obtain ⟨y, _, rfl⟩ := List.mem_map.1 hx
      exact h.len y) (by rw [List.flatMap_map]; exact h1) h2 fun k u hu => ⟨by have := h3 k u hu; rw [Nat.zero_mul, Nat.zero_add] at this; exact this, trivial⟩
  rw [List.length_map] at this
  exact this
theorem kv_slice {α : Type} {e : Nat} {d : Kd α} {enc : α → VV} (h : KV d (fun x => (enc x).cells)) : KV (Kd.slice e d) (fun xs => [.sl (xs.map enc)]) :=
  ⟨Nat.one_pos, fun _ => rfl, fun {w xs cs} hK => by
    obtain ⟨A, c, rfl, hl, hr⟩ := hK
    exact .cons _ _ _ _ (dr_row h hl hr) .nil⟩
theorem kv_pair {α β : Type} {a : Kd α} {b : Kd β} {ea : α → List VV} {eb : β → List VV} (h : KV a ea) (k : KV b eb) : KV (Kd.pair a b) (fun x => ea x.1 ++ eb x.2) :=
  ⟨by show 0 < a.sz + b.sz; have := h.pos; omega, fun x => by show (ea x.1 ++ eb x.2).length = a.sz + b.sz; rw [List.length_append, h.len, k.len], fun {w x cs} hK => by
    obtain ⟨c0, c1, rfl, h0, h1⟩ := hK
    exact (h.rel h0).app (k.rel h1)⟩
theorem kv_iso {α β : Type} {d : Kd α} {f : β → α} {ea : α → List VV} {eb : β → List VV} (h : KV d ea) (he : ∀ x, eb x = ea (f x)) : KV (Kd.iso d f) eb :=
  ⟨h.pos, fun x => by rw [he]; exact h.len _, fun {w x cs} hK => by rw [he]; exact h.rel hK⟩
section
variable {P : Program} {NG : Nat} {GW : World → Prop} {f : FuncId}
theorem dr_nbx {pd : Nat → Nat → Prop} {w : World} {v : VV} {m : Value} (h : DR pd w v m) (cs : List VV) : v ≠ .bx cs := by cases h <;> exact fun e => VV.noConfusion e
theorem dr_arg {H : Gh} {w : World} {v : VV} {m : Value} (h : DR H.pd w v m) : ArgR H w v m := by cases h <;> (show DR H.pd w _ _) <;> constructor <;> assumption
theorem CallOk1.calls {vs : List VV} {ms : List Value} {v : Value} {w : World} (h : CallOk1 P NG GW f vs (.s v, [])) (hgw : GW w) (hng : NG ≤ w.heap.size) (ha : DRs anyP w vs ms) : Calls P f ms.toArray w fun e w' => e = .returned v ∧ Below w.heap.size w w' := by
  have hnb : ∀ x ∈ vs, ∀ cs, x ≠ .bx cs := fun x hx cs => by
    obtain ⟨i, hi, rfl⟩ := List.getElem_of_mem hx
    obtain ⟨m, _, hd⟩ := ha.get (List.getElem?_eq_getElem hi)
    exact dr_nbx hd cs
  have hio := ioB_none vs ms hnb
  have := h.2 w ms ⟨anyP, anyP, fun _ => 0, fun _ => none, 0⟩ hgw hng ha.length (fun i x m hx hm => dr_arg (H := ⟨anyP, anyP, fun _ => 0, fun _ => none, 0⟩) (ha.at hx hm)) (by rw [hio]; exact List.nodup_nil) (by rw [hio]; simp) (by rw [hio]; simp) (fun _ _ h => h)
  refine this.mono fun e w' he => ?_
  obtain ⟨m, rfl, hfr, pd', _, hres, _⟩ := he
  have hd : DR pd' w' (.s v) m := hres
  cases hd
  exact ⟨rfl, hfr.os, hfr.tape, hfr.output, hfr.size, fun k hk => hfr.block k hk (by rw [hio]; simp)⟩
end
end Go.Proofs.YteldcmniknocpaaGreatDoor.VI

end
section
namespace Go.Proofs.YteldcmniknocpaaGreatDoor.VI
open Go
set_option linter.unusedSimpArgs false
set_option linter.unusedVariables false
def Im {α β : Type} (e : α → β) (x : Option α) (y : Option β) : Prop := ∀ r, x = some r → y = some (e r)
section
variable {α β γ δ : Type} {e : α → β} {x : Option α} {y z : Option β}
theorem Im.none : Im e .none y := fun _ h => by cases h
theorem Im.ret {r : α} (h : y = some (e r)) : Im e (some r) y := fun s hs => by cases hs; exact h
theorem Im.sbind {a : γ} {f : γ → Option α} (h : Im e (f a) y) : Im e ((some a).bind f) y := h
theorem Im.ite {c : Prop} [Decidable c] {a b : Option α} (ht : c → Im e a y) (hf : ¬ c → Im e b y) : Im e (if c then a else b) y := by
  by_cases h : c
  · rw [if_pos h]; exact ht h
  · rw [if_neg h]; exact hf h
theorem Im.iteB {c : Bool} {a b : Option α} (ht : c = true → Im e a y) (hf : c = false → Im e b y) : Im e (if c = true then a else b) y := by
  cases c
  · exact hf rfl
  · exact ht rfl
theorem Im.bite_t {b : Bool} (hb : b = true) (h : Im e x y) : Im e x (bite b y z) := by subst hb; exact h
theorem Im.bite_f {b : Bool} (hb : b = false) (h : Im e x z) : Im e x (bite b y z) := by subst hb; exact h
theorem Im.must {b : Bool} (hb : b = true) (h : Im e x y) : Im e x (VI.must b y) := by subst hb; exact h
theorem Im.bite_s {b : Bool} (ht : b = true → Im e x y) (hf : b = false → Im e x z) : Im e x (bite b y z) := by
  cases b
  · exact hf rfl
  · exact ht rfl
theorem Im.bind {e' : γ → δ} {u : Option γ} {v : Option δ} {f : γ → Option α} {g : δ → Option β} (h : Im e' u v) (k : ∀ a, u = some a → Im e (f a) (g (e' a))) : Im e (u.bind f) (obind v g) := by
  intro r hr
  obtain ⟨a, ha, hr⟩ := Option.bind_eq_some_iff.1 hr
  rw [h a ha]
  exact k a ha r hr
end
end Go.Proofs.YteldcmniknocpaaGreatDoor.VI

end
section
namespace Go.Proofs.YteldcmniknocpaaGreatDoor.VI
open Go Go.RowKit Go.Proofs.YteldcmniknocpaaGreatDoorW.PrintWords
set_option linter.unusedVariables false
set_option linter.unusedSimpArgs false
theorem frc1_eq' {α : Type} (v : VV) (k : VV → α) : frc1 v k = k v := by cases v <;> rfl
theorem frcL_eq' {α : Type} : ∀ (l : List VV) (k : List VV → α), frcL l k = k l
  | [], _ => rfl
  | v :: r, k => by rw [frcL, frc1_eq', frcL_eq' r]
theorem clr_clr : ∀ (l : List Nat) (env : Env) (i : Nat), clr l i (clr l i env) = clr l i env
  | l, [], i => rfl
  | l, v :: r, i => by
    simp only [clr]
    rw [clr_clr l r (i + 1)]
    split <;> rfl
theorem clear_clear (l : Option (List Nat)) (env : Env) : clear l (clear l env) = clear l env := by
  cases l with
  | none => rfl
  | some l => exact clr_clr l env 0
section
variable {α β γ δ : Type} {e : α → β} {x : Option α} {y z : Option β}
theorem iter_clear {l : Option (List Nat)} {g : Env → (Exit → Env → Option β) → Option β} {K : Exit → Env → Option β} : ∀ {M : Nat} {env : Env}, iter (fun env' K' => clearK l env' fun e => g e K') M env K = iter (fun env' K' => clearK l env' fun e => g e K') M (clear l env) K
  | 0, _ => rfl
  | M + 1, env => by simp only [iter, clearK, frcL_eq', clear_clear]
theorem Im.loop {σ : Type} {l : Option (List Nat)} {g : Env → (Exit → Env → Option β) → Option β} {K : Exit → Env → Option β} (S : σ → Env) (L : Nat → σ → Option α) (k0 : Nat) (h0 : ∀ s, L 0 s = Option.none)
    (hs : ∀ k M s, k + 1 ≤ k0 → k ≤ M → (∀ k' s' env, k' ≤ k → clear l env = S s' → Im e (L k' s') (iter (fun env' K' => clearK l env' fun e => g e K') M env K)) → Im e (L (k + 1) s) (iter (fun env' K' => clearK l env' fun e => g e K') (M + 1) (S s) K)) :
    ∀ k M s env, k ≤ k0 → k ≤ M → clear l env = S s → Im e (L k s) (iter (fun env' K' => clearK l env' fun e => g e K') M env K) := by
  intro k
  induction k using Nat.strongRecOn with
  | _ k IH =>
    intro M s env hk hM hc
    cases k with
    | zero => rw [h0]; exact Im.none
    | succ k =>
      obtain ⟨M, rfl⟩ : ∃ M', M = M' + 1 := ⟨M - 1, by omega⟩
      rw [iter_clear, hc]
      exact hs k M s hk (by omega) fun k' s' env' hk' hc' => IH k' (by omega) M s' env' (by omega) (by omega) hc'
theorem Im.nat (F : Nat → Option α) (k : Nat) (h0 : F 0 = Option.none) (hs : ∀ k', k = k' + 1 → Im e (F (k' + 1)) y) : Im e (F k) y := by
  cases k with
  | zero => rw [h0]; exact Im.none
  | succ k => exact hs k rfl
theorem Im.vget {τ : Type} {l : List τ} {enc : τ → VV} {i : Int} {f : VV → Option β} (d : τ) (h0 : 0 ≤ i) (h1 : i < (l.length : Int)) (h : Im e x (f (enc (rdOf d l i)))) : Im e x (vget (l.map enc) i f) := by
  unfold VI.vget
  have hl : i.toNat < l.length := by omega
  rw [List.getElem?_map, List.getElem?_eq_getElem hl]
  simp only [Option.map_some]
  unfold rdOf at h
  rw [List.getD_eq_getElem?_getD, List.getElem?_eq_getElem hl] at h
  exact h
theorem Im.anyo {C : Cx} {l : List Oper} (h : anyOrder C l = true) (k : Im e x y) : Im e x (bite (anyOrder C l) y z) := Im.bite_t h k
theorem Im.fin {b : β} {r : α} (h : b = e r) : Im e (some r) (some b) := Im.ret (congrArg some h)
theorem Im.call {e' : γ → VV × List VV} {u : Option γ} {fn : List VV → Option (VV × List VV)} {us bs : List VV} {f : γ → Option α} {g : VV × List VV → Option β} (h : Im e' u (fn bs)) (ha : us = bs) (k : ∀ a, u = some a → Im e (f a) (g (e' a))) : Im e (u.bind f) (obind (fn us) g) := by
  subst ha
  exact Im.bind h k
end
theorem byL_of : ∀ l : List Int, byL (l.map VV.byte) = some l
  | [] => rfl
  | n :: r => by
    show obind (byL (r.map VV.byte)) _ = _
    rw [byL_of r]
    rfl
theorem Im.byl {α β : Type} {e : α → β} {x : Option α} {l : List Int} {f : List Int → Option β} (h : Im e x (f l)) : Im e x (obind (byL (l.map VV.byte)) f) := by
  rw [byL_of]
  exact h
theorem wr_i64 (n : Int) : wr .i64 n = wrap64 n := rfl
theorem wr_u8 (n : Int) : wr .u8 n = n % 256 := rfl
theorem bt_bt (s : ByteArray) (i : Int) : VI.bt s i = Go.Proofs.YteldcmniknocpaaGreatDoorW.PrintWords.bt s i := rfl
theorem ba_size (a : Array UInt8) : (⟨a⟩ : ByteArray).size = a.size := rfl
theorem ba_toList (a : Array UInt8) : (⟨a⟩ : ByteArray).toList = a.toList := by
  rw [Go.ByteArray.toList_eq]
theorem rd_rdOf (xs : List Int) (i : Int) : Go.Proofs.YteldcmniknocpaaGreatDoorW.PrintWords.rd xs i = rdOf 0 xs i := rfl
theorem u8_bits : IntKind.bits .u8 = 8 := rfl
theorem fdiv_16 (x : Int) : x.fdiv 16 = x / 16 := Int.fdiv_eq_ediv_of_nonneg x (by decide)
theorem fdiv_16b (x : Int) : x.fdiv (2 ^ min (Int.toNat 4) 8) = x / 16 := Int.fdiv_eq_ediv_of_nonneg x (by decide)
theorem bits_and8 (x y : Int) : IntKind.wrap .u8 ((BitVec.ofInt 8 x &&& BitVec.ofInt 8 y).toNat : Int) = Go.bits .and .u8 x y := rfl
theorem bits_and (x y : Int) : IntKind.wrap .u8 ((BitVec.ofInt IntKind.u8.bits x &&& BitVec.ofInt IntKind.u8.bits y).toNat : Int) = Go.bits .and .u8 x y := rfl
theorem and_t {a b : Bool} (h : a = true) (k : b = true) : (a && b) = true := by rw [h, k]; rfl
theorem all_cells {α : Type} {enc : α → VV} {z : Nat} {l : List α} (h : ∀ x, Nat.beq (enc x).cells.length z = true) : ((l.map enc).all fun v => Nat.beq v.cells.length z) = true := by
  rw [List.all_map, List.all_eq_true]
  exact fun x _ => h x
theorem cells_str (b : ByteArray) : (VV.str b).cells = [VV.str b] := rfl
theorem beq_self (n : Nat) : Nat.beq n n = true := Nat.beq_refl n
theorem zr {P : Prop} (h : P := by first | (first | rfl | (simp only [List.length_map, List.length_set, List.length_replicate, List.map_append, List.map_set, List.map_cons, List.map_nil, List.map_replicate, List.map_take, List.map_drop, wr_i64, wr_u8, bt_bt, rd_rdOf, u8_bits, fdiv_16, fdiv_16b, bits_and, bits_and8, ba_toList, bne, Int.zero_sub]; first | done | rfl)) | fail) : P := h
theorem zd {P : Prop} (h : P := by first | (((try clear ih1); (try clear ih2); (try clear ih3); first | assumption | exact decide_eq_true (by assumption) | exact decide_eq_false (by assumption) | (simp [*, wr_i64, wr_u8, bt_bt, rd_rdOf, u8_bits, fdiv_16, fdiv_16b, bits_and, bits_and8, ba_size, ba_toList, bndOk, VV.cells, Nat.beq_eq]; done) | (simp [*, wr_i64, wr_u8, bt_bt, rd_rdOf, u8_bits, fdiv_16, fdiv_16b, bits_and, bits_and8, ba_size, ba_toList, bndOk, VV.cells, Nat.beq_eq]; omega) | ((try simp only [← List.map_take, ← List.map_drop]); refine and_t ?_ (all_cells (fun _ => rfl)); first | (simp [*, bndOk]; done) | (simp [*, bndOk]; omega) | (simp only [List.length_append, List.length_map, List.length_cons, List.length_nil, List.length_take, List.length_drop, Option.getD_none, Option.getD_some, decide_eq_true_eq] at *; omega)) | omega | (simp_all [wr_i64, wr_u8, bt_bt, rd_rdOf, u8_bits, fdiv_16, fdiv_16b, bits_and, bits_and8, ba_size, ba_toList, bndOk, VV.cells, Nat.beq_eq]; done) | (simp [wr_i64, wr_u8, bt_bt, rd_rdOf, u8_bits, fdiv_16, fdiv_16b, bits_and, bits_and8, ba_size, ba_toList, bndOk, VV.cells, Nat.beq_eq] at *; omega))) | fail) : P := h
theorem zm {P : Prop} (h : P := by first | (((with_reducible refine Im.ret ?_); (simp [resv, fixnl, VI.get, VI.nth, VI.must, List.length_map, beq_self]; done))) | fail) : P := h
theorem zx {P : Prop} (h : P := by first | ((exfalso; (try clear ih1); (try clear ih2); (try clear ih3); simp_all; done)) | fail) : P := h
theorem zo {P : Prop} (h : P := by first | (first | omega | (dsimp only; omega)) | fail) : P := h
def argD : VV → Bool
  | .s _ => true
  | .sl _ => true
  | .ag _ => true
  | _ => false
def ResOf (pd : Nat → Nat → Prop) (w : World) (r : VV) (m : Value) (w' : World) : Prop := ∃ pd' : Nat → Nat → Prop, (∀ g k, g < w.heap.size → pd' g k → pd g k) ∧ ResR w.heap.size pd' w' r m
section
variable {P : Program} {NG : Nat} {GW : World → Prop} {f : FuncId}
theorem giv_ok {vs : List VV} {r : VV} (hf : FnOk P f) (hv : vs.all argD = true) (h : ∀ (w : World) (ms : List Value) (pd : Nat → Nat → Prop), GW w → DRs pd w vs ms → Calls P f ms.toArray w fun e w' => ∃ m, e = .returned m ∧ Below w.heap.size w w' ∧ ResOf pd w r m w') : CallOk1 P NG GW f vs (r, []) := by
  refine ⟨hf, fun w ms H hgw hng hl ha hnd _ _ _ => ?_⟩
  have hd : ∀ v ∈ vs, argD v = true := fun v hx => List.all_eq_true.1 hv v hx
  have hnb : ∀ x ∈ vs, ∀ cs, x ≠ .bx cs := fun x hx cs e => by have := hd x hx; rw [e] at this; cases this
  have key : ∀ (vs : List VV) (ms : List Value), (∀ v ∈ vs, argD v = true) → vs.length = ms.length → (∀ (i : Nat) v m, vs[i]? = some v → ms[i]? = some m → ArgR H w v m) → DRs H.pd w vs ms := by
    intro vs
    induction vs with
    | nil => intro ms _ hl _; cases ms with
      | nil => exact .nil
      | cons _ _ => cases hl
    | cons v vs ih => intro ms hd hl ha; cases ms with
      | nil => cases hl
      | cons m ms =>
        refine .cons _ _ _ _ ?_ (ih ms (fun x hx => hd x (by simp [hx])) (by simpa using hl) fun i v m h1 h2 => ha (i + 1) v m (by simpa using h1) (by simpa using h2))
        have h1 := ha 0 v m rfl rfl
        have h2 := hd v (by simp)
        cases v <;> first | (cases h2; done) | exact h1
  rw [ioB_none vs ms hnb]
  refine (h w ms H.pd hgw (key vs ms hd hl ha)).mono fun e w' he => ?_
  obtain ⟨m, rfl, hb, pd', h1, h2⟩ := he
  exact ⟨m, rfl, ⟨hb.os, hb.tape, hb.output, hb.size, fun k hk _ => hb.block k hk⟩, pd', h1, h2, rfl, fun j g v hj => by simp at hj⟩
theorem drs_cons {pd : Nat → Nat → Prop} {w : World} {v : VV} {vs : List VV} {ms : List Value} (h : DRs pd w (v :: vs) ms) : ∃ m ms', ms = m :: ms' ∧ DR pd w v m ∧ DRs pd w vs ms' := by
  cases h with
  | cons _ m _ ms h1 h2 => exact ⟨m, ms, rfl, h1, h2⟩
theorem drs_nil {pd : Nat → Nat → Prop} {w : World} {ms : List Value} (h : DRs pd w [] ms) : ms = [] := by cases h; rfl
theorem dr_s {pd : Nat → Nat → Prop} {w : World} {v m : Value} (h : DR pd w (.s v) m) : m = v := by cases h; rfl
theorem resOf_s {pd : Nat → Nat → Prop} {w w' : World} (v : Value) : ResOf pd w (.s v) v w' := ⟨pd, fun _ _ _ h => h, .s v⟩
theorem resOf_tu {pd : Nat → Nat → Prop} {w w' : World} (ls : List Value) : ResOf pd w (.tu (ls.map VV.s)) (.tuple ls.toArray) w' :=
  ⟨pd, fun _ _ _ h => h, .tu _ _ (by
    induction ls with
    | nil => exact .nil
    | cons a ls ih => exact .cons _ _ _ _ (.s a) ih)⟩
theorem drs_sR : ∀ {pd : Nat → Nat → Prop} {w : World} (ls : List Value), DRs pd w (ls.map VV.s) ls
  | _, _, [] => .nil
  | _, _, a :: ls => .cons _ _ _ _ (.s a) (drs_sR ls)
theorem resOf_ow {pd : Nat → Nat → Prop} {w w' : World} {α : Type} {mk : α → Value} (h1 : ∀ x, (mk x).oneCell' = true) {e : Nat} {xs : List α} {m : Value} (hl : xs.length ≤ maxLen) (ho : w'.ownsRow w.heap.size e 1 m xs.length (xs.map mk)) : ResOf pd w (.ow e 1 (xs.map fun x => .s (mk x))) m w' := by
  refine ⟨fun g k => (g < w.heap.size ∧ pd g k) ∨ (m.ownBlock = some g ∧ k < xs.length * 1), fun g k hg h => ?_, xs.map mk, by rw [List.length_map]; exact ho, ?_, ?_, ?_, by rw [List.length_map]; exact hl, ?_⟩
  · rcases h with h | ⟨h, _⟩
    · exact h.2
    · have := own_base ho g h; omega
  · have := drs_sR (pd := fun g k => (g < w.heap.size ∧ pd g k) ∨ (m.ownBlock = some g ∧ k < xs.length * 1)) (w := w') (xs.map mk)
    rw [List.map_map] at this
    have e : (List.map (fun x => VV.s (mk x)) xs).flatMap VV.cells = xs.map (VV.s ∘ mk) := by
      rw [List.flatMap_map]
      clear this ho hl
      induction xs with
      | nil => rfl
      | cons x xs ih => rw [List.flatMap_cons, ih]; rfl
    rw [e]; exact this
  · intro x hx
    obtain ⟨y, _, rfl⟩ := List.mem_map.1 hx
    rfl
  · intro u hu
    obtain ⟨y, _, rfl⟩ := List.mem_map.1 hu
    exact h1 y
  · intro g hg k
    have := own_base ho g hg
    rw [List.length_map]
    constructor
    · rintro (⟨h, _⟩ | ⟨_, h⟩)
      · omega
      · exact h
    · intro h; exact .inr ⟨hg, h⟩
end
end Go.Proofs.YteldcmniknocpaaGreatDoor.VI

end
section
namespace Go.Proofs.YteldcmniknocpaaGreatDoor.VI
open Go
def tis : List (TypeId × TI) := [(3, ⟨1, 8, [.int .i64 0], .int .i64⟩),
 (4, ⟨1, 1, [.bool false], .bool⟩),
 (5, ⟨1, 1, [.int .u8 0], .int .u8⟩),
 (9, ⟨1, 16, [.string ⟨#[]⟩], .str⟩),
 (22, ⟨1, 24, [.slice none 0 0], .slice 9⟩),
 (23, ⟨1, 24, [.slice none 0 0], .slice 66⟩),
 (25, ⟨2, 48, [.slice none 0 0, .slice none 0 0], .agg [(0, 1), (1, 1)]⟩),
 (28, ⟨1, 24, [.slice none 0 0], .slice 44⟩),
 (30, ⟨2, 48, [.slice none 0 0, .slice none 0 0], .agg [(0, 1), (1, 1)]⟩),
 (42, ⟨1, 24, [.slice none 0 0], .slice 51⟩),
 (44, ⟨6, 104, [.string ⟨#[]⟩, .string ⟨#[]⟩, .string ⟨#[]⟩, .slice none 0 0, .bool false, .slice none 0 0], .agg [(0, 1), (1, 1), (2, 1), (3, 1), (4, 1), (5, 1)]⟩),
 (51, ⟨2, 32, [.string ⟨#[]⟩, .string ⟨#[]⟩], .agg [(0, 1), (1, 1)]⟩),
 (55, ⟨4, 48, [.int .i64 0, .int .i64 0, .int .i64 0, .slice none 0 0], .agg [(0, 1), (1, 1), (2, 1), (3, 1)]⟩),
 (64, ⟨1, 24, [.slice none 0 0], .slice 124⟩),
 (66, ⟨6, 104, [.string ⟨#[]⟩, .string ⟨#[]⟩, .string ⟨#[]⟩, .slice none 0 0, .bool false, .slice none 0 0], .agg [(0, 1), (1, 1), (2, 1), (3, 1), (4, 1), (5, 1)]⟩),
 (68, ⟨1, 24, [.slice none 0 0], .slice 97⟩),
 (75, ⟨1, 24, [.slice none 0 0], .slice 5⟩),
 (91, ⟨1, 24, [.slice none 0 0], .slice 3⟩),
 (97, ⟨2, 32, [.string ⟨#[]⟩, .string ⟨#[]⟩], .agg [(0, 1), (1, 1)]⟩),
 (124, ⟨2, 32, [.string ⟨#[]⟩, .string ⟨#[]⟩], .agg [(0, 1), (1, 1)]⟩)]
def ti (t : TypeId) : Option TI := look tis t
theorem hti : TIok Tryz.prog ti := TIok.of (l := tis) (by kernel_rfl) (by kernel_rfl)
end Go.Proofs.YteldcmniknocpaaGreatDoor.VI

end
section
namespace Go.Proofs.YteldcmniknocpaaGreatDoor.VI
open Go Go.RowKit Go.Proofs.YteldcmniknocpaaGreatDoor.G Go.Proofs.YteldcmniknocpaaGreatDoorW.PrintWords
def e51 (x : S51) : VV := .ag [.str x.f0, .str x.f1]
def e44 (x : S44) : VV := .ag [.str x.f0, .str x.f1, .str x.f2, .sl (x.f3.map e51), .bool x.f4, .sl (x.f5.map VV.str)]
def e124 (x : S124) : VV := .ag [.str x.f0, .str x.f1]
def e66 (x : S66) : VV := .ag [.str x.f0, .str x.f1, .str x.f2, .sl (x.f3.map e124), .bool x.f4, .sl (x.f5.map VV.str)]
def e97 (x : S97) : VV := .ag [.str x.f0, .str x.f1]
@[simp] theorem rd_T51_eq (xs : List S51) (i : Int) : rd_T51 xs i = rdOf z51 xs i := rfl
@[simp] theorem rd_T44_eq (xs : List S44) (i : Int) : rd_T44 xs i = rdOf z44 xs i := rfl
@[simp] theorem rd_T124_eq (xs : List S124) (i : Int) : rd_T124 xs i = rdOf z124 xs i := rfl
@[simp] theorem rd_T66_eq (xs : List S66) (i : Int) : rd_T66 xs i = rdOf z66 xs i := rfl
@[simp] theorem rd_T97_eq (xs : List S97) (i : Int) : rd_T97 xs i = rdOf z97 xs i := rfl
def keep : FuncId → Nat → Option (List Nat) := fun f b => match f, b with
  | 8, 0 => some [1, 3]
  | 10, 0 => some [1, 6, 7, 8]
  | 12, 0 => some [1, 3, 4]
  | 12, 2 => some [1, 3, 5]
  | 13, 0 => some [3, 19, 20, 21]
  | 13, 2 => some [3, 5, 6, 19, 20, 21, 34, 35, 36]
  | 14, 0 => some [0, 1, 5]
  | 15, 0 => some [3, 4, 5]
  | 16, 0 => some [0, 3, 4, 7]
  | 17, 0 => some [3, 4]
  | 18, 0 => some [0, 1, 5]
  | 19, 0 => some [0, 3, 4]
  | 19, 2 => some [0, 3, 4, 5, 7]
  | 20, 0 => some [3, 7, 8, 9]
  | 21, 0 => some [0, 1, 5]
  | 22, 0 => some [0, 1, 5]
  | 23, 0 => some [0, 1, 5]
  | 24, 0 => some [1, 3]
  | 25, 0 => some [1, 2, 5]
  | 27, 0 => some [0, 3, 4, 7]
  | 30, 0 => some [1, 2, 7, 8, 9]
  | 31, 0 => some [0, 1, 5]
  | 32, 0 => some [1, 3, 4]
  | 32, 2 => some [1, 3, 5]
  | 34, 0 => some [0, 3, 7, 8]
  | 35, 0 => some [0, 1, 5]
  | 38, 0 => some [2, 3, 5, 6]
  | 38, 2 => some [2, 3, 7]
  | 43, 0 => some [0, 3]
  | 46, 0 => some [0, 3, 4]
  | 46, 2 => some [0, 3, 4, 5, 6]
  | 48, 0 => some [0, 3]
  | 49, 0 => some [1, 2, 5]
  | 51, 0 => some [0, 3, 10, 11, 12]
  | 54, 0 => some [0, 5, 6, 7]
  | 57, 0 => some [0, 3, 4]
  | 65, 0 => some [0, 1, 5, 6, 7]
  | 66, 0 => some [0, 3, 4]
  | 67, 0 => some [1, 3, 4]
  | 72, 0 => some [2, 3, 24, 25, 26]
  | 72, 2 => some [2, 3, 56, 57]
  | 73, 0 => some [0, 1, 5]
  | 77, 0 => some [0, 3, 4, 7]
  | 80, 0 => some [0, 1, 7, 8]
  | 87, 0 => some [0, 1, 7, 8]
  | 89, 0 => some [0, 1, 5]
  | 97, 0 => some [1, 13, 14, 15]
  | 97, 2 => some [1, 24, 25, 26]
  | 98, 0 => some [0, 3, 4]
  | 99, 0 => some [1, 3]
  | 133, 0 => some [0, 3]
  | 156, 0 => some [0, 3]
  | _, _ => none
def unS : List VV → Option (List ByteArray)
  | [] => some []
  | .s (.string b) :: r => obind (unS r) fun l => some (b :: l)
  | _ => none
theorem unS_map : ∀ l : List ByteArray, unS (l.map VV.str) = some l
  | [] => rfl
  | b :: r => by
    show obind (unS (r.map VV.str)) _ = _
    rw [unS_map r]
    rfl
noncomputable def impl_SortVersions.gv : List VV → Option (VV × List VV)
  | [.sl q0] => obind (unS q0) fun l0 => (impl_SortVersions.f l0).map fun r => (.ow 9 1 (r.map VV.str), [])
  | _ => none
noncomputable def strings_Join.gv : List VV → Option (VV × List VV)
  | [.sl q0, .s (.string a1)] => obind (unS q0) fun l0 => (strings_Join.f l0 a1).map fun r => (.str r, [])
  | _ => none
noncomputable def strings_Cut.gv : List VV → Option (VV × List VV)
  | [.s (.string a0), .s (.string a1)] => (strings_Cut.f a0 a1).map fun r => (.tu [.str r.1, .str r.2.1, .bool r.2.2], [])
  | _ => none
noncomputable def strings_Split.gv : List VV → Option (VV × List VV)
  | [.s (.string a0), .s (.string a1)] => (strings_Split.f a0 a1).map fun r => (.ow 9 1 (r.map VV.str), [])
  | _ => none
noncomputable def impl_ReadDec.gv : List VV → Option (VV × List VV)
  | [.s (.string a0)] => (impl_ReadDec.f a0).map fun r => (.int r, [])
  | _ => none
noncomputable def strings_HasPrefix.gv : List VV → Option (VV × List VV)
  | [.s (.string a0), .s (.string a1)] => (strings_HasPrefix.f a0 a1).map fun r => (.bool r, [])
  | _ => none
noncomputable def strings_TrimPrefix.gv : List VV → Option (VV × List VV)
  | [.s (.string a0), .s (.string a1)] => (strings_TrimPrefix.f a0 a1).map fun r => (.str r, [])
  | _ => none
noncomputable def slices_Clone_string_string.gv : List VV → Option (VV × List VV)
  | [.sl q0] => obind (unS q0) fun l0 => (slices_Clone_string_string.f l0).map fun r => (.ow 9 1 (r.map VV.str), [])
  | _ => none
noncomputable def strconv_Itoa.gv : List VV → Option (VV × List VV)
  | [.s (.int .i64 a0)] => (strconv_Itoa.f a0).map fun r => (.str r, [])
  | _ => none
noncomputable def strings_TrimLeft.gv : List VV → Option (VV × List VV)
  | [.s (.string a0), .s (.string a1)] => (strings_TrimLeft.f a0 a1).map fun r => (.str r, [])
  | _ => none
noncomputable def strings_Compare.gv : List VV → Option (VV × List VV)
  | [.s (.string a0), .s (.string a1)] => (strings_Compare.f a0 a1).map fun r => (.int r, [])
  | _ => none
noncomputable def Gv0 : FuncId → Option (List VV → Option (VV × List VV)) := fun f => match f with
  | 33 => some strings_Join.gv
  | 61 => some strings_Cut.gv
  | 62 => some strings_Split.gv
  | 63 => some impl_ReadDec.gv
  | 78 => some strings_HasPrefix.gv
  | 79 => some strings_TrimPrefix.gv
  | 119 => some slices_Clone_string_string.gv
  | 129 => some strconv_Itoa.gv
  | 139 => some strings_TrimLeft.gv
  | 140 => some strings_Compare.gv
  | _ => none
def Base (G : FuncId → Option (List VV → Option (VV × List VV))) : Prop := ∀ f, f ≠ 20 → G f = Gv0 f
theorem base0 : Base Gv0 := fun _ _ => rfl
noncomputable def Gv : FuncId → Option (List VV → Option (VV × List VV)) := fun f => match f with
  | 20 => some impl_SortVersions.gv
  | f => Gv0 f
theorem base1 : Base Gv := fun f h20 => by
  unfold Gv
  split
  · exact absurd rfl h20
  · rfl
noncomputable abbrev cv := callv Tryz.prog ti keep Gv
end Go.Proofs.YteldcmniknocpaaGreatDoor.VI

end
