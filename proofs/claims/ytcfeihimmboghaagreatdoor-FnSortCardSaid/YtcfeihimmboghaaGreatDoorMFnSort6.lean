/- A part of the proof that the law FnSort answers true at every input that its row speaks of. Conditions: the row's own. -/
import Derived.Test.YtcfeihimmboghaaGreatDoorMFnSort5
import Derived.Tactics
section
namespace Go.Proofs.YtcfeihimmboghaaGreatDoor.VI
open Go Go.RowKit
set_option linter.unusedVariables false
set_option linter.unusedSimpArgs false
def blk : Value → Nat
  | .pointer (some a) => a.block
  | _ => 0
def ioB : List VV → List Value → List Nat
  | .bx _ :: vs, m :: ms => blk m :: ioB vs ms
  | _ :: vs, _ :: ms => ioB vs ms
  | _, _ => []
def ArgR (H : Gh) (w : World) : VV → Value → Prop
  | .bx cs, m => ∃ (g : Nat) (us : List Value) (ty : TypeId), m = .pointer (some ⟨g, 0, none⟩) ∧ w.heap[g]? = some (.cells us.toArray ty (0, 0)) ∧ DRs H.pd w cs us ∧ (∀ u ∈ us, u.oneCell' = true) ∧ ∀ k, ¬ H.pd g k
  | .vw cs, m => ViewR H w cs m
  | .cl f cap, m => ∃ ms : List Value, m = .func (.func f) #[] ms.toArray ∧ cap.length = ms.length ∧ ∀ (i : Nat) v u, cap[i]? = some v → ms[i]? = some u → ∃ cs, v = .vw cs ∧ ViewR H w cs u
  | .pt _ _, _ => False
  | .sr _ _, _ => False
  | .pe _ _ _, _ => False
  | .ow _ _ _, _ => False
  | .nl, _ => False
  | .mr _ _ _, _ => False
  | v, m => DR H.pd w v m
def ResR (B : Nat) (pd : Nat → Nat → Prop) (w : World) : VV → Value → Prop
  | .ow e z xs, m => ∃ ms : List Value, w.ownsRow B e z m xs.length ms ∧ DRs pd w (xs.flatMap VV.cells) ms ∧ (∀ x ∈ xs, x.cells.length = z) ∧ (∀ u ∈ ms, u.oneCell' = true) ∧ xs.length ≤ maxLen ∧ ∀ g, m.ownBlock = some g → ∀ k, pd g k ↔ k < xs.length * z
  | .nl, m => m = .slice none 0 0
  | v, m => DR pd w v m
def Post (H : Gh) (w : World) (io : List Nat) (r : VV × List VV) (m : Value) (w' : World) : Prop :=
  Fr io w.heap.size w w' ∧ ∃ pd' : Nat → Nat → Prop, (∀ g k, g < w.heap.size → pd' g k → H.pd g k) ∧ ResR w.heap.size pd' w' r.1 m ∧ r.2.length = io.length ∧
    ∀ (j g : Nat) v, io[j]? = some g → r.2[j]? = some v → ∃ (cs : List VV) (us : List Value) (ty : TypeId), v = .bx cs ∧ w'.heap[g]? = some (.cells us.toArray ty (0, 0)) ∧ DRs pd' w' cs us ∧ ∀ u ∈ us, u.oneCell' = true
def FnOk (P : Program) (f : FuncId) : Prop := ∃ fn, P.funcs[f]? = some fn ∧ (fn.name == "runtime.NumGoroutine") = false ∧ fn.body.isSome = true
def CallOk1 (P : Program) (NG : Nat) (GW : World → Prop) (f : FuncId) (vs : List VV) (r : VV × List VV) : Prop :=
  FnOk P f ∧ ∀ (w : World) (ms : List Value) (H : Gh), GW w → NG ≤ w.heap.size → vs.length = ms.length → (∀ (i : Nat) v m, vs[i]? = some v → ms[i]? = some m → ArgR H w v m) → (ioB vs ms).Nodup → (∀ g ∈ ioB vs ms, NG ≤ g) → (∀ g k, H.pv g k → g ∉ ioB vs ms) → (∀ g k, H.pd g k → H.pv g k) →
    Calls P f ms.toArray w fun e w' => ∃ m, e = .returned m ∧ Post H w (ioB vs ms) r m w'
def CallOk (P : Program) (NG : Nat) (GW : World → Prop) (call : FuncId → List VV → Option (VV × List VV)) : Prop := ∀ f vs r, vs.all argOk = true → call f vs = some r → CallOk1 P NG GW f vs r
def argOf (env : Env) (x : Operand) : VV := match rdv env x with
  | .pt t 0 => (match get env t with
    | .bx cs => .bx cs
    | _ => .un)
  | .pt _ (_ + 1) => .un
  | .cl f cap => .cl f (cap.map (capv env))
  | v => v
def ioOf (env : Env) (x : Operand) : List Nat := match rdv env x with
  | .pt t 0 => (match get env t with
    | .bx _ => [t]
    | _ => [])
  | _ => []
theorem argv_eq {α : Type} (env : Env) : ∀ (l : List Operand) (k : List VV → List Nat → α), argv env l k = k (l.map (argOf env)) (l.flatMap (ioOf env))
  | [], k => rfl
  | x :: r, k => by
    simp only [argv, List.map_cons, List.flatMap_cons]
    unfold argOf ioOf
    generalize rdv env x = v
    cases v <;> first
      | (simp only [argv_eq env r, frcL_eq]; rfl)
      | (rename_i t o
         cases o with
         | zero =>
           simp only
           generalize get env t = q
           cases q <;> simp only [argv_eq env r] <;> rfl
         | succ n => simp only [argv_eq env r]; rfl)
theorem capK_eq {α : Type} : ∀ (l cap : List VV) (k : List VV → α), capK l cap k = k (l ++ cap)
  | [], _, _ => rfl
  | v :: r, cap, k => by rw [capK, capK_eq r]; rfl
theorem backsK_eq {R : Type} {K : Env → Option R} : ∀ (env : Env) (io : List Nat) (vs : List VV), backsK env io vs K = K (backs env io vs)
  | env, t :: ts, v :: vs => by rw [backsK, vset_eq, backsK_eq]; rfl
  | env, [], _ => by simp [backsK, backs]
  | env, _ :: _, [] => by simp [backsK, backs]
theorem backs_len : ∀ (io : List Nat) (vs : List VV) (env : Env), (backs env io vs).length = env.length
  | t :: ts, v :: vs, env => by rw [backs, backs_len ts vs]; simp
  | [], _, _ => by simp [backs]
  | _ :: _, [], _ => by simp [backs]
theorem backs_get : ∀ (io : List Nat) (vs : List VV) (env : Env) (t : Nat) (v : VV), vs.length = io.length → (backs env io vs)[t]? = some v → (∃ j : Nat, io[j]? = some t ∧ vs[j]? = some v) ∨ (t ∉ io ∧ env[t]? = some v)
  | t0 :: ts, v0 :: vs, env, t, v, hl, h => by
    rcases backs_get ts vs (env.set t0 v0) t v (by simpa using hl) h with ⟨j, h1, h2⟩ | ⟨h1, h2⟩
    · exact .inl ⟨j + 1, by simpa using h1, by simpa using h2⟩
    · rw [List.getElem?_set] at h2
      by_cases e : t0 = t
      · subst e
        rw [if_pos rfl] at h2
        split at h2
        · cases h2; exact .inl ⟨0, rfl, rfl⟩
        · cases h2
      · rw [if_neg e] at h2
        exact .inr ⟨by simp [h1]; exact fun h => e h.symm, h2⟩
  | [], vs, env, t, v, hl, h => .inr ⟨by simp, by simpa [backs] using h⟩
  | _ :: _, [], env, t, v, hl, h => by simp at hl
section
variable {P : Program} {NG : Nat} {GW : World → Prop} {io : List Nat} {w0 : World} {pd0 : Nat → Nat → Prop} {G G' : Gh} {env : Env} {a : Act} {w w' : World}
variable {R : Type} {K : Env → Option R} {r : R} {next : Act → World → Prop} {Q : Exit → Act → World → Prop} {o : Oper} {C : Cx} {ops : List Oper} {dr : Option (List Nat)}
theorem nodupB_ok : ∀ {l : List Nat}, nodupB l = true → l.Nodup
  | [], _ => .nil
  | a :: r, h => by
    simp only [nodupB, Bool.and_eq_true] at h
    refine List.nodup_cons.2 ⟨fun hm => ?_, nodupB_ok h.2⟩
    have h1 := h.1
    simp at h1
    exact h1 a hm rfl
theorem nodup_map {f : Nat → Nat} : ∀ {l : List Nat}, (∀ t ∈ l, ∀ u ∈ l, f t = f u → t = u) → l.Nodup → (l.map f).Nodup
  | [], _, _ => .nil
  | a :: r, h, hn => by
    obtain ⟨h1, h2⟩ := List.nodup_cons.1 hn
    rw [List.map_cons]
    refine List.nodup_cons.2 ⟨fun hm => ?_, nodup_map (fun t ht u hu => h t (by simp [ht]) u (by simp [hu])) h2⟩
    obtain ⟨b, hb, he⟩ := List.mem_map.1 hm
    exact h1 (h b (by simp [hb]) a (by simp) he ▸ hb)
theorem io_box (hs : Sim NG GW io w0 pd0 G env a w) : ∀ (l : List Operand), (∀ t ∈ l.flatMap (ioOf env), ∃ cs, get env t = .bx cs) ∧ ioB (l.map (argOf env)) (l.map a.eval) = (l.flatMap (ioOf env)).map G.bl
  | [] => ⟨by simp, rfl⟩
  | x :: r => by
    obtain ⟨h1, h2⟩ := io_box hs r
    have hx := rdv_rel hs x
    simp only [List.map_cons, List.flatMap_cons]
    have hcase : (ioOf env x = [] ∧ ∀ cs, argOf env x ≠ .bx cs) ∨ ∃ t cs, ioOf env x = [t] ∧ get env t = .bx cs ∧ argOf env x = .bx cs ∧ a.eval x = .pointer (some ⟨G.bl t, 0, none⟩) := by
      unfold argOf ioOf
      generalize rdv env x = v at hx
      cases v <;> first
        | (exact hx.elim)
        | (exact .inl ⟨rfl, fun cs e => VV.noConfusion e⟩)
        | (rename_i t o'
           cases o' with
           | zero =>
             simp only
             cases hq : get env t <;> first
               | (exact .inl ⟨rfl, fun cs e => VV.noConfusion e⟩)
               | (exact .inr ⟨t, _, rfl, hq, rfl, hx.pt_eq⟩)
           | succ n => exact .inl ⟨rfl, fun cs e => VV.noConfusion e⟩)
    rcases hcase with ⟨e1, e2⟩ | ⟨t, cs, e1, e2, e3, e4⟩
    · rw [e1]
      refine ⟨by simpa using h1, ?_⟩
      rw [List.nil_append, ← h2]
      generalize argOf env x = z at e2
      cases z <;> first
        | rfl
        | exact absurd rfl (e2 _)
    · rw [e1, e3, e4]
      refine ⟨?_, ?_⟩
      · intro u hu
        rcases List.mem_append.1 hu with hu | hu
        · simp at hu; subst hu; exact ⟨cs, e2⟩
        · exact h1 u hu
      · simp only [ioB, List.cons_append, List.nil_append, List.map_cons]
        rw [h2]; rfl
theorem box_of (hs : Sim NG GW io w0 pd0 G env a w) {t : Nat} {cs : List VV} (h : get env t = .bx cs) : BoxR G w t cs (a.eval (.tmp t)) := by have := get_slot hs t; rw [h] at this; exact this
theorem ioB_app : ∀ (vs : List VV) (ms : List Value) (cap : List VV) (us : List Value), vs.length = ms.length → (∀ v ∈ cap, ∀ cs, v ≠ .bx cs) → ioB (vs ++ cap) (ms ++ us) = ioB vs ms
  | [], [], cap, us, _, h => by
    simp only [List.nil_append]
    induction cap generalizing us with
    | nil => rfl
    | cons v cap ih =>
      cases us with
      | nil => cases v <;> simp [ioB]
      | cons u us =>
        have := h v (by simp)
        cases v <;> first
          | (simp only [ioB]; exact ih us (fun x hx => h x (by simp [hx])))
          | exact absurd rfl (this _)
  | v :: vs, m :: ms, cap, us, hl, h => by
    simp only [List.cons_append]
    cases v <;> simp only [ioB] <;> rw [ioB_app vs ms cap us (by simpa using hl) h]
  | [], _ :: _, _, _, hl, _ => by simp at hl
  | _ :: _, [], _, _, hl, _ => by simp at hl
theorem call_sound (gws : ∀ w w', GW w → Below NG w w' → GW w') (hC : CallOk P NG GW C.call) (hs : Sim NG GW io w0 pd0 G env a w) (hn : Nx NG GW io w0 pd0 K r next) {c : Call} (hop : o.op = .call c) {x : Operand} (hc : c.callee = .value x) (h : vop C ops dr o env K = some r) : o.wp P a w next Q := by
  have hx := rdv_rel hs x
  simp only [vop, hop, hc] at h
  split at h
  case h_2 => cases h
  rename_i f cap hv
  rw [hv] at hx
  split at h
  · cases h
  rw [argv_eq, frcL_eq, capK_eq] at h
  obtain ⟨cms, hm, hcl, hcap⟩ := (hx : SlotR G w 0 (.cl f cap) (a.eval x))
  let ios := c.args.toList.flatMap (ioOf env)
  let vs := c.args.toList.map (argOf env) ++ cap.map (capv env)
  let ms := c.args.toList.map a.eval ++ cms
  obtain ⟨hbox, hioB0⟩ := io_box hs c.args.toList
  unfold vcall at h
  split at h
  case h_2 => cases h
  rename_i hok
  rw [Bool.and_eq_true, Bool.and_eq_true] at hok
  obtain ⟨⟨hargs, hnd⟩, hcl'⟩ := hok
  have hnd := nodupB_ok hnd
  have hob : ∃ q, C.call f vs = some q ∧ (match resOk q.1 with
      | true => backsK env ios q.2 fun env' => vput dr o.dst q.1 env' K
      | false => none) = some r := by
    unfold obind at h
    split at h
    · exact ⟨_, by assumption, h⟩
    · cases h
  obtain ⟨q, hcall, h⟩ := hob
  split at h
  case h_2 => cases h
  rename_i hres
  rw [backsK_eq] at h
  have hK := vput_some h
  obtain ⟨⟨fn, hfn, hname, hbody⟩, hcontract⟩ := hC f vs q hargs hcall
  have hcapbx : ∀ v ∈ cap.map (capv env), ∀ cs, v ≠ .bx cs := by
    intro v hv cs e
    rw [List.all_eq_true] at hargs
    subst e
    obtain ⟨y, hy, he⟩ := List.mem_map.1 hv
    obtain ⟨i, hi, rfl⟩ := List.getElem_of_mem hy
    have hu := hcap i cap[i] cms[i] (List.getElem?_eq_getElem hi) (List.getElem?_eq_getElem (by omega))
    generalize cap[i] = z at he hu
    cases z <;> simp only [capv] at he <;> first
      | (cases he; done)
      | (split at he <;> cases he; done)
      | exact hu.elim
  have hioB : ioB vs ms = ios.map G.bl := by
    rw [ioB_app _ _ _ _ (by simp) hcapbx]; exact hioB0
  have hinj : ∀ t ∈ ios, ∀ u ∈ ios, G.bl t = G.bl u → t = u := by
    intro t ht u hu e
    obtain ⟨cs, h1⟩ := hbox t ht
    obtain ⟨cs', h2⟩ := hbox u hu
    obtain ⟨_, _, _, _, o1, _⟩ := box_of hs h1
    obtain ⟨_, _, _, _, o2, _⟩ := box_of hs h2
    rw [e, o2] at o1
    exact (congrArg Prod.fst (Option.some.inj o1)).symm
  let H : Gh := ⟨fun g k => G.pd g k ∧ g < w.heap.size, fun g k => g < w.heap.size ∧ g ∉ ios.map G.bl, G.bl, G.own, w.heap.size⟩
  have hnpd : ∀ g k, G.pd g k → g ∉ ios.map G.bl := by
    intro g k hk hg
    obtain ⟨t, ht, rfl⟩ := List.mem_map.1 hg
    obtain ⟨cs, h1⟩ := hbox t ht
    obtain ⟨_, _, _, _, _, hnp, _⟩ := box_of hs h1
    exact hnp k hk
  have hkH : ∀ {v m}, DR G.pd w v m → DR H.pd w v m := fun h => h.keep fun g k m h1 h2 => ⟨⟨h1, World.block_lt_of_cell? w _ h2⟩, h2⟩
  have hkHs : ∀ {v m}, DRs G.pd w v m → DRs H.pd w v m := fun h => h.keep fun g k m h1 h2 => ⟨⟨h1, World.block_lt_of_cell? w _ h2⟩, h2⟩
  have hviewG : ∀ {cs m}, ViewR G w cs m → (∀ g k, G.pv g k → g < w.heap.size → g ∉ ios.map G.bl) → ViewR H w cs m := by
    intro cs m ⟨g, off, us, hm, hr, h1, hcc⟩ hio
    exact ⟨g, off, us, hm, hkHs hr, h1, fun k u hu => ⟨(hcc k u hu).1, World.block_lt_of_cell? w _ (hcc k u hu).1, hio _ _ (hcc k u hu).2 (World.block_lt_of_cell? w _ (hcc k u hu).1)⟩⟩
  have hpvio : ∀ g k, G.pv g k → g < w.heap.size → g ∉ ios.map G.bl := by
    intro g k hk _ hg
    obtain ⟨t, ht, rfl⟩ := List.mem_map.1 hg
    obtain ⟨cs, h1⟩ := hbox t ht
    obtain ⟨_, _, _, _, ho, hnp, _⟩ := box_of hs h1
    exact hnp k (hs.ownp _ k (by rw [ho]; simp) hk)
  have hcapv : ∀ z u, CapR G w z u → (ios = []) → ∀ cs, capv env z = .vw cs → ViewR H w cs u := by
    intro z u hz hio cs he
    cases z <;> simp only [capv] at he <;> first
      | (cases he; exact hviewG hz hpvio)
      | exact hz.elim
      | skip
    rename_i t o'
    split at he
    case h_2 => cases he
    rename_i bs hb
    cases he
    obtain ⟨us, ty, hpm, hh, ho, hnp, hl, hcr, h1⟩ := box_of hs hb
    have hu : u = .pointer (some ⟨G.bl t, o', none⟩) := hz
    subst hu
    have hr : DRs G.pd w (bs.map VV.dv) us := .of (by simp [hl]) fun k v m hv hm => by
      rw [List.getElem?_map] at hv
      obtain ⟨y, hy, rfl⟩ := Option.map_eq_some_iff.1 hv
      exact (hcr k y m hy hm).data
    refine ⟨G.bl t, o', us.drop o', rfl, hkHs (hr.drop o'), fun x hx => h1 x (List.mem_of_mem_drop hx), fun k x hx => ?_⟩
    rw [List.getElem?_drop] at hx
    exact ⟨by rw [box_cell hh]; exact hx, (hs.own _ _ ho).1, by rw [hio]; simp⟩
  have hargR : ∀ (i : Nat) v m, vs[i]? = some v → ms[i]? = some m → ArgR H w v m := by
    intro i v m hv hm'
    have hvok : argOk v = true := by rw [List.all_eq_true] at hargs; exact hargs v (List.mem_of_getElem? hv)
    by_cases hi : i < c.args.toList.length
    · rw [List.getElem?_append_left (by simpa using hi), List.getElem?_map] at hv
      rw [List.getElem?_append_left (by simpa using hi), List.getElem?_map] at hm'
      obtain ⟨y, hy, rfl⟩ := Option.map_eq_some_iff.1 hv
      rw [hy] at hm'
      cases hm'
      have hyr := rdv_rel hs y
      have hnocl : ∀ f' cap', argOf env y = .cl f' cap' → cap' ≠ [] → ios = [] := by
        intro f' cap' he hne
        rw [Bool.or_eq_true] at hcl'
        rcases hcl' with h1 | h1
        · exact List.isEmpty_iff.1 h1
        · rw [Bool.and_eq_true, List.all_eq_true] at h1
          have := h1.2 (argOf env y) (List.mem_append_left _ (List.mem_map.2 ⟨y, List.mem_of_getElem? hy, rfl⟩))
          rw [he] at this
          simp [noCl] at this
          exact absurd this hne
      have hrest : ∀ z, argOf env y = z → ArgR H w z (a.eval y) := by
        intro z hz
        unfold argOf at hz
        generalize hq : rdv env y = q at hyr hz
        cases q <;> (try simp only at hz) <;> first
          | (subst hz; exact hyr.elim)
          | (subst hz; exact hkH hyr)
          | (subst hz; exact hviewG hyr hpvio)
          | (subst hz; rw [argOf, hq] at hvok; simp [argOk] at hvok; done)
          | skip
        · rename_i t o'
          cases o' with
          | zero =>
            simp only at hz
            cases hg : get env t <;> rw [hg] at hz <;> simp only at hz <;> subst hz <;> first
              | exact DR.un _
              | (rename_i cs
                 obtain ⟨us, ty, hpm, hh, ho, hnp, hl, hcr, h1⟩ := box_of hs hg
                 rw [argOf, hq] at hvok
                 simp only [hg, argOk, List.all_eq_true] at hvok
                 refine ⟨G.bl t, us, ty, hyr.pt_eq, hh, hkHs (.of hl fun k v m hv hm => ?_), h1, fun k hk => hnp k hk.1⟩
                 have h2 := hcr k v m hv hm
                 have h3 := hvok v (List.mem_of_getElem? hv)
                 cases v <;> first
                   | exact h2
                   | (simp [dataC] at h3; done))
          | succ n => simp only at hz; subst hz; exact DR.un _
        · rename_i f' cap'
          subst hz
          obtain ⟨us, hu, hl, hcc⟩ := (hyr : SlotR G w 0 (.cl f' cap') (a.eval y))
          refine ⟨us, hu, by simpa using hl, fun k z u hz hu' => ?_⟩
          rw [List.getElem?_map] at hz
          obtain ⟨p, hp, rfl⟩ := Option.map_eq_some_iff.1 hz
          rw [argOf, hq] at hvok
          simp only [argOk, List.all_eq_true] at hvok
          have h3 := hvok _ (List.mem_map.2 ⟨p, List.mem_of_getElem? hp, rfl⟩)
          have hio := hnocl f' (cap'.map (capv env)) (by rw [argOf, hq]) (by intro e; have := List.map_eq_nil_iff.1 e; rw [this] at hp; simp at hp)
          cases hcv : capv env p <;> rw [hcv] at h3 <;> simp at h3
          exact ⟨_, rfl, hcapv p u (hcc k p u hp hu') hio _ hcv⟩
      exact hrest _ rfl
    · rw [List.getElem?_append_right (by simpa using hi), List.getElem?_map] at hv
      rw [List.getElem?_append_right (by simpa using hi)] at hm'
      simp only [List.length_map] at hv hm'
      obtain ⟨p, hp, rfl⟩ := Option.map_eq_some_iff.1 hv
      have hcr := hcap _ p m hp hm'
      have hio : ios = [] := by
        rw [Bool.or_eq_true] at hcl'
        rcases hcl' with h1 | h1
        · exact List.isEmpty_iff.1 h1
        · exfalso
          rw [Bool.and_eq_true, List.all_eq_true] at h1
          have := h1.2 (capv env p) (List.mem_append_right _ (List.mem_map.2 ⟨p, List.mem_of_getElem? hp, rfl⟩))
          cases p <;> first
            | exact hcr.elim
            | (simp [capv, noCl] at this; done)
            | (simp only [capv] at this hvok
               split at this
               · simp [noCl] at this
               · rename_i hnb; rename_i x1 x2
                 cases hgg : get env x1 <;> simp [capv, hgg, argOk] at hvok)
      cases hcv : capv env p with
      | vw cs => exact hcapv p m hcr hio cs hcv
      | _ =>
        exfalso
        cases p <;> simp only [capv] at hcv <;> first
          | exact hcr.elim
          | (cases hcv; done)
          | (split at hcv <;> cases hcv <;> simp_all [capv, argOk])
  have hcall2 := hcontract w ms H hs.gw (Nat.le_trans hs.ng hs.fr.size) (by simp [vs, ms, hcl]) hargR (by
      rw [hioB]
      exact nodup_map hinj hnd) (by
      rw [hioB]
      intro g hg
      obtain ⟨t, ht, rfl⟩ := List.mem_map.1 hg
      obtain ⟨cs, h1⟩ := hbox t ht
      obtain ⟨_, _, _, _, ho, _⟩ := box_of hs h1
      rcases (hs.own _ _ ho).2 with h | h
      · exact Nat.le_trans hs.ng h
      · exact hs.ngio _ h) (by rw [hioB]; exact fun g k hk => hk.2) (fun g k hk => ⟨hk.2, hnpd g k hk.1⟩)
  rw [hioB] at hcall2
  have hex : (execOp a.eval o).run P w = .ok (.enter f ms.toArray) w := by
    unfold execOp
    rw [hop]
    simp only [resolve, hc, Sem.run_bind, hm, Deferred.ofValue]
    have hms : ms.toArray = c.args.map a.eval ++ cms.toArray := by
      apply Array.toList_inj.1
      simp [ms]
    rw [hms]
    obtain ⟨b, hbd⟩ := Option.isSome_iff_exists.1 hbody
    have hname' : ¬ fn.name = "runtime.NumGoroutine" := by simpa using hname
    simp [invoke, callFunc, hfn, hname', hbd]
  unfold Oper.wp
  rw [hex]
  refine hcall2.mono fun e w'' ⟨m, he, hpost⟩ => ?_
  subst he
  show next (a.put o.dst m) w''
  obtain ⟨hfr, pdr, hpd1, hresR, hol, houts⟩ := hpost
  let d := o.dst.getD 0
  let G' : Gh := ⟨fun g k => G.pd g k ∧ g < w.heap.size ∨ (w.heap.size ≤ g ∧ pdr g k), fun g k => G.pv g k ∧ g < w.heap.size ∨ (w.heap.size ≤ g ∧ pdr g k), G.bl, fun g => if m.ownBlock = some g ∧ w.heap.size ≤ g then (match q.1 with
    | .ow _ _ _ => some (d, 0)
    | _ => none) else (if g < w.heap.size then G.own g else none), G.B⟩
  have hsame : ∀ g k, g < w.heap.size → g ∉ ios.map G.bl → w''.cell? ⟨g, k, none⟩ = w.cell? ⟨g, k, none⟩ := fun g k h1 h2 => World.cell?_of_block (hfr.block g h1 h2)
  have E : Evo G w G' w'' (fun t => t ∈ ios) (fun _ => False) := by
    refine ⟨fun g k v h1 h2 => ?_, fun g k v h1 h2 => ?_, ?_, fun _ _ => rfl, rfl⟩
    · have hlt : g < w.heap.size := World.block_lt_of_cell? w _ h2
      exact ⟨.inl ⟨h1, hlt⟩, by rw [hsame g k hlt (hnpd g k h1)]; exact h2⟩
    · have hlt : g < w.heap.size := World.block_lt_of_cell? w _ h2
      exact ⟨.inl ⟨h1, hlt⟩, by rw [hsame g k hlt (hpvio g k h1 hlt)]; exact h2⟩
    · intro g t j ob h1 h2 h3
      have hlt := (Array.getElem?_eq_some_iff.1 h2).1
      have hnio : g ∉ ios.map G.bl := by
        intro hg
        obtain ⟨t', ht', rfl⟩ := List.mem_map.1 hg
        obtain ⟨cs, hb⟩ := hbox t' ht'
        obtain ⟨_, _, _, _, ho, _⟩ := box_of hs hb
        rw [ho] at h1
        have e : t' = t := congrArg Prod.fst (Option.some.inj h1)
        exact h3 (e ▸ ht')
      refine ⟨(hfr.block g hlt hnio).trans h2, ?_, fun k => ?_⟩
      · simp only [G']
        rw [if_neg (fun h => by omega), if_pos hlt]; exact h1
      · simp only [G']
        exact ⟨fun h => h.elim (fun h => h.1) (fun h => by omega), fun h => .inl ⟨h, hlt⟩⟩
  have hkd : ∀ {v u}, DR pdr w'' v u → DR G'.pd w'' v u := fun h => h.keep fun g k x h1 h2 => ⟨by
    by_cases hg : g < w.heap.size
    · exact .inl (hpd1 g k hg h1)
    · exact .inr ⟨by omega, h1⟩, h2⟩
  have hkds : ∀ {v u}, DRs pdr w'' v u → DRs G'.pd w'' v u := fun h => h.keep fun g k x h1 h2 => ⟨by
    by_cases hg : g < w.heap.size
    · exact .inl (hpd1 g k hg h1)
    · exact .inr ⟨by omega, h1⟩, h2⟩
  have hge : ∀ t ∈ ios, ∀ k, k = G.bl t → w0.heap.size ≤ k ∨ k ∈ io := by
    intro t ht k hk
    obtain ⟨cs, hb⟩ := hbox t ht
    obtain ⟨_, _, _, _, ho, _⟩ := box_of hs hb
    subst hk
    exact (hs.own _ _ ho).2
  have hsim : Sim NG GW io w0 pd0 G' (backs env ios q.2) a w'' := by
    refine hs.evo E (backs_len _ _ _) ?_ ?_ ?_ ?_ ?_ ?_ ?_
    · intro t v u hv hu
      rcases backs_get ios q.2 env t v (by rw [hol]; simp) hv with ⟨j, h1, h2⟩ | ⟨h1, h2⟩
      · obtain ⟨cs, us, ty, rfl, hh, hr, h1c⟩ := houts j (G.bl t) v (by rw [List.getElem?_map, h1]; rfl) h2
        have ht : t ∈ ios := List.mem_of_getElem? h1
        obtain ⟨cs0, hb⟩ := hbox t ht
        obtain ⟨us0, ty0, hpm, hh0, ho, hnp, hl0, hcr0, _⟩ := box_of hs hb
        have hlt := (hs.own _ _ ho).1
        refine .inr ⟨us, ty, ?_, hh, ?_, ?_, hr.length, fun i v u hv hu => ?_, h1c⟩
        · have hq : a.eval (.tmp t) = u := by
            obtain ⟨hlt', rfl⟩ := Array.getElem?_eq_some_iff.1 hu
            simp [Act.eval, hlt']
          rw [← hq]; exact hpm
        · simp only [G']; rw [if_neg (fun h => by omega), if_pos hlt]; exact ho
        · intro k hk
          rcases hk with hk | hk
          · exact hnp k hk.1
          · exact absurd hk.1 (by show ¬ w.heap.size ≤ G.bl t; omega)
        · have h3 := hkd (hr.at hv hu)
          cases v <;> first
            | exact h3
            | (cases h3)
      · exact .inl ⟨v, h2, rfl, h1, id, fun _ h => h.elim⟩
    · refine ⟨hfr.os.trans hs.fr.os, hfr.tape.trans hs.fr.tape, hfr.output.trans hs.fr.output, Nat.le_trans hs.fr.size hfr.size, fun k h1 h2 => ?_⟩
      rw [hfr.block k (by have := hs.fr.size; omega) (fun hk => by
        obtain ⟨t, ht, e⟩ := List.mem_map.1 hk
        rcases hge t ht k e.symm with h | h
        · omega
        · exact h2 h)]
      exact hs.fr.block k h1 h2
    · refine gws _ _ hs.gw ⟨hfr.os, hfr.tape, hfr.output, hfr.size, fun k hk => hfr.block k (by have := hs.ng; have := hs.fr.size; omega) (fun hk' => ?_)⟩
      obtain ⟨t, ht, e⟩ := List.mem_map.1 hk'
      rcases hge t ht k e.symm with h | h
      · have := hs.ng; omega
      · have := hs.ngio _ h; omega
    · intro g p hg
      simp only [G'] at hg
      split at hg
      · rename_i hb
        refine ⟨?_, .inl (by have := hs.fr.size; omega)⟩
        have := hresR
        cases hq1 : q.1 <;> rw [hq1] at hg hresR <;> simp at hg
        obtain ⟨us, ho, _⟩ := hresR
        exact (ho.lt g hb.1).2
      · split at hg
        · have := hs.own g p hg
          exact ⟨Nat.lt_of_lt_of_le this.1 hfr.size, this.2⟩
        · cases hg
    · intro g k hg hk
      rcases hk with hk | hk
      · left
        refine ⟨hs.ownp g k ?_ hk.1, hk.2⟩
        simp only [G'] at hg
        rw [if_neg (fun h => by omega), if_pos hk.2] at hg
        exact hg
      · exact .inr hk
    · intro g k hk
      rcases hk with hk | hk
      · exact .inl ⟨hs.dv g k hk.1, hk.2⟩
      · exact .inr hk
    · intro g k h1 hk
      rcases hk with hk | hk
      · exact hs.old g k h1 hk.1
      · have := hs.fr.size; omega
  refine hn G' _ _ _ (hsim.put o.dst fun d' hd' => ?_) hK
  have hdd : d = d' := by simp [d, hd']
  cases hq1 : q.1 <;> rw [hq1] at hresR hres <;> simp [resOk] at hres <;> first
    | exact hkd hresR
    | exact hresR
    | skip
  obtain ⟨us, ho, hr, hz, h1, hl, hpg⟩ := hresR
  refine ⟨us, ?_, hkds hr, hz, h1, hl, fun g hg => ?_⟩
  · refine ⟨ho.1, ?_⟩
    rcases ho.2 with hnil | ⟨g, cap, cur, e1, e2, e3⟩
    · exact .inl hnil
    · exact .inr ⟨g, cap, cur, e1, by show G.B ≤ g; rw [hs.B]; have := hs.fr.size; omega, e3⟩
  · have hgl := (ho.lt g hg).1
    refine ⟨?_, fun k => ?_⟩
    · simp only [G']; rw [if_pos ⟨hg, hgl⟩, hq1, hdd]
    · simp only [G']
      rw [← hpg g hg k]
      exact ⟨fun h => h.elim (fun h => by omega) (fun h => h.2), fun h => .inr ⟨hgl, h⟩⟩
end
section
variable {P : Program} {NG : Nat} {GW : World → Prop} {io : List Nat} {w0 : World} {pd0 : Nat → Nat → Prop} {G G' : Gh} {env : Env} {a : Act} {w w' : World}
variable {R : Type} {K : Env → Option R} {r : R} {next : Act → World → Prop} {Q : Exit → Act → World → Prop} {o : Oper} {C : Cx} {ops : List Oper} {dr : Option (List Nat)}
theorem vop_sound (hti : TIok P C.ti) (gws : ∀ w w', GW w → Below NG w w' → GW w') (hC : CallOk P NG GW C.call) (hs : Sim NG GW io w0 pd0 G env a w) (hn : Nx NG GW io w0 pd0 K r next) (h : vop C ops dr o env K = some r) : o.wp P a w next Q := by
  cases hop : o.op with
  | move x => exact move_sound hs hn (by unfold execOp; rw [hop]; rfl) (by simpa only [vop, hop] using h)
  | assign x => exact move_sound hs hn (by unfold execOp; rw [hop]; rfl) (by simpa only [vop, hop] using h)
  | pick c x y => exact small_sound hti hs hn (.inl ⟨_, _, _, hop⟩) h
  | alloc t =>
    simp only [vop, hop] at h
    split at h
    · rename_i i d hi hd; exact alloc_sound hti hs gws hn hop hi hd h
    · cases h
  | box t x =>
    simp only [vop, hop] at h
    split at h
    · rename_i i d hi hd
      split at h
      · rename_i hc; exact boxop_sound hti hs gws hn hop hi hd hc.1 hc.2 h
      · cases h
    · cases h
  | build t parts => exact build_sound hti hs hn hop h
  | buildSlice t len parts => exact buildSlice_sound hti gws hs hn hop h
  | load t x => exact load_sound hti hs hn hop h
  | store t x y => exact store_sound hti gws hs hn hop h
  | nilCheck x => exact small_sound hti hs hn (.inr (.inr (.inr (.inl ⟨_, hop⟩)))) h
  | binOp op t x y u => exact small_sound hti hs hn (.inr (.inr (.inl ⟨_, _, _, _, _, hop⟩))) h
  | unOp op t x => exact small_sound hti hs hn (.inr (.inl ⟨_, _, _, hop⟩)) h
  | convert s d x => exact small_sound hti hs hn (.inr (.inr (.inr (.inr (.inr (.inr (.inr ⟨_, _, _, hop⟩))))))) h
  | makeFunc f x y =>
    cases f with
    | func f => exact small_sound hti hs hn (.inr (.inr (.inr (.inr (.inr (.inr (.inl ⟨_, _, _, hop⟩))))))) h
    | _ => simp [vop, hop] at h
  | makeSlice t l c => exact makeSlice_sound hti gws hs hn hop h
  | slice t x lo hi mx => exact slice_sound hti hs hn hop h
  | fieldAddr t x f => exact fieldAddr_sound hti hs hn hop h
  | indexAddr t x ix => exact indexAddr_sound hti hs hn hop h
  | index t x ix => exact small_sound hti hs hn (.inr (.inr (.inr (.inr (.inl ⟨_, _, _, hop⟩))))) h
  | extract x n => exact small_sound hti hs hn (.inr (.inr (.inr (.inr (.inr (.inl ⟨_, _, hop⟩)))))) h
  | call c =>
    cases hc : c.callee with
    | value x => exact call_sound gws hC hs hn hop hc h
    | invoke x m => simp [vop, hop, hc] at h
    | builtin b =>
      cases b <;> first
        | exact append_sound hti gws hs hn hop hc h
        | exact len_sound hti hs hn hop (.inl hc) h
        | exact len_sound hti hs hn hop (.inr hc) h
        | (simp [vop, hop, hc] at h; done)
  | _ => simp [vop, hop] at h
theorem seen_ok (hs : Sim NG GW io w0 pd0 G env a w) {ops : Array Oper} {j : Nat} {q : Option Bool} (h : seen ops.toList env j = some q) : yielded ops a.tmps j = q := by
  unfold seen at h
  split at h
  case h_2 => cases h
  rename_i o ho
  split at h
  case h_2 => cases h
  rename_i t ht
  have ho' : ops[j]? = some o := by simpa using ho
  have hsl := get_slot hs t
  have hin : ∀ v, get env t = .s v → a.tmps[t]? = some v := by
    intro v hv
    have hne : env[t]? ≠ none := fun e => by rw [get, nth_none e] at hv; cases hv
    have hlt : t < a.tmps.size := by
      rw [← hs.size]
      by_cases hlt : t < env.length
      · exact hlt
      · exact absurd (List.getElem?_eq_none (Nat.le_of_not_lt hlt)) hne
    rw [hv] at hsl
    have h2 : DR G.pd w (.s v) (a.eval (.tmp t)) := hsl
    have h3 : a.eval (.tmp t) = v := by
      generalize a.eval (.tmp t) = m at h2
      cases h2; rfl
    rw [← h3]
    simp [Act.eval, hlt]
  unfold yielded
  simp only [ho', Option.bind_some, ht]
  split at h
  · rename_i b hb; cases h; rw [hin _ hb]
  · rename_i v hnb hb
    cases h
    rw [hin _ hb]
    split
    · rename_i b e; cases e; exact absurd rfl (hnb b)
    · rfl
  · cases h
theorem vops_sound (hti : TIok P C.ti) (gws : ∀ w w', GW w → Below NG w w' → GW w') (hC : CallOk P NG GW C.call) {ops : Array Oper} (hn : Nx NG GW io w0 pd0 K r (Q .normal)) : ∀ (l : List Oper) (G : Gh) (env : Env) (a : Act) (w : World), Sim NG GW io w0 pd0 G env a w → vops C ops.toList dr l env K = some r → wpList P ops Q l a w
  | [], G, env, a, w, hs, h => hn _ _ _ _ hs h
  | o :: l, G, env, a, w, hs, h => by
    have hnext : Nx NG GW io w0 pd0 (fun env' => vops C ops.toList dr l env' K) r (wpList P ops Q l) := fun G' env' a' w' hs' h' => vops_sound hti gws hC hn l G' env' a' w' hs' h'
    rw [vops] at h
    unfold wpList
    split at h
    · rename_i hg
      have hw : Region.wanted o (yielded ops a.tmps) = true := by simp [Region.wanted, hg]
      rw [if_pos hw]
      exact .inl (vop_sound hti gws hC hs hnext h)
    · rename_i j want hg
      have hskip : ∀ (h2 : vput dr o.dst (.s undef) env (fun env' => vops C ops.toList dr l env' K) = some r), wpList P ops Q l (a.put o.dst undef) w := fun h2 => hnext _ _ _ _ (hs.put o.dst fun d _ => VR.slot (VR.of_dr (.s _)) d) (vput_some h2)
      split at h
      · rename_i b hb
        have hy := seen_ok hs hb
        rcases bite_some h with ⟨hbw, h⟩ | ⟨hbw, h⟩
        · have hw : Region.wanted o (yielded ops a.tmps) = true := by simp only [Region.wanted, hg, hy]; simpa using hbw
          rw [if_pos hw]
          exact .inl (vop_sound hti gws hC hs hnext h)
        · have hw : ¬ Region.wanted o (yielded ops a.tmps) = true := by simp only [Region.wanted, hg, hy]; simpa using hbw
          rw [if_neg hw]
          exact hskip h
      · rename_i hb
        have hy := seen_ok hs hb
        have hw : ¬ Region.wanted o (yielded ops a.tmps) = true := by simp [Region.wanted, hg, hy]
        rw [if_neg hw]
        exact hskip h
      · cases h
def AnyOk (P : Program) (NG : Nat) (GW : World → Prop) (C : Cx) : Prop := ∀ {R : Type} {io : List Nat} {w0 : World} {pd0 : Nat → Nat → Prop} {G : Gh} {env : Env} {a : Act} {w : World} {K : Env → Option R} {r : R} {Q : Exit → Act → World → Prop} (id : Nat) (ops : Array Oper), anyOrder C ops.toList = true → (allocs ops.toList).any (fun d => env.any (refersD d)) = false → Sim NG GW io w0 pd0 G env a w → vops C ops.toList (some (allocs ops.toList)) ops.toList env K = some r → Nx NG GW io w0 pd0 K r (Q .normal) → (Code.region id ops true).wp P Q a w
theorem clr_get : ∀ (l : List Nat) (env : Env) (i t : Nat) (v : VV), (clr l i env)[t]? = some v → v = .un ∨ env[t]? = some v
  | l, [], i, t, v, h => by simp [clr] at h
  | l, u :: r, i, 0, v, h => by
    simp only [clr, List.getElem?_cons_zero, Option.some.injEq] at h
    split at h
    · exact .inr (by simpa using h)
    · exact .inl h.symm
  | l, u :: r, i, t + 1, v, h => by
    rcases clr_get l r (i + 1) t v (by simpa [clr] using h) with h | h
    · exact .inl h
    · exact .inr (by simpa using h)
theorem clr_len : ∀ (l : List Nat) (env : Env) (i : Nat), (clr l i env).length = env.length
  | _, [], _ => rfl
  | l, u :: r, i => by rw [clr, List.length_cons, clr_len l r, List.length_cons]
theorem Sim.clear (hs : Sim NG GW io w0 pd0 G env a w) (l : Option (List Nat)) : Sim NG GW io w0 pd0 G (VI.clear l env) a w := by
  cases l with
  | none => exact hs
  | some l =>
    refine { hs with size := (clr_len l env 0).trans hs.size, slot := fun t v m hv hm => ?_ }
    rcases clr_get l env 0 t v hv with rfl | h
    · exact SlotR.un
    · exact hs.slot t v m h hm
theorem run_sound (hti : TIok P C.ti) (gws : ∀ w w', GW w → Below NG w w' → GW w') (hC : CallOk P NG GW C.call) (hA : AnyOk P NG GW C) (kp : Nat → Option (List Nat)) : ∀ (c : Code) (b : Nat) (G : Gh) (env : Env) (a : Act) (w : World) (K : Exit → Env → Option R) (Q : Exit → Act → World → Prop), Sim NG GW io w0 pd0 G env a w → run C kp c b env K = some r → (∀ e G' env' a' w', Sim NG GW io w0 pd0 G' env' a' w' → K e env' = some r → Q e a' w') → c.wp P Q a w := by
  intro c
  induction c with
  | skip => intro b G env a w K Q hs h hq; exact wp_skip (hq _ _ _ _ _ hs h)
  | region id ops draw =>
    intro b G env a w K Q hs h hq
    cases draw with
    | false => exact wp_region_list (vops_sound hti gws hC (fun G' env' a' w' hs' h' => hq .normal _ _ _ _ hs' h') ops.toList G env a w hs h)
    | true =>
      obtain ⟨h1, h2⟩ := bite_none h
      split at h2
      case h_2 => cases h2
      rename_i h3
      exact hA id ops h1 h3 hs h2 (fun G' env' a' w' hs' h' => hq .normal _ _ _ _ hs' h')
  | seq x y ihx ihy =>
    intro b G env a w K Q hs h hq
    refine wp_seq (ihx b G env a w _ _ hs h fun e G' env' a' w' hs' h' => ?_)
    cases e with
    | normal => exact ihy b G' env' a' w' K Q hs' h' hq
    | _ => exact hq _ _ _ _ _ hs' h'
  | cond c x y ihx ihy =>
    intro b G env a w K Q hs h hq
    simp only [run] at h
    split at h
    case h_2 => cases h
    rename_i t ht
    have hc := rdv_rel hs c
    rw [ht] at hc
    rcases bite_some h with ⟨rfl, h⟩ | ⟨rfl, h⟩
    · exact wp_cond_true hc.sv (ihx b G env a w K Q hs h hq)
    · exact wp_cond_false hc.sv (ihy b G env a w K Q hs h hq)
  | block id c ih =>
    intro b G env a w K Q hs h hq
    refine wp_block (ih id G env a w _ _ hs h fun e G' env' a' w' hs' h' => ?_)
    cases e with
    | exit i =>
      simp only at h'
      show if i = id then Q .normal a' w' else Q (.exit i) a' w'
      split at h'
      · rename_i hb; rw [if_pos (Nat.eq_of_beq_eq_true hb)]; exact hq _ _ _ _ _ hs' h'
      · rename_i hb; rw [if_neg (fun e => by subst e; simp at hb)]; exact hq _ _ _ _ _ hs' h'
    | _ => exact hq _ _ _ _ _ hs' h'
  | loop c ih =>
    intro b G env a w K Q hs h hq
    simp only [run] at h
    have key : ∀ (n : Nat) (G : Gh) (env : Env) (a : Act) (w : World), Sim NG GW io w0 pd0 G env a w → iter (fun env' K' => clearK (kp b) env' fun e => run C kp c b e K') n env K = some r → Code.rounds P c Q n a w := by
      intro n
      induction n with
      | zero => intro G env a w hs h; cases h
      | succ n ihn =>
        intro G env a w hs h
        rw [iter, clearK_eq] at h
        refine ih b G _ a w _ _ (hs.clear (kp b)) h fun e G' env' a' w' hs' h' => ?_
        cases e with
        | normal => exact ihn G' env' a' w' hs' h'
        | _ => exact hq _ _ _ _ _ hs' h'
    exact wp_loop_rounds C.m (key C.m G env a w hs h)
  | exit id => intro b G env a w K Q hs h hq; exact wp_exit (hq _ _ _ _ _ hs h)
  | ret => intro b G env a w K Q hs h hq; exact wp_ret (hq _ _ _ _ _ hs h)
  | _ => intro b G env a w K Q hs h hq; cases h
end
section
variable {P : Program} {NG : Nat} {GW : World → Prop} {io : List Nat} {w0 : World} {pd0 : Nat → Nat → Prop} {G : Gh} {env : Env} {a : Act} {w : World} {ti : TypeId → Option TI}
theorem ioB_none : ∀ (vs : List VV) (ms : List Value), (∀ v ∈ vs, ∀ cs, v ≠ .bx cs) → ioB vs ms = []
  | [], ms, _ => by cases ms <;> rfl
  | v :: vs, [], _ => by cases v <;> rfl
  | v :: vs, m :: ms, h => by
    have := h v (by simp)
    cases v <;> first
      | (simp only [ioB]; exact ioB_none vs ms (fun x hx => h x (by simp [hx])))
      | exact absurd rfl (this _)
theorem outs_none : ∀ (vs : List VV) (i : Nat) (os : List VV), outs env i vs = some os → os = [] ∧ ∀ v ∈ vs, ∀ cs, v ≠ .bx cs
  | [], i, os, h => by simp [outs] at h; exact ⟨h, by simp⟩
  | v :: vs, i, os, h => by
    cases v <;> simp only [outs] at h <;> first
      | (cases h; done)
      | (obtain ⟨h1, h2⟩ := outs_none vs _ os h
         refine ⟨h1, fun u hu cs => ?_⟩
         rcases List.mem_cons.1 hu with rfl | hu
         · exact fun e => VV.noConfusion e
         · exact h2 u hu cs)
def endPd (G : Gh) (env : Env) (g k : Nat) : Prop := G.pd g k ∨ ∃ t e z xs, get env t = .mr e z xs ∧ g = G.bl t ∧ k < xs.length * z
theorem made_of (hs : Sim NG GW io w0 pd0 G env a w) {t : Nat} {e : TypeId} {z : Nat} {xs : List VV} (h : get env t = .mr e z xs) : MadeR G w t e z xs (a.eval (.tmp t)) := by have := get_slot hs t; rw [h] at this; exact this
theorem end_dr {v : VV} {m : Value} (h : DR G.pd w v m) : DR (endPd G env) w v m := h.keep fun _ _ _ h1 h2 => ⟨.inl h1, h2⟩
theorem end_drs {v : List VV} {m : List Value} (h : DRs G.pd w v m) : DRs (endPd G env) w v m := h.keep fun _ _ _ h1 h2 => ⟨.inl h1, h2⟩
def rvSem (tmps : Array Value) (rv : ResultVar) : Sem Value := match rv with
  | .tmp t => pure (tmps.getD t undef)
  | .cell b t => do loadVar t (← asAddr (tmps.getD b undef))
theorem made_res (hs : Sim NG GW io w0 pd0 G env a w) {t : Nat} {e : TypeId} {z : Nat} {xs : List VV} {m : Value} (hsl : MadeR G w t e z xs m) (hg : get env t = .mr e z xs) : ResR w0.heap.size (endPd G env) w (.ow e z xs) m := by
  obtain ⟨ms, hm, hh, ho, hnp, hr, hz, h1, hl, h0, hB⟩ := hsl
  have hml : ms.length = xs.length * z := by rw [← hr.length, flat_len hz]
  refine ⟨ms, ?_, end_drs hr, hz, h1, hl, fun g hg' k => ?_⟩
  · rw [hm]
    exact ⟨hml, .inr ⟨G.bl t, xs.length, ms.toArray, rfl, by rw [← hs.B]; exact hB, hh, Nat.le_refl _, hl, by rw [List.size_toArray]; exact hml, by rw [← hml]; exact List.take_length⟩⟩
  · rw [hm] at hg'
    simp [Value.ownBlock] at hg'
    subst hg'
    refine ⟨fun h => h.elim (fun h => absurd h (hnp k)) fun ⟨t', e', z', xs', h1, h2, h3⟩ => ?_, fun h => .inr ⟨t, e, z, xs, hg, rfl, h⟩⟩
    obtain ⟨_, _, _, ho', _⟩ := made_of hs h1
    rw [← h2, ho] at ho'
    have : t = t' := congrArg Prod.fst (Option.some.inj ho')
    subst this
    rw [hg] at h1; cases h1; exact h3
theorem resv_ok (hti : TIok P ti) (hs : Sim NG GW io w0 pd0 G env a w) {rv : ResultVar} {v : VV} (h : resv ti env rv = some v) :
    ∃ m, (rvSem a.tmps rv).run P w = .ok m w ∧ ResR w0.heap.size (endPd G env) w v m := by
  cases rv with
  | tmp t =>
    refine ⟨_, rfl, ?_⟩
    have hsl := get_slot hs t
    simp only [resv] at h
    change ResR _ _ _ _ (a.eval (.tmp t))
    cases hg : get env t <;> rw [hg] at h hsl <;> simp only [Option.some.injEq, reduceCtorEq] at h <;> (try subst h) <;> first
      | exact end_dr hsl
      | exact hsl
      | skip
    · rename_i u n
      split at h
      · rename_i e z xs hu
        obtain ⟨hb, h⟩ := must_some h
        cases h
        have hn := Nat.eq_of_beq_eq_true hb
        have hM := made_of hs hu
        have he : a.eval (.tmp t) = a.eval (.tmp u) := by
          obtain ⟨ms, hm, _⟩ := hM
          have h2 : a.eval (.tmp t) = .slice (some ⟨G.bl u, 0, none⟩) n n := hsl
          rw [hm, h2, hn]
        rw [he]
        exact made_res hs hM hu
      · cases h
    · rename_i e z xs
      obtain ⟨ms, ho, hr, hz, h1, hl, hgo⟩ := (hsl : OwnR G w (t, 0) e z xs _)
      rw [hs.B] at ho
      refine ⟨ms, ho, end_drs hr, hz, h1, hl, fun g hg' k => ?_⟩
      rw [← (hgo g hg').2 k]
      refine ⟨fun h => h.elim id fun ⟨t', e', z', xs', h1, h2, _⟩ => ?_, .inl⟩
      obtain ⟨_, _, _, ho', _⟩ := made_of hs h1
      rw [← h2, (hgo g hg').1] at ho'
      have : t = t' := congrArg Prod.fst (Option.some.inj ho')
      subst this
      rw [hg] at h1; cases h1
    · rename_i e z xs
      exact made_res hs hsl hg
  | cell b t =>
    simp only [resv] at h
    split at h
    case h_2 => cases h
    rename_i cs i hcs hi
    have hsl := get_slot hs b
    rw [hcs] at hsl
    have hbox : BoxR G w b cs (a.eval (.tmp b)) := hsl
    obtain ⟨n, hrun, hd⟩ := vload_box hti hi h hbox
    obtain ⟨ms, ty, hpm, _⟩ := hbox
    have he : a.tmps.getD b undef = .pointer (some ⟨G.bl b, 0, none⟩) := hpm
    refine ⟨n, ?_, ?_⟩
    · simp only [rvSem, he, asAddr]
      simp only [Instr.loadAt, Instr.sureAddr] at hrun
      simpa using hrun
    · have := end_dr (env := env) hd
      cases v <;> first
        | exact this
        | (cases hd; done)
theorem ResR.dv {B : Nat} {pd : Nat → Nat → Prop} {v : VV} {m : Value} (h : ResR B pd w v m) : DR pd w v.dv m := by
  cases v <;> first
    | (have h' : DR pd w _ m := h; rw [← h'.dv] at h'; exact h')
    | (cases h; exact .sl0 _ _)
    | skip
  rename_i e z xs
  obtain ⟨ms, ho, hr, hz, h1, hl, hpd⟩ := h
  rcases ho.2 with ⟨rfl, hn⟩ | ⟨g, cap, cur, rfl, h0, hh, hnc, hcm, hcs, htk⟩
  · obtain rfl : xs = [] := List.eq_nil_of_length_eq_zero hn
    exact .sl0 _ _
  · refine .sl xs g 0 cap z ms hnc hl hz hr h1 fun k u hu => ?_
    have hk : k < xs.length * z := by rw [← ho.1]; exact (List.getElem?_eq_some_iff.1 hu).1
    refine ⟨?_, by rw [Nat.zero_add]; exact (hpd g rfl k).2 hk⟩
    have h2 := ho.cells (g := g) rfl k u hu
    rw [Addr.add_lit] at h2; exact h2
theorem resvs_ok (hti : TIok P ti) (hs : Sim NG GW io w0 pd0 G env a w) : ∀ (rs : List ResultVar) (vs : List VV), resvs ti env rs = some vs →
    ∃ ms : List Value, (rs.mapM (rvSem a.tmps)).run P w = .ok ms w ∧ DRs (endPd G env) w vs ms
  | [], vs, h => by simp [resvs] at h; subst h; exact ⟨[], rfl, .nil⟩
  | r :: rs, vs, h => by
    simp only [resvs] at h
    split at h
    case h_2 => cases h
    rename_i v vs' hv hvs
    cases h
    obtain ⟨m, h1, h2⟩ := resv_ok (P := P) hti hs hv
    obtain ⟨ms, h3, h4⟩ := resvs_ok hti hs rs vs' hvs
    refine ⟨m :: ms, ?_, .cons _ _ _ _ h2.dv h4⟩
    rw [List.mapM_cons]
    simp only [Sem.run_bind]
    rw [h1]
    simp only [Result.andThen_ok]
    rw [h3]
    rfl
theorem results_run (fn : Func) (tmps : Array Value) {ms : List Value} (h : (fn.results.toList.mapM (rvSem tmps)).run P w = .ok ms w) :
    (results fn tmps).run P w = .ok (if h : ms.length = 1 then ms[0] else .tuple ms.toArray) w := by
  have e : results fn tmps = (do
      let vs ← fn.results.mapM (rvSem tmps)
      pure (if h : vs.size = 1 then vs[0] else .tuple vs)) := by
    unfold results
    congr 2
  rw [e, Array.mapM_eq_mapM_toList]
  simp only [Sem.run_bind, Sem.run_map]
  rw [h]
  simp
theorem fixnl_ok {B : Nat} {pd : Nat → Nat → Prop} {fn : Func} {v : VV} {m : Value} (h : ResR B pd w v m) : ResR B pd w (fixnl ti fn v) m := by
  cases v <;> first
    | exact h
    | skip
  have hm : m = .slice none 0 0 := h
  subst hm
  unfold fixnl
  simp only
  split
  · split
    · split
      · split
        · exact ⟨[], World.ownsRow_nil w _ _ _, .nil, fun x h => (by cases h), fun u h => (by cases h), Nat.zero_le _, fun g h => (by simp [Value.ownBlock] at h)⟩
        · rfl
      · rfl
    · rfl
  · rfl
theorem fin_ok (hti : TIok P ti) (hs : Sim NG GW io w0 pd0 G env a w) {fn : Func} {args : List VV} {r : VV × List VV} (h : fin ti fn args env = some r) :
    (∀ v ∈ args, ∀ cs, v ≠ .bx cs) ∧ r.2 = [] ∧ ∃ m, (results fn a.tmps).run P w = .ok m w ∧ ResR w0.heap.size (endPd G env) w r.1 m := by
  unfold fin at h
  split at h
  case h_2 => cases h
  rename_i os ho
  obtain ⟨rfl, hno⟩ := outs_none args 0 os ho
  refine ⟨hno, ?_⟩
  split at h
  · rename_i rv hrv
    split at h
    case h_2 => cases h
    rename_i v hv
    cases h
    obtain ⟨m, h1, h2⟩ := resv_ok (P := P) hti hs hv
    refine ⟨rfl, m, ?_, fixnl_ok h2⟩
    have := results_run (P := P) (w := w) fn a.tmps (ms := [m]) (by
      rw [hrv, List.mapM_cons, List.mapM_nil]
      simp only [Sem.run_bind]
      rw [h1]
      rfl)
    simpa using this
  · rename_i rs hrs
    split at h
    case h_2 => cases h
    rename_i vs hvs
    cases h
    obtain ⟨ms, h1, h2⟩ := resvs_ok (P := P) hti hs fn.results.toList vs hvs
    refine ⟨rfl, .tuple ms.toArray, ?_, .tu _ _ h2⟩
    have := results_run (P := P) (w := w) fn a.tmps h1
    have hl : ms.length ≠ 1 := by
      have hl2 := h2.length
      intro e
      have hl3 : fn.results.toList.length = vs.length := by
        have : ∀ (l : List ResultVar) (q : List VV), resvs ti env l = some q → l.length = q.length := by
          intro l
          induction l with
          | nil => intro q hq; simp [resvs] at hq; subst hq; rfl
          | cons x l ih => intro q hq; simp only [resvs] at hq; split at hq <;> cases hq; simp [ih _ (by assumption)]
        exact this _ _ hvs
      match hq : fn.results.toList with
      | [x] => exact hrs x hq
      | [] => rw [hq] at hl3; simp at hl3; omega
      | _ :: _ :: _ => rw [hq] at hl3; simp at hl3; omega
    rw [dif_neg hl] at this
    exact this
def GivenOk (P : Program) (NG : Nat) (GW : World → Prop) (Gv : FuncId → Option (List VV → Option (VV × List VV))) : Prop := ∀ f g vs r, Gv f = some g → g vs = some r → CallOk1 P NG GW f vs r
theorem callv_ok (hti : TIok P ti) (gws : ∀ w w', GW w → Below NG w w' → GW w') {keep : FuncId → Nat → Option (List Nat)} {Gv : FuncId → Option (List VV → Option (VV × List VV))} (hG : GivenOk P NG GW Gv) (hA : ∀ C : Cx, C.ti = ti → CallOk P NG GW C.call → AnyOk P NG GW C) : ∀ m, CallOk P NG GW (callv P ti keep Gv m)
  | 0 => fun f vs r _ h => by simp [callv] at h
  | m + 1 => fun f vs r hok h => by
    have ih := callv_ok hti gws hG hA (keep := keep) m
    rw [callv] at h
    split at h
    · rename_i g hg; exact hG f g vs r hg h
    split at h
    case h_2 => cases h
    rename_i fn hfn
    split at h
    case h_2 => cases h
    rename_i c hname' hb
    let C : Cx := ⟨ti, callv P ti keep Gv m, m⟩
    refine ⟨⟨fn, hfn, (Bool.or_eq_false_iff.1 hname').1, by rw [hb]; rfl⟩, fun w ms H hgw hng hl hargs hnd hio hpv hpd => ?_⟩
    rw [Bool.or_eq_false_iff] at hname'
    have hname := hname'.1
    have hbx : ∀ v ∈ vs, ∀ cs, v ≠ .bx cs := fun v hv cs e => by
      have := List.any_eq_false.1 hname'.2 v hv
      subst e; simp [isBx] at this
    have hioB := ioB_none vs ms hbx
    rw [hioB]
    let G0 : Gh := ⟨H.pd, H.pv, fun _ => 0, fun _ => none, w.heap.size⟩
    have hlen : (start fn vs).length = (ms.toArray ++ Array.replicate (fn.ntmps - ms.toArray.size) undef).size := by
      simp [start, hl]
    have hs0 : Sim NG GW [] w H.pd G0 (start fn vs) { tmps := ms.toArray ++ Array.replicate (fn.ntmps - ms.toArray.size) undef, defers := [] } w := by
      refine { size := hlen, slot := ?_, df := rfl, fr := Fr.refl _ _ _, gw := hgw, ng := hng, ngio := (by simp), own := (fun g p h => by cases h), ownp := (fun g k h => absurd rfl h), dv := hpd, B := rfl, old := (fun g k _ h => h) }
      intro t v u hv hu
      by_cases ht : t < vs.length
      · rw [start, List.getElem?_append_left ht] at hv
        rw [Array.getElem?_append_left (by simpa [← hl] using ht)] at hu
        have hA := hargs t v u hv (by simpa using hu)
        cases v <;> first
          | exact absurd rfl (hbx _ (List.mem_of_getElem? hv) _)
          | exact hA.elim
          | exact hA
          | skip
        obtain ⟨us, e1, e2, e3⟩ := hA
        refine ⟨us, e1, e2, fun i x y hx hy => ?_⟩
        obtain ⟨cs, rfl, hV⟩ := e3 i x y hx hy
        exact hV
      · rw [start, List.getElem?_append_right (by omega)] at hv
        have := List.eq_of_mem_replicate (List.mem_of_getElem? hv)
        subst this
        exact SlotR.un
    refine calls_of_wp hfn hb (run_sound (r := r) (C := C) hti gws ih (hA C rfl ih) (keep f) c 0 G0 _ _ w _ _ hs0 h fun e G' env' a' w' hs' h' => ?_)
    have key : fin ti fn vs env' = some r → a'.defers = [] ∧ ∃ v, (results fn a'.tmps).run P w' = .ok v w' ∧ ∃ m, (Ending.returned v) = .returned m ∧ Post H w [] r m w' := by
      intro hf
      obtain ⟨_, h2, m', h3, h4⟩ := fin_ok (P := P) hti hs' hf
      refine ⟨hs'.df, m', h3, m', rfl, hs'.fr, endPd G' env', fun g k hg hk => ?_, h4, by rw [h2]; rfl, fun j g v hj _ => by simp at hj⟩
      rcases hk with hk | ⟨t, e, z, xs, h5, h6, _⟩
      · exact hs'.old g k hg hk
      · obtain ⟨_, _, _, _, _, _, _, _, _, _, hB⟩ := made_of hs' h5
        rw [hs'.B] at hB
        omega
    cases e with
    | normal => exact key h'
    | ret => exact key h'
    | _ => cases h'
end
end Go.Proofs.YtcfeihimmboghaaGreatDoor.VI

end
