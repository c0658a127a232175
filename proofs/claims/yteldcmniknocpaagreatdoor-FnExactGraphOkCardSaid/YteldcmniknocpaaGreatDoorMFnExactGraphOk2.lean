/- A part of the proof that the law FnExactGraphOk answers true at every input that its row speaks of. Conditions: the row's own. -/
import Derived.Test.YteldcmniknocpaaGreatDoorMFnExactGraphOk1
import Derived.Test.YteldcmniknocpaaGreatDoorMFnExactGraphOk0
import Derived.Test.YteldcmniknocpaaGreatDoorVMore
import Derived.KernelRfl
import Derived.Laws.Strings
import Derived.Test.YteldcmniknocpaaGreatDoorProg
import Derived.Test.YteldcmniknocpaaGreatDoorKFnExactGraphOk0
import Derived.Test.YteldcmniknocpaaGreatDoorKFnExactGraphOk1
import Derived.Test.YteldcmniknocpaaGreatDoorGlob
section
namespace Go.Proofs.YteldcmniknocpaaGreatDoor.VI
open Go Go.RowKit
set_option linter.unusedVariables false
set_option linter.unusedSimpArgs false
section
variable {R : Type} (C : Cx)
def vqu (o : Oper) (rd : Operand → VV) (gb : Nat → VV) (val : VV → Option R) : Option R := match o.op with
  | .move x => val (rd x)
  | .pick c a b => match rd c with
    | .s (.bool t) => bite t (val (rd a)) (val (rd b))
    | _ => none
  | .unOp op _ x => match vun op (rd x) with
    | some v => val (.s v)
    | none => none
  | .binOp op t x y _ => match vbin (isBool C t) op (rd x) (rd y) with
    | some (b, v) => must b (val (.s v))
    | none => none
  | .load ty x => match C.ti ty with
    | none => none
    | some i => match rd x with
      | .vw cs => match vload i cs 0 with
        | some v => val v
        | none => none
      | .pt t off => match gb t with
        | .bx cs => (match vload i cs off with
            | some v => val v
            | none => none)
        | _ => none
      | _ => none
  | .nilCheck x => match rd x with
    | .pt t off => val (.pt t off)
    | _ => none
  | .fieldAddr st x f => match C.ti st with
    | some i => match i.k with
      | .agg fs => match fs[f]? with
        | some (off, sz) => if sz = 0 then none else match rd x with
          | .pt t o => val (.pt t (o + off))
          | .vw cs => val (.vw (cs.drop off))
          | _ => none
        | none => none
      | _ => none
    | none => none
  | .indexAddr t x ix => match C.ti t with
    | some i => match i.k with
      | .slice e => match C.ti e with
        | some ie => match rd x, rd ix with
          | .sl xs, .s (.int _ j) => bite (decide (0 ≤ j) && decide (j < (xs.length : Int))) (vget xs j fun v => if v.cells.length = ie.sz then val (.vw v.cells) else none) none
          | .sr u n, .s (.int _ j) => bite (decide (0 ≤ j) && decide (j < (n : Int))) (val (.pe u j ie.sz)) none
          | _, _ => none
        | none => none
      | _ => none
    | none => none
  | .index t x ix => match C.ti t with
    | some i => match i.k, rd x, rd ix with
      | .str, .s (.string s), .s (.int _ j) => bite (decide (0 ≤ j) && decide (j < (s.size : Int))) (val (.byte (bt s j))) none
      | _, _, _ => none
    | none => none
  | .extract x n => match rd x with
    | .tu vs => match vs[n]? with
      | some v => val v
      | none => none
    | _ => none
  | .build t parts => match C.ti t with
    | some i => match i.k with
      | .agg _ => (match fillv i (i.zero.map liftc) (parts.toList.map fun p => (p.1, rd p.2)) with
        | some cs => val (.ag cs)
        | none => none)
      | _ => none
    | none => none
  | .buildSlice t len parts => match C.ti t with
    | some i => match i.k with
      | .slice e => match C.ti e with
        | some ie => if 0 < ie.sz ∧ len * ie.sz ≤ 16777216 then (match fills ie.sz (List.replicate len (zeroV ie)) (parts.toList.map fun p => (p.1, rd p.2)) with
          | some xs => val (.ow e ie.sz xs)
          | none => none) else none
        | none => none
      | _ => none
    | none => none
  | .makeFunc (.func f) first cap => if first.size = 0 then (match (cap.toList.map rd).all isCap with
    | true => val (.cl f (cap.toList.map rd))
    | false => none) else none
  | .convert src dst x => match C.ti src, C.ti dst with
    | some i, some j => match i.k, j.k, rd x with
      | .int _, .int k, .s (.int _ n) => val (.s (.int k (wr k n)))
      | .str, .str, .s (.string b) => val (.s (.string b))
      | _, _, _ => none
    | _, _ => none
  | .slice t x lo hi mx => match mx, C.ti t with
    | none, some i => match i.k, rd x with
      | .str, .s (.string s) => (match vbnd (lo.map rd), vbnd (hi.map rd) with
        | some l, some h => bite (bndOk s.size (l.getD 0) (h.getD s.size)) (val (.str (s.extract (l.getD 0).toNat (h.getD s.size).toNat))) none
        | _, _ => none)
      | .slice e, .sl xs => (match C.ti e, vbnd (lo.map rd), vbnd (hi.map rd) with
        | some ie, some l, some h => bite (bndOk xs.length (l.getD 0) (h.getD xs.length) && xs.all fun v => Nat.beq v.cells.length ie.sz) (val (.sl ((xs.take (h.getD xs.length).toNat).drop (l.getD 0).toNat))) none
        | _, _, _ => none)
      | _, _ => none
    | _, _ => none
  | .call c => match c.callee with
    | .builtin .len => match c.args.toList, c.argTypes.toList with
      | [x], [t] => match C.ti t with
        | some i => match i.k, rd x with
          | .str, .s (.string b) => val (.int b.size)
          | .slice _, .sl xs => val (.int xs.length)
          | .slice _, .sr _ n => val (.int n)
          | _, _ => none
        | none => none
      | _, _ => none
    | .builtin .min => match c.args.toList with
      | [x, y] => match rd x, rd y with
        | .s (.int k n), .s (.int k' n') => val (.s (.int k (if n' < n then n' else n)))
        | _, _ => none
      | _ => none
    | .value x => match rd x with
      | .cl f cap => match (c.args.toList.map rd).all drOk && drOk (.cl f cap) && (c.args.toList.map rd ++ cap).all argOk with
        | true => obind (C.call f (c.args.toList.map rd ++ cap)) fun r => (match resOk r.1 with
          | true => val r.1
          | false => none)
        | false => none
      | _ => none
    | _ => none
  | _ => none
end
section
variable {R : Type} {C : Cx} {ops : List Oper} {l : List Nat} {o : Oper} {env : Env} {K : Env → Option R}
theorem arg_dr {x : Operand} (h : drOk (rdv env x) = true) : argOf env x = rdv env x ∧ ioOf env x = [] := by
  unfold argOf ioOf
  generalize rdv env x = v at h
  cases v <;> first
    | (exact ⟨rfl, rfl⟩)
    | (simp [drOk] at h; done)
    | skip
  rename_i f cap
  refine ⟨?_, rfl⟩
  show VV.cl f (cap.map (capv env)) = VV.cl f cap
  simp only [drOk] at h
  congr 1
  conv => rhs; rw [← List.map_id cap]
  refine List.map_congr_left fun v hv => ?_
  rw [List.all_eq_true] at h
  have := h v hv
  cases v <;> simp at this
  rfl
theorem args_dr : ∀ {xs : List Operand}, (xs.map (rdv env)).all drOk = true → xs.map (argOf env) = xs.map (rdv env) ∧ xs.flatMap (ioOf env) = []
  | [], _ => ⟨rfl, rfl⟩
  | x :: r, h => by
    simp only [List.map_cons, List.all_cons, Bool.and_eq_true] at h
    obtain ⟨h1, h2⟩ := arg_dr h.1
    obtain ⟨h3, h4⟩ := args_dr h.2
    exact ⟨by rw [List.map_cons, List.map_cons, h1, h3], by rw [List.flatMap_cons, h2, h4]; rfl⟩
theorem vop_quiet (hq : quietB C ops o = true) (ha : ∀ t, o.op ≠ .alloc t) : vop C ops (some l) o env K = vqu C o (rdv env) (getB (some l) env) fun v => vput (some l) o.dst v env K := by
  cases hop : o.op with
  | move x =>
    simp only [quietB, hop] at hq
    have hfd : fd ops o.dst = false := by simpa using hq
    simp only [vop, vqu, hop, hfd, vmove]
    split
    · rename_i t
      split <;> rename_i hg <;> simp [rdv, hg, view]
    · rfl
    · rfl
  | load ty x =>
    simp only [quietB, hop] at hq
    have hfd : fd ops o.dst = false := by simpa using hq
    simp only [vop, vqu, hop, hfd]
    try rfl
  | alloc t => exact absurd hop (ha t)
  | buildSlice t len parts => simp only [vop, vqu, hop, frcL_eq]; try rfl
  | makeFunc f x y => cases f <;> simp only [vop, vqu, hop] <;> try rfl
  | call c =>
    cases hc : c.callee with
    | value x =>
      simp only [quietB, hop, hc] at hq
      simp only [vop, vqu, hop, hc]
      cases hx : rdv env x <;> try rfl
      rename_i f cap
      simp only [drArgs, List.all_cons, List.all_nil, Bool.and_true]
      cases hd : (c.args.toList.map (rdv env)).all drOk && drOk (.cl f cap)
      · rfl
      · rw [Bool.and_eq_true] at hd
        obtain ⟨e1, e2⟩ := args_dr hd.1
        have e3 : cap.map (capv env) = cap := by
          conv => rhs; rw [← List.map_id cap]
          refine List.map_congr_left fun v hv => ?_
          have := hd.2
          simp only [drOk, List.all_eq_true] at this
          have := this v hv
          cases v <;> simp at this
          rfl
        simp only [argv_eq, frcL_eq, capK_eq, e1, e2, e3, vcall, nodupB, List.isEmpty_nil, Bool.true_or, Bool.and_true, Bool.true_and, backsK]
        try rfl
    | invoke x m => simp only [vop, vqu, hop, hc]
    | builtin b => cases b <;> simp [quietB, hop, hc] at hq <;> simp only [vop, vqu, hop, hc] <;> try rfl
  | _ => first
    | (simp only [vop, vqu, hop]; done)
    | (simp only [vop, vqu, hop]; rfl)
    | (simp [quietB, hop] at hq; done)
theorem vqu_val {rd : Operand → VV} {gb : Nat → VV} {val : VV → Option R} {r : R} (h : vqu C o rd gb val = some r) : ∃ v, val v = some r ∧ ∀ {R' : Type} (val' : VV → Option R'), vqu C o rd gb val' = val' v := by
  unfold vqu at h ⊢
  cases hop : o.op with
  | move x => rw [hop] at h; exact ⟨_, h, fun {R'} _ => rfl⟩
  | pick c x y =>
    rw [hop] at h
    simp only at h ⊢
    split at h
    · rename_i t ht
      rcases bite_some h with ⟨rfl, h⟩ | ⟨rfl, h⟩ <;> exact ⟨_, h, fun {R'} _ => rfl⟩
    · cases h
  | binOp op t x y u =>
    rw [hop] at h
    simp only at h ⊢
    split at h
    · rename_i b v hv
      obtain ⟨hb, h⟩ := must_some h
      subst hb
      exact ⟨_, h, fun {R'} _ => rfl⟩
    · cases h
  | indexAddr t x ix =>
    rw [hop] at h
    simp only at h ⊢
    split at h
    case h_2 => cases h
    split at h
    case h_2 => cases h
    split at h
    case h_2 => cases h
    split at h
    · obtain ⟨hb, h⟩ := bite_none h
      obtain ⟨v, hv, h⟩ := vget_some h
      split at h
      · rename_i hl
        refine ⟨_, h, fun {R'} val' => ?_⟩
        simp only [hb, bite, vget, hv, hl, if_pos]
      · cases h
    · obtain ⟨hb, h⟩ := bite_none h
      exact ⟨_, h, fun {R'} val' => by simp only [hb, bite]⟩
    · cases h
  | index t x ix =>
    rw [hop] at h
    simp only at h ⊢
    split at h
    case h_2 => cases h
    split at h
    · obtain ⟨hb, h⟩ := bite_none h
      exact ⟨_, h, fun {R'} val' => by simp only [hb, bite]⟩
    · cases h
  | slice t x lo hi mx =>
    rw [hop] at h
    simp only at h ⊢
    split at h
    case h_2 => cases h
    split at h
    · split at h
      · obtain ⟨hb, h⟩ := bite_none h
        exact ⟨_, h, fun {R'} val' => by simp only [hb, bite]⟩
      · cases h
    · split at h
      · obtain ⟨hb, h⟩ := bite_none h
        exact ⟨_, h, fun {R'} val' => by simp only [hb, bite]⟩
      · cases h
    · cases h
  | makeFunc f x y =>
    rw [hop] at h
    cases f <;> simp only [reduceCtorEq] at h ⊢
    split at h
    · rename_i h0
      split at h
      · rename_i h1; exact ⟨_, h, fun {R'} val' => by simp only [h0, if_pos]⟩
      · cases h
    · cases h
  | call c =>
    rw [hop] at h
    simp only at h ⊢
    cases hc : c.callee with
    | value x =>
      rw [hc] at h
      simp only at h ⊢
      split at h
      case h_2 => cases h
      split at h
      case h_2 => cases h
      rename_i hk
      unfold obind at h ⊢
      split at h
      · rename_i q hq
        simp only at h ⊢
        split at h
        · rename_i hr; exact ⟨_, h, fun {R'} val' => by simp only [hr]⟩
        · cases h
      · cases h
    | invoke x m => rw [hc] at h; cases h
    | builtin b =>
      rw [hc] at h
      cases b <;> simp only [reduceCtorEq] at h ⊢
      · split at h
        case h_2 => cases h
        split at h
        case h_2 => cases h
        split at h <;> first
          | (cases h; done)
          | exact ⟨_, h, fun {R'} _ => rfl⟩
      · split at h
        case h_2 => cases h
        split at h
        case h_2 => cases h
        exact ⟨_, h, fun {R'} _ => rfl⟩
  | _ =>
    rw [hop] at h
    simp only [reduceCtorEq] at h ⊢ <;> (repeat' (split at h)) <;> first
      | (cases h; done)
      | (refine ⟨_, h, fun {R'} val' => ?_⟩; first | rfl | (simp only [*]; done) | (simp [*]; done))
theorem map_rd {rd rd' : Operand → VV} {xs : List Operand} (h : ∀ x ∈ xs, rd' x = rd x) : xs.map rd' = xs.map rd := List.map_congr_left h
theorem omap_rd {rd rd' : Operand → VV} {x : Option Operand} (h : ∀ y, x = some y → rd' y = rd y) : x.map rd' = x.map rd := by
  cases x with
  | none => rfl
  | some y => rw [Option.map_some, Option.map_some, h y rfl]
theorem vqu_congr {rd rd' : Operand → VV} {gb gb' : Nat → VV} {val : VV → Option R} (h : ∀ x ∈ o.op.operands.toList, rd' x = rd x) (hg : ∀ ty x, o.op = .load ty x → ∀ t off, rd x = .pt t off → gb' t = gb t) : vqu C o rd' gb' val = vqu C o rd gb val := by
  unfold vqu
  cases hop : o.op with
  | load t x =>
    rw [hop] at h
    simp only
    rw [h x (by simp [Op.operands])]
    cases C.ti t with
    | none => rfl
    | some i =>
      cases hx : rd x <;> try rfl
      rename_i u off
      simp only
      rw [hg t x hop u off hx]
  | build t parts =>
    rw [hop] at h
    have e : (parts.toList.map fun p => (p.1, rd' p.2)) = parts.toList.map fun p => (p.1, rd p.2) := List.map_congr_left fun p hp => by
      rw [h p.2 (by simp [Op.operands]; exact ⟨p.1, by simpa using hp⟩)]
    simp only [e]
  | buildSlice t n parts =>
    rw [hop] at h
    have e : (parts.toList.map fun p => (p.1, rd' p.2)) = parts.toList.map fun p => (p.1, rd p.2) := List.map_congr_left fun p hp => by
      rw [h p.2 (by simp [Op.operands]; exact ⟨p.1, by simpa using hp⟩)]
    simp only [e]
  | makeFunc f x y =>
    rw [hop] at h
    have e : y.toList.map rd' = y.toList.map rd := map_rd fun z hz => h z (by simp [Op.operands]; exact .inr (by simpa using hz))
    cases f <;> simp only [e]
  | slice t x lo hi mx =>
    rw [hop] at h
    have e1 := h x (by simp [Op.operands])
    have e2 : lo.map rd' = lo.map rd := omap_rd fun y hy => h y (by subst hy; simp [Op.operands])
    have e3 : hi.map rd' = hi.map rd := omap_rd fun y hy => h y (by subst hy; simp [Op.operands])
    simp only [e1, e2, e3]
  | call c =>
    rw [hop] at h
    cases hc : c.callee with
    | value x =>
      have e1 := h x (by simp [Op.operands, Call.operands, hc])
      have e2 : c.args.toList.map rd' = c.args.toList.map rd := map_rd fun z hz => h z (by simp [Op.operands, Call.operands, hc]; exact .inr (by simpa using hz))
      simp only [hc, e1, e2]
    | invoke x m => simp only [hc]
    | builtin b =>
      have e : ∀ z ∈ c.args.toList, rd' z = rd z := fun z hz => h z (by simp [Op.operands, Call.operands, hc]; simpa using hz)
      cases b <;> simp only [hc]
      · split
        · rename_i x t hx ht
          rw [e x (by rw [hx]; simp)]
        · rfl
      · split
        · rename_i x y hx
          rw [e x (by rw [hx]; simp), e y (by rw [hx]; simp)]
        · rfl
  | binOp op t x y u =>
    rw [hop] at h
    simp only [h x (by simp [Op.operands]), h y (by simp [Op.operands])]
  | pick c x y =>
    rw [hop] at h
    simp only [h c (by simp [Op.operands]), h x (by simp [Op.operands]), h y (by simp [Op.operands])]
  | indexAddr t x y =>
    rw [hop] at h
    simp only [h x (by simp [Op.operands]), h y (by simp [Op.operands])]
  | index t x y =>
    rw [hop] at h
    simp only [h x (by simp [Op.operands]), h y (by simp [Op.operands])]
  | move x => rw [hop] at h; simp only [h x (by simp [Op.operands])]
  | unOp op t x => rw [hop] at h; simp only [h x (by simp [Op.operands])]
  | nilCheck x => rw [hop] at h; simp only [h x (by simp [Op.operands])]
  | fieldAddr t x f => rw [hop] at h; simp only [h x (by simp [Op.operands])]
  | extract x n => rw [hop] at h; simp only [h x (by simp [Op.operands])]
  | convert s d x => rw [hop] at h; simp only [h x (by simp [Op.operands])]
  | _ => rfl
end
theorem befores_len : ∀ (l : List Oper) (acc : List Nat), (befores l acc).length = acc.length + l.length
  | [], acc => rfl
  | o :: r, acc => by rw [befores, befores_len r]; simp; omega
theorem befores_old : ∀ (l : List Oper) (acc : List Nat) (i : Nat), i < acc.length → (befores l acc)[i]? = acc[i]?
  | [], acc, i, h => rfl
  | o :: r, acc, i, h => by rw [befores, befores_old r _ i (by simp; omega), List.getElem?_append_left h]
def edgeBits (acc : List Nat) (o : Oper) : Nat := o.after.toList.foldl (fun s e => match Region.binds .any e with
    | true => s ||| (1 <<< e.on) ||| acc.getD e.on 0
    | false => s) 0
theorem fold_bits (acc : List Nat) (j : Nat) : ∀ (es : List Edge) (s : Nat), (es.foldl (fun s e => match Region.binds .any e with
    | true => s ||| (1 <<< e.on) ||| acc.getD e.on 0
    | false => s) s).testBit j = true → s.testBit j = true ∨ ∃ e ∈ es, Region.binds .any e = true ∧ (e.on = j ∨ (acc.getD e.on 0).testBit j = true)
  | [], s, h => .inl h
  | e :: es, s, h => by
    rw [List.foldl_cons] at h
    rcases fold_bits acc j es _ h with h | ⟨e', he, h1, h2⟩
    · split at h
      · rename_i hb
        rw [Nat.testBit_or, Nat.testBit_or, Bool.or_eq_true, Bool.or_eq_true] at h
        rcases h with (h | h) | h
        · exact .inl h
        · refine .inr ⟨e, by simp, hb, .inl ?_⟩
          rw [Nat.one_shiftLeft, Nat.testBit_two_pow] at h
          simpa using h
        · exact .inr ⟨e, by simp, hb, .inr h⟩
      · exact .inl h
    · exact .inr ⟨e', by simp [he], h1, h2⟩
theorem befores_at : ∀ (l : List Oper) (acc : List Nat) (i : Nat) (o : Oper), l[i]? = some o → (befores l acc)[acc.length + i]? = some (edgeBits ((befores l acc).take (acc.length + i)) o)
  | [], acc, i, o, h => by simp at h
  | x :: r, acc, 0, o, h => by
    simp at h; subst h
    rw [befores, Nat.add_zero, befores_old r _ acc.length (by simp)]
    have ht : (befores r (acc ++ [edgeBits acc x])).take acc.length = acc := by
      refine List.ext_getElem? fun k => ?_
      rw [List.getElem?_take]
      split
      · rw [befores_old r _ k (by simp; omega), List.getElem?_append_left (by omega)]
      · rw [List.getElem?_eq_none (by omega)]
    show (acc ++ [edgeBits acc x])[acc.length]? = _
    simp only [List.getElem?_concat_length, Option.some.injEq]
    show _ = edgeBits ((befores r (acc ++ [edgeBits acc x])).take acc.length) x
    rw [ht]
  | x :: r, acc, i + 1, o, h => by
    have := befores_at r (acc ++ [edgeBits acc x]) i o (by simpa using h)
    rw [befores]
    simp only [List.length_append, List.length_cons, List.length_nil] at this
    rw [show acc.length + (i + 1) = acc.length + (0 + 1) + i by omega]
    exact this
theorem before_edge {l : List Oper} {i j : Nat} {o : Oper} (h : l[i]? = some o) (hb : ((befores l []).getD i 0).testBit j = true) : ∃ e ∈ o.after.toList, Region.binds .any e = true ∧ (e.on = j ∨ (e.on < i ∧ ((befores l []).getD e.on 0).testBit j = true)) := by
  have h1 := befores_at l [] i o h
  simp only [List.length_nil, Nat.zero_add] at h1
  rw [List.getD_eq_getElem?_getD, h1, Option.getD_some] at hb
  rcases fold_bits _ j o.after.toList 0 hb with h2 | ⟨e, he, h2, h3⟩
  · simp at h2
  · refine ⟨e, he, h2, h3.imp id fun h3 => ?_⟩
    rw [List.getD_eq_getElem?_getD, List.getElem?_take] at h3
    split at h3
    · rename_i hlt; exact ⟨hlt, by rw [List.getD_eq_getElem?_getD]; exact h3⟩
    · simp at h3
def Down (l : List Oper) (L : Array Bool) : Prop := ∀ (i : Nat) o, l[i]? = some o → L.getD i false = true → ∀ e ∈ o.after.toList, Region.binds .any e = true → L.getD e.on false = true
theorem before_listed {l : List Oper} {L : Array Bool} (hd : Down l L) : ∀ (i : Nat) (o : Oper), l[i]? = some o → (∀ e ∈ o.after.toList, Region.binds .any e = true → L.getD e.on false = true) → ∀ j, ((befores l []).getD i 0).testBit j = true → L.getD j false = true := by
  intro i
  induction i using Nat.strongRecOn with
  | _ i ih =>
    intro o ho hr j hj
    obtain ⟨e, he, hb, h⟩ := before_edge ho hj
    have hl := hr e he hb
    rcases h with rfl | ⟨hlt, h⟩
    · exact hl
    · have hi : i < l.length := (List.getElem?_eq_some_iff.1 ho).1
      have ho' : l[e.on]? = some (l[e.on]'(by omega)) := List.getElem?_eq_getElem (by omega)
      exact ih e.on hlt _ ho' (hd e.on _ ho' hl) j h
theorem quietN_spec (bs : List Nat) : ∀ n, quietN bs n ≤ n ∧ ∀ j, quietN bs n ≤ j → j < n → bs.getD j 0 = 2 ^ j - 1
  | 0 => ⟨Nat.le_refl _, fun j _ h => absurd h (Nat.not_lt_zero _)⟩
  | n + 1 => by
    obtain ⟨h1, h2⟩ := quietN_spec bs n
    rw [quietN]
    split
    · rename_i hb
      refine ⟨by omega, fun j hj hn => ?_⟩
      by_cases e : j = n
      · subst e; exact Nat.eq_of_beq_eq_true hb
      · exact h2 j hj (by omega)
    · exact ⟨Nat.le_refl _, fun j hj hn => by omega⟩
theorem ready_iff {l : List Oper} {L : Array Bool} {i : Nat} : i ∈ Region.ready .any l.toArray L ↔ ∃ o, l[i]? = some o ∧ L.getD i true = false ∧ ∀ e ∈ o.after.toList, Region.binds .any e = true → L.getD e.on false = true := by
  unfold Region.ready
  simp only [List.mem_filter, List.mem_range, Bool.and_eq_true, Bool.not_eq_true', List.size_toArray, List.getElem?_toArray]
  constructor
  · rintro ⟨h1, h2, h3⟩
    refine ⟨l[i], List.getElem?_eq_getElem h1, h2, fun e he hb => ?_⟩
    rw [List.getElem?_eq_getElem h1] at h3
    simp only [Option.map_some, Option.getD_some, Array.all_eq_true'] at h3
    have := h3 e (by simpa using he)
    rw [hb] at this
    simpa using this
  · rintro ⟨o, h1, h2, h3⟩
    refine ⟨(List.getElem?_eq_some_iff.1 h1).1, h2, ?_⟩
    rw [h1]
    simp only [Option.map_some, Option.getD_some, Array.all_eq_true']
    intro e he
    cases hb : Region.binds .any e
    · rfl
    · simpa using h3 e (by simpa using he) hb
section
variable {P : Program} {NG : Nat} {GW : World → Prop} {io : List Nat} {w0 : World} {pd0 : Nat → Nat → Prop} {G : Gh} {env env' : Env} {a : Act} {w : World}
variable {R : Type} {K : Env → Option R} {r : R} {Q : Exit → Act → World → Prop} {o : Oper} {C : Cx} {ops : List Oper} {al : List Nat}
structure Agree (ops : List Oper) (al : List Nat) (o : Oper) (env env' : Env) : Prop where
  see : ∀ t ∈ o.looksAt ops.toArray, get env' t = get env t
  box : ∀ t cs, t ∉ al → get env t = .bx cs → get env' t = .bx cs
  dst : ∀ d, o.dst = some d → plain (get env' d) = true
  ref : ∀ d ∈ al, env'.any (refersD d) = false
theorem look_op {t : Nat} (h : Operand.tmp t ∈ o.op.operands.toList) : t ∈ o.looksAt ops.toArray := by
  unfold Oper.looksAt
  refine List.mem_append_left _ (List.mem_filterMap.2 ⟨_, h, rfl⟩)
theorem look_guard {j : Nat} {want : Bool} {p : Oper} {t : Nat} (hg : o.guard = some (j, want)) (hj : ops[j]? = some p) (ht : p.dst = some t) : t ∈ o.looksAt ops.toArray := by
  unfold Oper.looksAt
  refine List.mem_append_right _ ?_
  simp [hg, hj, ht]
theorem Agree.rd (h : Agree ops al o env env') : ∀ x ∈ o.op.operands.toList, rdv env' x = rdv env x := by
  intro x hx
  cases x with
  | tmp t => simp only [rdv]; rw [h.see t (look_op hx)]
  | _ => rfl
theorem vput_ok {dst : Option Nat} {v : VV} (h : ∃ r : R, vput (some al) dst v env K = some r) : (∀ d, dst = some d → plain (get env d) = true ∧ plain v = true ∧ al.all (fun t => !(refersD t v)) = true) := by
  obtain ⟨r, h⟩ := h
  intro d hd
  subst hd
  simp only [vput] at h
  split at h
  · rename_i hp; rw [Bool.and_eq_true, Bool.and_eq_true] at hp; exact hp
  · cases h
theorem vput_go {R' : Type} {K' : Env → Option R'} {dst : Option Nat} {v : VV} (h1 : ∀ d, dst = some d → plain (get env d) = true) (h2 : ∀ d, dst = some d → plain v = true ∧ al.all (fun t => !(refersD t v)) = true) : vput (some al) dst v env K' = K' (put dst v env) := by
  cases dst with
  | none => rfl
  | some d =>
    simp only [vput]
    rw [h1 d rfl, (h2 d rfl).1, (h2 d rfl).2]
    simp only [Bool.and_self, vset_eq]
    rfl
def QStep (P : Program) (NG : Nat) (GW : World → Prop) (io : List Nat) (w0 : World) (pd0 : Nat → Nat → Prop) (Q : Exit → Act → World → Prop) (ops : List Oper) (al : List Nat) (i : Nat) (o : Oper) (env : Env) (v : VV) : Prop :=
  (∀ d, o.dst = some d → plain (get env d) = true) ∧ (∀ t ∈ al, o.dst ≠ none → refersD t v = false) ∧ (∀ cs, v = .bx cs → ∀ d, o.dst = some d → d ∈ al) ∧ (∀ e z xs, v = .mr e z xs → o.dst = none) ∧
    ∀ (env' : Env) (G : Gh) (a : Act) (w : World), Agree ops al o env env' → Sim NG GW io w0 pd0 G env' a w → ∀ Nk : Act → World → Prop, (∀ G' a' w', Sim NG GW io w0 pd0 G' (put o.dst v env') a' w' → Nk a' w') → wpOp P ops.toArray Q i Nk a w
theorem seen_agree (h : Agree ops al o env env') {j : Nat} {want : Bool} (hg : o.guard = some (j, want)) : seen ops env' j = seen ops env j := by
  unfold seen
  cases hj : ops[j]? with
  | none => rfl
  | some p =>
    simp only
    cases ht : p.dst with
    | none => rfl
    | some t => simp only [h.see t (look_guard hg hj ht)]
theorem quiet_step (hti : TIok P C.ti) (gws : ∀ w w', GW w → Below NG w w' → GW w') (hC : CallOk P NG GW C.call) (hq : quietB C ops o = true) (hal : ∀ d t, o.op = .alloc t → o.dst = some d → d ∈ al) {i : Nat} (hi : ops[i]? = some o) {rest : List Oper} (h : vops C ops (some al) (o :: rest) env K = some r) :
    ∃ v, vops C ops (some al) rest (put o.dst v env) K = some r ∧ QStep P NG GW io w0 pd0 Q ops al i o env v := by
  have run : ∀ h : vop C ops (some al) o env (fun env' => vops C ops (some al) rest env' K) = some r, ∃ v, vops C ops (some al) rest (put o.dst v env) K = some r ∧ (∀ d, o.dst = some d → plain (get env d) = true) ∧ (∀ t ∈ al, o.dst ≠ none → refersD t v = false) ∧ (∀ cs, v = .bx cs → ∀ d, o.dst = some d → d ∈ al) ∧ (∀ e z xs, v = .mr e z xs → o.dst = none) ∧
      ∀ (env' : Env), Agree ops al o env env' → ∀ {R' : Type} (K' : Env → Option R'), vop C ops (some al) o env' K' = K' (put o.dst v env') := by
    intro h
    by_cases ha : ∃ t, o.op = .alloc t
    · obtain ⟨t, hop⟩ := ha
      simp only [vop, hop] at h
      split at h
      case h_2 => cases h
      rename_i ti d hti' hd
      have hdm := hal d t hop hd
      simp only [vnew] at h
      split at h
      case h_2 => cases h
      rename_i hc
      rw [Bool.or_eq_false_iff] at hc
      rw [vset_eq] at h
      refine ⟨.bx (ti.zero.map zcell), by rw [hd]; exact h, ?_, fun _ _ _ => rfl, ?_, fun _ _ _ he => VV.noConfusion he, ?_⟩
      · intro d' hd'; rw [hd] at hd'; cases hd'; simpa using hc.2
      · intro cs _ d' hd'; rw [hd] at hd'; cases hd'; exact hdm
      · intro env' hA R' K'
        simp only [vop, hop, hti', hd, vnew]
        rw [hA.ref d hdm, hA.dst d hd]
        simp only [Bool.not_true, Bool.or_self, vset_eq]
        rfl
    · have ha' : ∀ t, o.op ≠ .alloc t := fun t e => ha ⟨t, e⟩
      rw [vop_quiet hq ha'] at h
      obtain ⟨v, hv, huni⟩ := vqu_val h
      have hok := vput_ok ⟨r, hv⟩
      have hK := vput_some hv
      refine ⟨v, hK, fun d hd => (hok d hd).1, fun t ht hne => ?_, fun cs e d hd => ?_, fun e z xs he => ?_, fun env' hA R' K' => ?_⟩
      · cases hd : o.dst with
        | none => exact absurd hd hne
        | some d =>
          have := (hok d hd).2.2
          rw [List.all_eq_true] at this
          simpa using this t ht
      · have := (hok d hd).2.1
        rw [e] at this; cases this
      · cases hd : o.dst with
        | none => rfl
        | some d =>
          have := (hok d hd).2.1
          rw [he] at this; cases this
      · rw [vop_quiet hq ha', vqu_congr (rd := rdv env) (gb := getB (some al) env) hA.rd ?_]
        · rw [huni]
          exact vput_go hA.dst fun d hd => (hok d hd).2
        · intro ty x hop t off hx
          have hb : ∃ cs, getB (some al) env t = .bx cs := by
            simp only [vqu, hop] at h
            split at h
            · cases h
            · rw [hx] at h
              simp only at h
              split at h
              · exact ⟨_, by assumption⟩
              · cases h
          obtain ⟨cs, hcs⟩ := hb
          rw [hcs]
          have hg := getB_bx hcs
          unfold getB at hcs ⊢
          simp only at hcs ⊢
          split at hcs
          · cases hcs
          · rename_i hm
            exact hA.box t cs (fun hmem => by
              have := List.any_eq_false.1 hm t hmem
              simp at this) hg
  have mk : ∀ v, (∀ (env' : Env), Agree ops al o env env' → ∀ {R' : Type} (K' : Env → Option R'), vop C ops (some al) o env' K' = K' (put o.dst v env')) → ∀ (env' : Env) (G : Gh) (a : Act) (w : World), Agree ops al o env env' → Sim NG GW io w0 pd0 G env' a w → ∀ Nk : Act → World → Prop, (∀ G' a' w', Sim NG GW io w0 pd0 G' (put o.dst v env') a' w' → Nk a' w') → o.wp P a w Nk Q := by
    intro v hv env' G a w hA hs Nk hNk
    have := hv env' hA (R' := Env) some
    refine vop_sound (r := put o.dst v env') (K := some) hti gws hC hs (fun G' e' a' w' hs' he => ?_) this
    cases he
    exact hNk G' a' w' hs'
  rw [vops] at h
  split at h
  · rename_i hg
    obtain ⟨v, h1, h2, h3, h4, h5, h6⟩ := run h
    refine ⟨v, h1, h2, h3, h4, h5, fun env' G a w hA hs Nk hNk => ?_⟩
    unfold wpOp
    rw [show ops.toArray[i]? = some o by simpa using hi]
    simp only
    rw [if_pos (by simp [Region.wanted, hg])]
    exact .inl (mk v h6 env' G a w hA hs Nk hNk)
  · rename_i j want hg
    have skip : ∀ h : vput (some al) o.dst (.s undef) env (fun env' => vops C ops (some al) rest env' K) = some r, (∀ (env' : Env) (G : Gh) (a : Act) (w : World), Agree ops al o env env' → Sim NG GW io w0 pd0 G env' a w → ¬ Region.wanted o (yielded ops.toArray a.tmps) = true) → ∃ v, vops C ops (some al) rest (put o.dst v env) K = some r ∧ QStep P NG GW io w0 pd0 Q ops al i o env v := by
      intro h hw
      have hok := vput_ok ⟨r, h⟩
      refine ⟨.s undef, vput_some h, fun d hd => (hok d hd).1, fun _ _ _ => rfl, fun cs e => VV.noConfusion e, fun _ _ _ e => VV.noConfusion e, fun env' G a w hA hs Nk hNk => ?_⟩
      unfold wpOp
      rw [show ops.toArray[i]? = some o by simpa using hi]
      simp only
      rw [if_neg (hw env' G a w hA hs)]
      exact hNk G _ _ (hs.put o.dst fun d _ => VR.slot (VR.of_dr (.s _)) d)
    split at h
    · rename_i b hb
      have hy : ∀ (env' : Env) (G : Gh) (a : Act) (w : World), Agree ops al o env env' → Sim NG GW io w0 pd0 G env' a w → yielded ops.toArray a.tmps j = some b := fun env' G a w hA hs => seen_ok hs (ops := ops.toArray) (by rw [← hb]; exact seen_agree hA hg)
      rcases bite_some h with ⟨hbw, h⟩ | ⟨hbw, h⟩
      · obtain ⟨v, h1, h2, h3, h4, h5, h6⟩ := run h
        refine ⟨v, h1, h2, h3, h4, h5, fun env' G a w hA hs Nk hNk => ?_⟩
        unfold wpOp
        rw [show ops.toArray[i]? = some o by simpa using hi]
        simp only
        rw [if_pos (by simp only [Region.wanted, hg, hy env' G a w hA hs]; simpa using hbw)]
        exact .inl (mk v h6 env' G a w hA hs Nk hNk)
      · exact skip h fun env' G a w hA hs => by simp only [Region.wanted, hg, hy env' G a w hA hs]; simpa using hbw
    · rename_i hb
      refine skip h fun env' G a w hA hs => ?_
      have hy : yielded ops.toArray a.tmps j = none := seen_ok hs (ops := ops.toArray) (by rw [← hb]; exact seen_agree hA hg)
      simp [Region.wanted, hg, hy]
    · cases h
end
section
variable {l : List Oper} {vals : Nat → VV} {env0 env : Env} {n : Nat}
def chainE (l : List Oper) (vals : Nat → VV) (env0 : Env) : Nat → Env
  | 0 => env0
  | k + 1 => put ((l[k]?).bind (·.dst)) (vals k) (chainE l vals env0 k)
theorem chainE_congr {vals' : Nat → VV} : ∀ k, (∀ j, j < k → vals j = vals' j) → chainE l vals env0 k = chainE l vals' env0 k
  | 0, _ => rfl
  | k + 1, h => by rw [chainE, chainE, chainE_congr k (fun j hj => h j (by omega)), h k (by omega)]
structure QS (l : List Oper) (vals : Nat → VV) (env0 : Env) (n : Nat) (S : Nat → Prop) (env : Env) : Prop where
  len : env.length = env0.length
  hit : ∀ (k : Nat) o d, k < n → l[k]? = some o → o.dst = some d → S k → d < env0.length → get env d = vals k
  miss : ∀ t, (∀ (k : Nat) o, k < n → l[k]? = some o → o.dst = some t → ¬ S k) → get env t = get env0 t
theorem nth_set : ∀ (env : Env) (d t : Nat) (v : VV), nth (env.set d v) t = if d = t ∧ d < env.length then v else nth env t
  | [], d, t, v => by simp [nth]
  | a :: r, 0, 0, v => by simp [nth]
  | a :: r, 0, t + 1, v => by simp [nth]
  | a :: r, d + 1, 0, v => by simp [nth]
  | a :: r, d + 1, t + 1, v => by simp only [List.set_cons_succ, nth]; rw [nth_set r d t v]; simp
theorem get_put {dst : Option Nat} {v : VV} {t : Nat} : get (put dst v env) t = if dst = some t ∧ t < env.length then v else get env t := by
  cases dst with
  | none => simp [put]
  | some d =>
    simp only [put, get]
    rw [nth_set]
    by_cases h : d = t
    · subst h; simp
    · simp [h]
theorem put_len {dst : Option Nat} {v : VV} : (put dst v env).length = env.length := by cases dst <;> simp [put]
theorem QS.step {S : Nat → Prop} (h : QS l vals env0 n S env) {k : Nat} {o : Oper} (hk : k < n) (ho : l[k]? = some o) (hS : ¬ S k) (hdist : ∀ (j : Nat) p d, j < n → j ≠ k → l[j]? = some p → p.dst = some d → o.dst ≠ some d) : QS l vals env0 n (fun j => S j ∨ j = k) (put o.dst (vals k) env) := by
  refine ⟨put_len.trans h.len, ?_, ?_⟩
  · intro j p d hj hp hd hSj hlt
    rw [get_put]
    by_cases e : j = k
    · subst e
      rw [ho] at hp; cases hp
      rw [if_pos ⟨hd, by rw [h.len]; exact hlt⟩]
    · rw [if_neg (fun h2 => hdist j p d hj e hp hd h2.1)]
      exact h.hit j p d hj hp hd (hSj.resolve_right e) hlt
  · intro t ht
    rw [get_put, if_neg (fun h2 => ht k o hk ho h2.1 (.inr rfl))]
    exact h.miss t fun j p hj hp hd hs => ht j p hj hp hd (.inl hs)
theorem QS.congr {S S' : Nat → Prop} (h : QS l vals env0 n S env) (e : ∀ k, k < n → (S k ↔ S' k)) : QS l vals env0 n S' env :=
  ⟨h.len, fun k o d hk ho hd hs hlt => h.hit k o d hk ho hd ((e k hk).2 hs) hlt, fun t ht => h.miss t fun k o hk ho hd hs => ht k o hk ho hd ((e k hk).1 hs)⟩
theorem QS.chain (hn : n ≤ l.length) (hdist : ∀ (i j : Nat) p o d, i < n → j < n → i ≠ j → l[i]? = some p → l[j]? = some o → p.dst = some d → o.dst ≠ some d) : ∀ k, k ≤ n → QS l vals env0 n (fun j => j < k) (chainE l vals env0 k)
  | 0, _ => ⟨rfl, fun _ _ _ _ _ _ h => absurd h (Nat.not_lt_zero _), fun _ _ => rfl⟩
  | k + 1, hk => by
    have ho : l[k]? = some (l[k]'(by omega)) := List.getElem?_eq_getElem (by omega)
    have := (QS.chain hn hdist k (by omega)).step (by omega) ho (by omega) (fun j p d hj hne hp hd => hdist j k p _ d hj (by omega) hne hp ho hd)
    rw [chainE, ho]
    exact this.congr fun j _ => by omega
theorem env_ext : ∀ {e e' : Env}, e.length = e'.length → (∀ t, t < e.length → get e t = get e' t) → e = e'
  | [], [], _, _ => rfl
  | a :: r, b :: s, hl, h => by
    have h0 := h 0 (by simp)
    have := env_ext (e := r) (e' := s) (by simpa using hl) fun t ht => h (t + 1) (by simp; omega)
    simp [get, nth] at h0
    rw [h0, this]
  | [], _ :: _, hl, _ => by simp at hl
  | _ :: _, [], hl, _ => by simp at hl
open Classical in
theorem QS.uniq {S : Nat → Prop} {env' : Env} (h : QS l vals env0 n S env) (h' : QS l vals env0 n S env') : env = env' := by
  refine env_ext (h.len.trans h'.len.symm) fun t ht => ?_
  by_cases hx : ∃ k o, k < n ∧ l[k]? = some o ∧ o.dst = some t ∧ S k
  · obtain ⟨k, o, h1, h2, h3, h4⟩ := hx
    rw [h.len] at ht
    rw [h.hit k o t h1 h2 h3 h4 ht, h'.hit k o t h1 h2 h3 h4 ht]
  · have hm : ∀ (k : Nat) o, k < n → l[k]? = some o → o.dst = some t → ¬ S k := fun k o h1 h2 h3 h4 => hx ⟨k, o, h1, h2, h3, h4⟩
    rw [h.miss t hm, h'.miss t hm]
end
section
variable {P : Program} {NG : Nat} {GW : World → Prop} {io : List Nat} {w0 : World} {pd0 : Nat → Nat → Prop} {C : Cx} {R : Type} {K : Env → Option R} {r : R} {Q : Exit → Act → World → Prop} {l : List Oper} {env0 : Env} {al : List Nat}
structure Ord (C : Cx) (l : List Oper) (n : Nat) : Prop where
  edge : ∀ (j : Nat) y, l[j]? = some y → ∀ e ∈ y.after.toList, Region.binds .any e = true → e.on < j
  quiet : ∀ (j : Nat) y, j < n → l[j]? = some y → quietB C l y = true
  dist : ∀ (i j : Nat) p o d, i < n → j < n → i ≠ j → l[i]? = some p → l[j]? = some o → p.dst = some d → o.dst ≠ some d
  apart : ∀ (i j : Nat) x y, i < j → j < n → l[i]? = some x → l[j]? = some y → ((befores l []).getD j 0).testBit i = false → (∀ d, x.dst = some d → d ∉ y.looksAt l.toArray) ∧ (∀ d, y.dst = some d → d ∉ x.looksAt l.toArray)
  solid : ∀ (i j : Nat), n ≤ j → j < l.length → i < j → ((befores l []).getD j 0).testBit i = true
  le : n ≤ l.length
theorem dstIn_false {o : Oper} {ts : List Tmp} (h : dstIn o ts = false) {d : Nat} (hd : o.dst = some d) : d ∉ ts := by
  unfold dstIn at h
  rw [hd] at h
  simp only [List.any_eq_false] at h
  intro hm
  exact h d hm (by simp)
theorem anyOrder_ord (h : anyOrder C l = true) : ∃ n, Ord C l n := by
  unfold anyOrder at h
  simp only [List.all_eq_true, List.mem_range] at h
  obtain ⟨hn1, hn2⟩ := quietN_spec (befores l []) l.length
  refine ⟨quietN (befores l []) l.length, ?_⟩
  have hj : ∀ (j : Nat) y, l[j]? = some y → (∀ e ∈ y.after.toList, Region.binds .any e = true → e.on < j) ∧ (quietN (befores l []) l.length ≤ j ∨ (quietB C l y = true ∧ ∀ i, i < j → ∀ x, l[i]? = some x → sameDst x y = false ∧ (((befores l []).getD j 0).testBit i = true ∨ (dstIn x (y.looksAt l.toArray) = false ∧ dstIn y (x.looksAt l.toArray) = false)))) := by
    intro j y hy
    have := h j (List.getElem?_eq_some_iff.1 hy).1
    rw [hy] at this
    simp only [Bool.and_eq_true, List.all_eq_true, Bool.or_eq_true] at this
    refine ⟨fun e he hb => ?_, ?_⟩
    · rcases this.1 e he with h1 | h1
      · rw [hb] at h1; cases h1
      · simpa [Nat.blt_eq] using h1
    · rcases this.2 with h1 | ⟨h1, h2⟩
      · exact .inl (by simpa using h1)
      · refine .inr ⟨h1, fun i hi x hx => ?_⟩
        have h3 := h2 i (by simpa using hi)
        rw [hx] at h3
        simp only [Bool.and_eq_true, Bool.or_eq_true, Bool.not_eq_true'] at h3
        exact ⟨h3.1, h3.2⟩
  refine ⟨fun j y hy => (hj j y hy).1, ?_, ?_, ?_, ?_, hn1⟩
  · intro j y hlt hy
    rcases (hj j y hy).2 with h1 | h1
    · omega
    · exact h1.1
  · have key : ∀ (i j : Nat) p o d, i < j → j < quietN (befores l []) l.length → l[i]? = some p → l[j]? = some o → p.dst = some d → o.dst ≠ some d := by
      intro i j p o d hij hjn hp ho hd hd'
      rcases (hj j o ho).2 with h1 | h1
      · omega
      · have := (h1.2 i hij p hp).1
        unfold sameDst at this
        rw [hd, hd'] at this
        simp at this
    intro i j p o d hi hj' hne hp ho hd hd'
    rcases Nat.lt_or_gt_of_ne hne with h1 | h1
    · exact key i j p o d h1 hj' hp ho hd hd'
    · exact key j i o p d h1 hi ho hp hd' hd
  · intro i j x y hij hjn hx hy hb
    rcases (hj j y hy).2 with h1 | h1
    · omega
    · rcases (h1.2 i hij x hx).2 with h2 | h2
      · rw [hb] at h2; cases h2
      · exact ⟨fun d hd => dstIn_false h2.1 hd, fun d hd => dstIn_false h2.2 hd⟩
  · intro i j hnj hjl hij
    rw [hn2 j hnj hjl, Nat.testBit_two_pow_sub_one]
    simpa using hij
theorem canon (hti : TIok P C.ti) (gws : ∀ w w', GW w → Below NG w w' → GW w') (hC : CallOk P NG GW C.call) {n : Nat} (hO : Ord C l n) (hal : ∀ (k : Nat) o t d, l[k]? = some o → o.op = .alloc t → o.dst = some d → d ∈ al) (h : vops C l (some al) l env0 K = some r) :
    ∀ m, m ≤ n → ∃ vals : Nat → VV, vops C l (some al) (l.drop m) (chainE l vals env0 m) K = some r ∧ ∀ (k : Nat) o, k < m → l[k]? = some o → QStep P NG GW io w0 pd0 Q l al k o (chainE l vals env0 k) (vals k)
  | 0, _ => ⟨fun _ => .un, h, fun k o hk => absurd hk (Nat.not_lt_zero _)⟩
  | m + 1, hm => by
    obtain ⟨vals, h1, h2⟩ := canon hti gws hC hO hal h m (by omega)
    have hl := hO.le
    have ho : l[m]? = some (l[m]'(by omega)) := List.getElem?_eq_getElem (by omega)
    rw [List.drop_eq_getElem_cons (by omega)] at h1
    obtain ⟨v, h3, h4⟩ := quiet_step (io := io) (w0 := w0) (pd0 := pd0) (Q := Q) hti gws hC (hO.quiet m _ (by omega) ho) (fun d t h5 h6 => hal m _ t d ho h5 h6) ho h1
    let vals' : Nat → VV := fun k => if k = m then v else vals k
    have hc : ∀ k, k ≤ m → chainE l vals env0 k = chainE l vals' env0 k := fun k hk => chainE_congr k fun j hj => by simp only [vals']; rw [if_neg (by omega)]
    refine ⟨vals', ?_, fun k o hk hok => ?_⟩
    · rw [chainE, ho, ← hc m (Nat.le_refl _)]
      simp only [vals', if_pos, Option.bind_some]
      exact h3
    · by_cases e : k = m
      · subst e
        rw [ho] at hok; cases hok
        rw [← hc k (Nat.le_refl _)]
        simp only [vals', if_pos]
        exact h4
      · rw [← hc k (by omega)]
        simp only [vals', if_neg e]
        exact h2 k o (by omega) hok
end
def unl : List Bool → Nat
  | [] => 0
  | true :: r => unl r
  | false :: r => unl r + 1
theorem unl_set : ∀ (l : List Bool) (i : Nat), l[i]? = some false → unl (l.set i true) + 1 = unl l
  | [], i, h => by simp at h
  | true :: r, 0, h => by simp at h
  | false :: r, 0, h => rfl
  | true :: r, i + 1, h => by rw [List.set_cons_succ]; simp only [unl]; exact unl_set r i (by simpa using h)
  | false :: r, i + 1, h => by rw [List.set_cons_succ]; simp only [unl]; rw [unl_set r i (by simpa using h)]
theorem unl_zero : ∀ (l : List Bool), unl l = 0 → ∀ i : Nat, l[i]? ≠ some false
  | [], h, i => by simp
  | true :: r, h, 0 => by simp
  | false :: r, h, i => by simp [unl] at h
  | true :: r, h, i + 1 => by rw [List.getElem?_cons_succ]; exact unl_zero r (by simpa only [unl] using h) i
theorem unl_rep : ∀ n, unl (List.replicate n false) = n
  | 0 => rfl
  | n + 1 => by rw [List.replicate_succ, unl, unl_rep n]
theorem nat_eq {a b : Nat} (h : ¬ a < b) (k : ¬ b < a) : a = b := by omega
theorem listed_set {L : Array Bool} {i j : Nat} (hi : i < L.size) : (L.setIfInBounds i true).getD j false = true ↔ L.getD j false = true ∨ j = i := by
  simp only [Array.getD_eq_getD_getElem?, Array.getElem?_setIfInBounds]
  by_cases h : i = j
  · subst h; simp [hi]
  · rw [if_neg h]
    have : j ≠ i := fun e => h e.symm
    simp [this]
section
variable {P : Program} {NG : Nat} {GW : World → Prop} {io : List Nat} {w0 : World} {pd0 : Nat → Nat → Prop} {C : Cx} {R : Type} {K : Env → Option R} {r : R} {Q : Exit → Act → World → Prop} {env0 : Env} {ops : Array Oper} {n : Nat} {vals : Nat → VV}
theorem QS.at {l : List Oper} {S S' : Nat → Prop} {e e' : Env} (h : QS l vals env0 n S e) (h' : QS l vals env0 n S' e') {t : Nat} (hs : ∀ (k : Nat) o, k < n → l[k]? = some o → o.dst = some t → (S k ↔ S' k)) : get e t = get e' t := by
  by_cases ht : t < env0.length
  · by_cases hx : ∃ (k : Nat) (o : Oper), k < n ∧ l[k]? = some o ∧ o.dst = some t ∧ S k
    · obtain ⟨k, o, h1, h2, h3, h4⟩ := hx
      rw [h.hit k o t h1 h2 h3 h4 ht, h'.hit k o t h1 h2 h3 ((hs k o h1 h2 h3).1 h4) ht]
    · have hm : ∀ (k : Nat) o, k < n → l[k]? = some o → o.dst = some t → ¬ S k := fun k o h1 h2 h3 h4 => hx ⟨k, o, h1, h2, h3, h4⟩
      rw [h.miss t hm, h'.miss t fun k o h1 h2 h3 h4 => hm k o h1 h2 h3 ((hs k o h1 h2 h3).2 h4)]
  · have hn : ∀ {e : Env}, e.length = env0.length → get e t = .un := fun he => nth_none (List.getElem?_eq_none (by omega))
    rw [hn h.len, hn h'.len]
theorem vops_step {dr : Option (List Nat)} (hti : TIok P C.ti) (gws : ∀ w w', GW w → Below NG w w' → GW w') (hC : CallOk P NG GW C.call) {G : Gh} {env : Env} {a : Act} {w : World} {i : Nat} {o : Oper} {rest : List Oper} {Nk : Act → World → Prop} (hi : ops[i]? = some o) (hs : Sim NG GW io w0 pd0 G env a w) (h : vops C ops.toList dr (o :: rest) env K = some r) (hN : ∀ G' env' a' w', Sim NG GW io w0 pd0 G' env' a' w' → vops C ops.toList dr rest env' K = some r → Nk a' w') : wpOp P ops Q i Nk a w := by
  have hnext : Nx NG GW io w0 pd0 (fun env' => vops C ops.toList dr rest env' K) r Nk := fun G' env' a' w' hs' h' => hN G' env' a' w' hs' h'
  unfold wpOp
  rw [hi]
  simp only
  rw [vops] at h
  split at h
  · rename_i hg
    have hw : Region.wanted o (yielded ops a.tmps) = true := by simp [Region.wanted, hg]
    rw [if_pos hw]
    exact .inl (vop_sound hti gws hC hs hnext h)
  · rename_i j want hg
    have hskip : ∀ (h2 : vput dr o.dst (.s undef) env (fun env' => vops C ops.toList dr rest env' K) = some r), Nk (a.put o.dst undef) w := fun h2 => hnext _ _ _ _ (hs.put o.dst fun d _ => VR.slot (VR.of_dr (.s _)) d) (vput_some h2)
    split at h
    · rename_i b hb
      have hy := seen_ok hs hb
      rcases bite_some h with ⟨hbw, h⟩ | ⟨hbw, h⟩
      · have hw : Region.wanted o (yielded ops a.tmps) = true := by simp only [Region.wanted, hg, hy]; simpa using hbw
        rw [if_pos hw]
        exact .inl (vop_sound hti gws hC hs hnext h)
      · have hw : ¬ Region.wanted o (yielded ops a.tmps) = true := by simp only [Region.wanted, hg, hy]; simpa using hbw
        rw [if_neg hw]
        exact hskip h
    · rename_i hb
      have hy := seen_ok hs hb
      have hw : ¬ Region.wanted o (yielded ops a.tmps) = true := by simp [Region.wanted, hg, hy]
      rw [if_neg hw]
      exact hskip h
    · cases h
inductive AnySt (C : Cx) (ops : Array Oper) (K : Env → Option R) (r : R) (vals : Nat → VV) (env0 : Env) (n : Nat) (L : Array Bool) (env : Env) : Prop where
  | quiet (h0 : ∀ j, n ≤ j → L.getD j false = false) (h1 : Down ops.toList L) (h2 : QS ops.toList vals env0 n (fun j => L.getD j false = true) env)
  | last (j : Nat) (h0 : ∀ i, L.getD i false = true ↔ i < j) (hn : n ≤ j) (hj : j ≤ ops.size) (h1 : vops C ops.toList (some (allocs ops.toList)) (ops.toList.drop j) env K = some r)
theorem any_ok (hti : TIok P C.ti) (gws : ∀ w w', GW w → Below NG w w' → GW w') (hC : CallOk P NG GW C.call) (hO : Ord C ops.toList n)
    (hal0 : (allocs ops.toList).any (fun d => env0.any (refersD d)) = false)
    (hch : vops C ops.toList (some (allocs ops.toList)) (ops.toList.drop n) (chainE ops.toList vals env0 n) K = some r)
    (hq : ∀ (k : Nat) o, k < n → ops.toList[k]? = some o → QStep P NG GW io w0 pd0 Q ops.toList (allocs ops.toList) k o (chainE ops.toList vals env0 k) (vals k))
    (hn : Nx NG GW io w0 pd0 K r (Q .normal)) :
    ∀ (fuel : Nat) (L : Array Bool) (G : Gh) (env : Env) (a : Act) (w : World), L.size = ops.size → unl L.toList ≤ fuel → AnySt C ops K r vals env0 n L env → Sim NG GW io w0 pd0 G env a w → wpAny P .any ops Q fuel L a w := by
  have full : ∀ (L : Array Bool) (G : Gh) (env : Env) (a : Act) (w : World), (∀ i, i < ops.size → L.getD i false = true) → AnySt C ops K r vals env0 n L env → Sim NG GW io w0 pd0 G env a w → Q .normal a w := by
    intro L G env a w hf hst hs
    have hl := hO.le
    cases hst with
    | quiet h0 h1 h2 =>
      have hnn : ops.size ≤ n := Nat.le_of_not_lt fun hlt => by have := hf n hlt; rw [h0 n (Nat.le_refl _)] at this; cases this
      have he : env = chainE ops.toList vals env0 n := h2.uniq ((QS.chain hl hO.dist n (Nat.le_refl _)).congr fun k hk => ⟨fun _ => hf k (by simp at hl; omega), fun _ => hk⟩)
      rw [List.drop_eq_nil_of_le (by simpa using hnn), ← he] at hch
      exact hn _ _ _ _ hs hch
    | last j h0 hnj hj h1 =>
      have : ops.size ≤ j := Nat.le_of_not_lt fun hlt => by have := (h0 j).1 (hf j hlt); omega
      rw [List.drop_eq_nil_of_le (by simpa using this)] at h1
      exact hn _ _ _ _ hs h1
  have noready : ∀ (L : Array Bool), L.size = ops.size → Region.ready .any ops L = [] → ∀ i, i < ops.size → L.getD i false = true := by
    intro L hsz hr i
    induction i using Nat.strongRecOn with
    | _ i ih =>
      intro hi
      by_cases hL : L.getD i false = true
      · exact hL
      · exfalso
        have ho : ops.toList[i]? = some (ops.toList[i]'(by simpa using hi)) := List.getElem?_eq_getElem (by simpa using hi)
        have hm : i ∈ Region.ready .any ops.toList.toArray L := ready_iff.2 ⟨_, ho, by
          simp only [Array.getD_eq_getD_getElem?] at hL ⊢
          rw [Array.getElem?_eq_getElem (by omega)] at hL ⊢
          simpa using hL, fun e he hb => by
            have := hO.edge i _ ho e he hb
            exact ih e.on this (by omega)⟩
        rw [Array.toArray_toList] at hm
        rw [hr] at hm; cases hm
  intro fuel
  induction fuel with
  | zero =>
    intro L G env a w hsz hu hst hs
    have hall : ∀ i, i < ops.size → L.getD i false = true := by
      intro i hi
      have := unl_zero L.toList (by omega) i
      rw [Array.getElem?_toList, Array.getElem?_eq_getElem (by omega)] at this
      rw [Array.getD_eq_getD_getElem?, Array.getElem?_eq_getElem (by omega)]
      simpa using this
    refine ⟨?_, full L G env a w hall hst hs⟩
    refine List.eq_nil_iff_forall_not_mem.2 fun i hi => ?_
    rw [← Array.toArray_toList (xs := ops)] at hi
    obtain ⟨o, ho, h1, h2⟩ := ready_iff.1 hi
    have hlt : i < ops.size := by simpa using (List.getElem?_eq_some_iff.1 ho).1
    have := hall i hlt
    rw [Array.getD_eq_getD_getElem?, Array.getElem?_eq_getElem (by omega)] at this h1
    simp at this h1
    rw [this] at h1; cases h1
  | succ fuel ih =>
    intro L G env a w hsz hu hst hs
    refine ⟨fun hr => full L G env a w (noready L hsz hr) hst hs, fun i hi => ?_⟩
    rw [← Array.toArray_toList (xs := ops)] at hi
    obtain ⟨o, ho, hLi, hre⟩ := ready_iff.1 hi
    have hlt : i < ops.size := by simpa using (List.getElem?_eq_some_iff.1 ho).1
    have hLi' : L.getD i false = false := by
      rw [Array.getD_eq_getD_getElem?, Array.getElem?_eq_getElem (by omega)] at hLi ⊢
      simpa using hLi
    have hget : L.toList[i]? = some false := by
      rw [Array.getD_eq_getD_getElem?, Array.getElem?_eq_getElem (by omega)] at hLi
      rw [Array.getElem?_toList, Array.getElem?_eq_getElem (by omega)]
      simpa using hLi
    have hoa : ops[i]? = some o := by rw [← ho]; simp
    have hsz' : (L.setIfInBounds i true).size = ops.size := by simpa using hsz
    have hu' : unl (L.setIfInBounds i true).toList ≤ fuel := by
      have := unl_set L.toList i hget
      rw [Array.toList_setIfInBounds]; omega
    have hset : ∀ j, (L.setIfInBounds i true).getD j false = true ↔ L.getD j false = true ∨ j = i := fun j => listed_set (by omega)
    have seq : ∀ (j : Nat), (∀ i, L.getD i false = true ↔ i < j) → n ≤ j → j ≤ ops.size → (∀ k, k < i → ((befores ops.toList []).getD i 0).testBit k = true) → Down ops.toList L → vops C ops.toList (some (allocs ops.toList)) (ops.toList.drop j) env K = some r → wpOp P ops Q i (wpAny P .any ops Q fuel (L.setIfInBounds i true)) a w := by
      intro j h0 hnj hj hbs hd h1
      have hij : i = j := by
        have h3 : ¬ i < j := fun h => by have := (h0 i).2 h; rw [hLi'] at this; cases this
        have h4 : ¬ j < i := fun h => by
          have := before_listed hd i o ho hre j (hbs j h)
          have := (h0 j).1 this
          omega
        omega
      subst hij
      rw [List.drop_eq_getElem_cons (by simpa using hlt)] at h1
      have hoe : ops.toList[i]'(by simpa using hlt) = o := by
        have := List.getElem?_eq_getElem (l := ops.toList) (i := i) (by simpa using hlt)
        rw [ho] at this; exact (Option.some.inj this).symm
      rw [hoe] at h1
      refine vops_step hti gws hC hoa hs h1 fun G' env' a' w' hs' h' => ih _ G' env' a' w' hsz' hu' (.last (i + 1) (fun k => ?_) (by omega) (by omega) h') hs'
      rw [hset, h0]; omega
    cases hst with
    | quiet h0 hd h2 =>
      by_cases hin : i < n
      ·
        have hQ := hq i o hin ho
        have hch2 := QS.chain (vals := vals) (env0 := env0) hO.le hO.dist i (by omega)
        have hdist : ∀ (j : Nat) p d, j < n → j ≠ i → ops.toList[j]? = some p → p.dst = some d → o.dst ≠ some d := fun j p d hj hne hp hd => hO.dist j i p o d hj hin hne hp ho hd
        have hag : Agree ops.toList (allocs ops.toList) o (chainE ops.toList vals env0 i) env := by
          refine ⟨fun t ht => ?_, fun t cs hta hb => ?_, fun d hd' => ?_, fun d hda => ?_⟩
          · refine h2.at hch2 fun k p hk hp hpd => ?_
            rcases Nat.lt_trichotomy k i with hki | hki | hki
            · refine ⟨fun _ => hki, fun _ => ?_⟩
              cases hb : ((befores ops.toList []).getD i 0).testBit k
              · exact absurd (by simpa using ht) ((hO.apart k i p o hki hin hp ho hb).1 t hpd)
              · exact before_listed hd i o ho hre k hb
            · subst hki
              exact ⟨fun h => absurd h (by rw [hLi']; decide), fun h => absurd h (Nat.lt_irrefl _)⟩
            · refine ⟨fun h => ?_, fun h => by omega⟩
              exfalso
              cases hb : ((befores ops.toList []).getD k 0).testBit i
              · exact absurd (by simpa using ht) ((hO.apart i k o p hki hk ho hp hb).2 t hpd)
              · have := before_listed hd k p hp (hd k p hp h) i hb
                rw [hLi'] at this; cases this
          · by_cases hx : ∃ (k : Nat) (p : Oper), k < n ∧ ops.toList[k]? = some p ∧ p.dst = some t
            · obtain ⟨k, p, hk, hp, hpd⟩ := hx
              have hone : ∀ (k' : Nat) p', k' < n → ops.toList[k']? = some p' → p'.dst = some t → k' = k := fun k' p' hk' hp' hpd' => nat_eq (fun hlt => absurd hpd (hO.dist k' k p' p t hk' hk (by omega) hp' hp hpd')) (fun hlt => absurd hpd' (hO.dist k k' p p' t hk hk' (by omega) hp hp' hpd))
              have htl : t < env0.length := by
                refine Nat.lt_of_not_le fun hle => ?_
                rw [get, nth_none (List.getElem?_eq_none (by rw [hch2.len]; exact hle))] at hb
                cases hb
              by_cases hki : k < i
              · rw [hch2.hit k p t hk hp hpd hki htl] at hb
                exact absurd ((hq k p hk hp).2.2.1 cs hb t hpd) hta
              · have hchk := QS.chain (vals := vals) (env0 := env0) hO.le hO.dist k (by omega)
                have h5 : get (chainE ops.toList vals env0 i) t = get env0 t := hch2.miss t fun k' p' hk' hp' hpd' h => by have := hone k' p' hk' hp' hpd'; omega
                have h6 : get (chainE ops.toList vals env0 k) t = get env0 t := hchk.miss t fun k' p' hk' hp' hpd' h => by have := hone k' p' hk' hp' hpd'; omega
                have := (hq k p hk hp).1 t hpd
                rw [h6, ← h5, hb] at this
                cases this
            · have hm : ∀ (k : Nat) o', k < n → ops.toList[k]? = some o' → o'.dst ≠ some t := fun k o' h1 h3 h4 => hx ⟨k, o', h1, h3, h4⟩
              rw [hch2.miss t fun k o' h1 h3 h4 => absurd h4 (hm k o' h1 h3)] at hb
              rw [h2.miss t fun k o' h1 h3 h4 => absurd h4 (hm k o' h1 h3)]
              exact hb
          · have := hQ.1 d hd'
            rw [h2.at hch2 (t := d) fun k p hk hp hpd => ?_]
            · exact this
            · by_cases hki : k = i
              · subst hki
                exact ⟨fun h => absurd h (by rw [hLi']; decide), fun h => absurd h (Nat.lt_irrefl _)⟩
              · exact absurd hd' (hdist k p d hk hki hp hpd)
          · refine List.any_eq_false.2 fun v hv => ?_
            obtain ⟨t, ht, rfl⟩ := List.getElem_of_mem hv
            have hgt : get env t = env[t] := nth_some (List.getElem?_eq_getElem ht)
            rw [← hgt]
            by_cases hx : ∃ (k : Nat) (p : Oper), k < n ∧ ops.toList[k]? = some p ∧ p.dst = some t ∧ L.getD k false = true
            · obtain ⟨k, p, hk, hp, hpd, hs4⟩ := hx
              rw [h2.hit k p t hk hp hpd hs4 (by rw [← h2.len]; exact ht)]
              have := (hq k p hk hp).2.1 d hda (by rw [hpd]; simp)
              rw [this]; simp
            · rw [h2.miss t fun k p h1 h3 h4 h5 => hx ⟨k, p, h1, h3, h4, h5⟩]
              have h7 := List.any_eq_false.1 hal0 d hda
              have h7' : env0.any (refersD d) = false := by simpa using h7
              have ht0 : t < env0.length := by rw [← h2.len]; exact ht
              have := List.any_eq_false.1 h7' env0[t] (List.getElem_mem _)
              rw [get, nth_some (List.getElem?_eq_getElem ht0)]
              exact this
        have hw := hQ.2.2.2.2 env G a w hag hs (wpAny P .any ops Q fuel (L.setIfInBounds i true)) (fun G' a' w' hs' => ih _ G' _ a' w' hsz' hu' (.quiet ?_ ?_ ?_) hs')
        · rwa [Array.toArray_toList] at hw
        · intro j hj
          have : ¬ (L.setIfInBounds i true).getD j false = true := fun h => by
            rcases (hset j).1 h with h | h
            · rw [h0 j hj] at h; cases h
            · omega
          simpa using this
        · intro j p hp hj e he hb
          rw [hset]
          rcases (hset j).1 hj with h | h
          · exact .inl (hd j p hp h e he hb)
          · subst h; rw [ho] at hp; cases hp
            exact .inl (hre e he hb)
        · exact (h2.step hin ho (by rw [hLi']; simp) hdist).congr fun k hk => (hset k).symm
      ·
        have hsol := fun k (hk : k < i) => hO.solid k i (by omega) (by simpa using hlt) hk
        have hall : ∀ k, k < i → L.getD k false = true := fun k hk => before_listed hd i o ho hre k (hsol k hk)
        have hni : n = i := by
          refine nat_eq (fun h => ?_) (fun h => by omega)
          have := hall n h
          rw [h0 n (Nat.le_refl _)] at this; cases this
        have hle : ∀ k, L.getD k false = true ↔ k < n := fun k => ⟨fun h => Nat.lt_of_not_le fun hk => absurd h (by rw [h0 k hk]; decide), fun h => hall k (by omega)⟩
        have he : env = chainE ops.toList vals env0 n := h2.uniq ((QS.chain hO.le hO.dist n (Nat.le_refl _)).congr fun k hk => (hle k).symm)
        rw [← he] at hch
        exact seq n hle (Nat.le_refl _) (by simpa using hO.le) hsol hd hch
    | last j h0 hnj hj h1 =>
      have hd : Down ops.toList L := fun k p hp hk e he hb => by
        have h5 := (h0 k).1 hk
        have := hO.edge k p hp e he hb
        exact (h0 e.on).2 (by omega)
      have hge : n ≤ i := by
        have : ¬ i < j := fun h => by have := (h0 i).2 h; rw [hLi'] at this; cases this
        omega
      exact seq j h0 hnj hj (fun k hk => hO.solid k i hge (by simpa using hlt) hk) hd h1
theorem any_sound (hm : P.follows .mixedOrders = true) (hti : TIok P C.ti) (gws : ∀ w w', GW w → Below NG w w' → GW w') (hC : CallOk P NG GW C.call) : AnyOk P NG GW C := by
  intro R io w0 pd0 G env a w K r Q id ops hO hal hs h hn
  obtain ⟨n, hO⟩ := anyOrder_ord hO
  have hmem : ∀ (k : Nat) o t d, ops.toList[k]? = some o → o.op = .alloc t → o.dst = some d → d ∈ allocs ops.toList := by
    intro k o t d ho hop hd
    unfold allocs
    exact List.mem_filterMap.2 ⟨o, List.mem_of_getElem? ho, by rw [hop]; exact hd⟩
  obtain ⟨vals, h1, h2⟩ := canon (io := io) (w0 := w0) (pd0 := pd0) (Q := Q) hti gws hC hO hmem h n (Nat.le_refl _)
  refine wp_region_any hm (any_ok hti gws hC hO hal h1 h2 hn ops.size _ G env a w.drew (by simp) ?_ (.quiet ?_ ?_ ?_) (hs.drew gws))
  · rw [Array.toList_replicate, unl_rep]; exact Nat.le_refl _
  · intro j hj
    simp only [Array.getD_eq_getD_getElem?, Array.getElem?_replicate]
    split <;> rfl
  · intro j o ho hj
    simp only [Array.getD_eq_getD_getElem?, Array.getElem?_replicate] at hj
    split at hj <;> simp at hj
  · refine ⟨rfl, fun k o d hk ho hd hsk => ?_, fun _ _ => rfl⟩
    simp only [Array.getD_eq_getD_getElem?, Array.getElem?_replicate] at hsk
    split at hsk <;> simp at hsk
end
def kindB : IntKind → IntKind → Bool
  | a, b => decide (a = b)
def zB : Value → Value → Bool
  | .int k 0, .int k' 0 => kindB k k'
  | .bool false, .bool false => true
  | .string ⟨⟨[]⟩⟩, .string ⟨⟨[]⟩⟩ => true
  | .slice none 0 0, .slice none 0 0 => true
  | .pointer none, .pointer none => true
  | _, _ => false
theorem zB_eq {a b : Value} (h : zB a b = true) : a = b ∧ b.oneCell' = true := by
  unfold zB at h
  split at h <;> first
    | (cases h; done)
    | (simp only [kindB, decide_eq_true_eq] at h; subst h; exact ⟨rfl, rfl⟩)
    | exact ⟨rfl, rfl⟩
def zsB : List Value → List Value → Bool
  | [], [] => true
  | a :: r, b :: s => zB a b && zsB r s
  | _, _ => false
theorem zsB_eq : ∀ {a b : List Value}, zsB a b = true → a = b ∧ ∀ v ∈ b, v.oneCell' = true
  | [], [], _ => ⟨rfl, by simp⟩
  | a :: r, b :: s, h => by
    rw [zsB, Bool.and_eq_true] at h
    obtain ⟨rfl, h1⟩ := zB_eq h.1
    obtain ⟨rfl, h2⟩ := zsB_eq h.2
    exact ⟨rfl, by intro v hv; rcases List.mem_cons.1 hv with rfl | hv; exact h1; exact h2 v hv⟩
  | [], _ :: _, h => by simp [zsB] at h
  | _ :: _, [], h => by simp [zsB] at h
def fsB (P : Program) : List Field → List (Nat × Nat) → Bool
  | [], [] => true
  | f :: r, (o, z) :: s => Nat.beq f.offset o && ((match P.info? f.type with
    | some inf => Nat.beq inf.size z
    | none => false) && fsB P r s)
  | _, _ => false
theorem fsB_ok {P : Program} : ∀ {l : List Field} {fs : List (Nat × Nat)}, fsB P l fs = true → l.length = fs.length ∧ ∀ (j : Nat) o z, fs[j]? = some (o, z) → ∃ f inf, l[j]? = some f ∧ f.offset = o ∧ P.info? f.type = some inf ∧ inf.size = z
  | [], [], _ => ⟨rfl, by simp⟩
  | f :: r, (o, z) :: s, h => by
    rw [fsB, Bool.and_eq_true, Bool.and_eq_true] at h
    obtain ⟨h1, h2, h3⟩ := h
    obtain ⟨hl, h4⟩ := fsB_ok h3
    refine ⟨by simp [hl], fun j o' z' hj => ?_⟩
    cases j with
    | zero =>
      simp at hj
      obtain ⟨rfl, rfl⟩ := hj
      split at h2
      · rename_i inf hi
        exact ⟨f, inf, rfl, Nat.eq_of_beq_eq_true h1, hi, Nat.eq_of_beq_eq_true h2⟩
      · cases h2
    | succ j => exact h4 j o' z' (by simpa using hj)
  | [], _ :: _, h => by simp [fsB] at h
  | _ :: _, [], h => by simp [fsB] at h
def infoB (P : Program) (t : TypeId) (i : TI) : Bool := match P.info? t with
  | some inf => (match inf.zero with
    | some z => zsB z.cells.toList i.zero && (Nat.beq inf.size i.sz && (Nat.beq inf.bytes i.bytes && (Nat.beq i.zero.length i.sz && (match i.k with
      | .agg _ => (match z with
        | .agg _ => true
        | _ => false)
      | _ => Nat.beq i.sz 1))))
    | none => false)
  | none => false
def undB (P : Program) (t : TypeId) : TK → Bool
  | .agg fs => (match P.underlying t with
    | some (.struct fields) => fsB P fields.toList fs
    | _ => false)
  | .slice e => (match P.underlying t with
    | some (.slice e') => Nat.beq e' e
    | _ => false)
  | .str => (match P.underlying t with
    | some .string => true
    | _ => false)
  | .bool => (match P.underlying t with
    | some .bool => true
    | _ => false)
  | .int k => (match P.underlying t with
    | some (.int k') => kindB k' k
    | _ => false)
  | .ptr => (match P.underlying t with
    | some (.pointer _) => true
    | _ => false)
def look : List (TypeId × TI) → TypeId → Option TI
  | [], _ => none
  | (u, i) :: r, t => match Nat.beq u t with
    | true => some i
    | false => look r t
theorem look_all {q : TypeId × TI → Bool} : ∀ {l : List (TypeId × TI)} {t : TypeId} {i : TI}, l.all q = true → look l t = some i → q (t, i) = true
  | [], t, i, _, h => by cases h
  | (u, j) :: r, t, i, ha, h => by
    rw [List.all_cons, Bool.and_eq_true] at ha
    rw [look] at h
    split at h
    · rename_i hb
      cases h
      have := Nat.eq_of_beq_eq_true hb
      subst this
      exact ha.1
    · exact look_all ha.2 h
theorem TIok.of {P : Program} {l : List (TypeId × TI)} (h1 : l.all (fun p => infoB P p.1 p.2) = true) (h2 : l.all (fun p => undB P p.1 p.2.k) = true) : TIok P (look l) := by
  refine ⟨fun t i h => ?_, fun t i h => ?_⟩
  · have := look_all h1 h
    simp only [infoB] at this
    split at this
    case h_2 => cases this
    rename_i inf hinf
    split at this
    case h_2 => cases this
    rename_i z hz
    simp only [Bool.and_eq_true] at this
    obtain ⟨a, b, c, d, e⟩ := this
    obtain ⟨a1, a2⟩ := zsB_eq a
    refine ⟨inf, z, hinf, hz, a1, Nat.eq_of_beq_eq_true b, Nat.eq_of_beq_eq_true c, Nat.eq_of_beq_eq_true d, a2, ?_⟩
    cases hk : i.k <;> simp only [hk] at e ⊢ <;> first
      | exact Nat.eq_of_beq_eq_true e
      | (split at e
         · exact ⟨_, rfl⟩
         · cases e)
  · have := look_all h2 h
    simp only at this
    cases hk : i.k <;> simp only [hk, undB] at this ⊢ <;> split at this <;> first
      | (cases this; done)
      | (rename_i h3; exact h3)
      | (rename_i h3; exact ⟨_, h3⟩)
      | (rename_i h3; simp only [kindB, decide_eq_true_eq] at this; rw [h3, this])
      | (rename_i h3; rw [h3, Nat.eq_of_beq_eq_true this])
      | (rename_i h3
         obtain ⟨h4, h5⟩ := fsB_ok this
         exact ⟨_, h3, by simpa using h4, fun j o z hj => by
          obtain ⟨f, inf, h6, h7⟩ := h5 j o z hj
          exact ⟨f, inf, by simpa using h6, h7⟩⟩)
end Go.Proofs.YteldcmniknocpaaGreatDoor.VI

end
section
namespace Go.Proofs.YteldcmniknocpaaGreatDoor.VI
open Go Go.RowKit Go.Proofs.YteldcmniknocpaaGreatDoorW.PrintWords
set_option linter.unusedVariables false
set_option linter.unusedSimpArgs false
abbrev anyP : Nat → Nat → Prop := fun _ _ => True
structure KV {α : Type} (d : Kd α) (enc : α → List VV) : Prop where
  pos : 0 < d.sz
  len : ∀ x, (enc x).length = d.sz
  rel : ∀ {w x cs}, d.K w x cs → DRs anyP w (enc x) cs
theorem kv_scalar {α : Type} {mk : α → Value} {h1 : ∀ x, (mk x).oneCell' = true} : KV (Kd.scalar mk h1) (fun x => [.s (mk x)]) :=
  ⟨Nat.one_pos, fun _ => rfl, fun {w x cs} h => by cases h; exact .cons _ _ _ _ (.s _) .nil⟩
theorem kv_string : KV Kd.string (fun x => [VV.str x]) := kv_scalar (h1 := fun _ => rfl)
theorem kv_bool : KV Kd.bool (fun x => [VV.bool x]) := kv_scalar (h1 := fun _ => rfl)
theorem kv_int : KV (Kd.int .i64) (fun x => [VV.int x]) := kv_scalar (h1 := fun _ => rfl)
theorem kv_byte : KV (Kd.int .u8) (fun x => [VV.byte x]) := kv_scalar (h1 := fun _ => rfl)
theorem dr_row {α : Type} {d : Kd α} {enc : α → VV} (h : KV d (fun x => (enc x).cells)) {w : World} {A : Option Addr} {xs : List α} {c : Nat} (hc : xs.length ≤ c) (hr : Kd.C d w A xs.length xs) : DR anyP w (.sl (xs.map enc)) (.slice A xs.length c) := by
  obtain ⟨_, hm, hA⟩ := hr
  by_cases h0 : xs.length = 0
  · obtain rfl := List.eq_nil_of_length_eq_zero h0
    exact .sl0 _ _
  obtain ⟨ad, rfl, hrow⟩ := hA (by omega)
  have hsp : ad.spot = none := by
    obtain ⟨cs, hl, _, hcell⟩ := hrow 0 _ (List.getElem?_eq_getElem (by omega))
    have hp := h.pos
    have h1 := hcell 0 _ (List.getElem?_eq_getElem (by omega))
    rw [Nat.zero_mul, Nat.zero_add] at h1
    have h2 : ad.add 0 = ad := by simp [Addr.add]
    rw [h2] at h1
    unfold World.cell? at h1
    split at h1
    · cases hs : ad.spot with
      | none => rfl
      | some _ => rw [hs] at h1; simp at h1
    · cases h1
  obtain ⟨g, off, sp⟩ := ad
  subst hsp
  have key : ∀ (ys : List α) (j0 : Nat), (∀ j p, ys[j]? = some p → ∃ c, c.length = d.sz ∧ d.K w p c ∧ ∀ i u, c[i]? = some u → w.cell? ((⟨g, off, none⟩ : Addr).add ((j0 + j) * d.sz + i)) = some u) → ∃ ms : List Value, DRs anyP w (ys.flatMap fun x => (enc x).cells) ms ∧ (∀ u ∈ ms, u.oneCell' = true) ∧ ∀ (k : Nat) u, ms[k]? = some u → w.cell? ⟨g, off + (j0 * d.sz + k), none⟩ = some u := by
    intro ys
    induction ys with
    | nil => intro j0 _; exact ⟨[], .nil, by simp, fun k u hk => by simp at hk⟩
    | cons y r ih =>
      intro j0 hy
      obtain ⟨c, hl, hK, hcell⟩ := hy 0 y rfl
      obtain ⟨ms, h1, h2, h3⟩ := ih (j0 + 1) fun j p hp => by
        obtain ⟨c', q1, q2, q3⟩ := hy (j + 1) p (by simpa using hp)
        refine ⟨c', q1, q2, fun i u hu => ?_⟩
        have := q3 i u hu
        rw [show j0 + (j + 1) = j0 + 1 + j by omega] at this
        exact this
      refine ⟨c ++ ms, by rw [List.flatMap_cons]; exact (h.rel hK).app h1, fun u hu => ?_, fun k u hu => ?_⟩
      · rcases List.mem_append.1 hu with hu | hu
        · exact d.K_one hK u hu
        · exact h2 u hu
      · by_cases hk : k < c.length
        · rw [List.getElem?_append_left hk] at hu
          have := hcell k u hu
          rw [Nat.add_zero] at this
          have hadd : ∀ n, (⟨g, off, none⟩ : Addr).add n = ⟨g, off + n, none⟩ := fun n => by unfold Addr.add; split <;> simp_all
          rw [hadd] at this
          exact this
        · rw [List.getElem?_append_right (by omega)] at hu
          have := h3 (k - c.length) u hu
          rw [show off + ((j0 + 1) * d.sz + (k - c.length)) = off + (j0 * d.sz + k) by rw [Nat.add_mul]; omega] at this
          exact this
  obtain ⟨ms, h1, h2, h3⟩ := key xs 0 (fun j p hp => by rw [Nat.zero_add]; exact hrow j p hp)
  have := DR.sl (pd := anyP) (w := w) (xs.map enc) g off c d.sz ms (by simpa using hc) (by simpa [maxLen] using hm) (by
      intro x hx
      obtain ⟨y, _, rfl⟩ := List.mem_map.1 hx
      exact h.len y) (by rw [List.flatMap_map]; exact h1) h2 fun k u hu => ⟨by have := h3 k u hu; rw [Nat.zero_mul, Nat.zero_add] at this; exact this, trivial⟩
  rw [List.length_map] at this
  exact this
theorem kv_slice {α : Type} {e : Nat} {d : Kd α} {enc : α → VV} (h : KV d (fun x => (enc x).cells)) : KV (Kd.slice e d) (fun xs => [.sl (xs.map enc)]) :=
  ⟨Nat.one_pos, fun _ => rfl, fun {w xs cs} hK => by
    obtain ⟨A, c, rfl, hl, hr⟩ := hK
    exact .cons _ _ _ _ (dr_row h hl hr) .nil⟩
theorem kv_pair {α β : Type} {a : Kd α} {b : Kd β} {ea : α → List VV} {eb : β → List VV} (h : KV a ea) (k : KV b eb) : KV (Kd.pair a b) (fun x => ea x.1 ++ eb x.2) :=
  ⟨by show 0 < a.sz + b.sz; have := h.pos; omega, fun x => by show (ea x.1 ++ eb x.2).length = a.sz + b.sz; rw [List.length_append, h.len, k.len], fun {w x cs} hK => by
    obtain ⟨c0, c1, rfl, h0, h1⟩ := hK
    exact (h.rel h0).app (k.rel h1)⟩
theorem kv_iso {α β : Type} {d : Kd α} {f : β → α} {ea : α → List VV} {eb : β → List VV} (h : KV d ea) (he : ∀ x, eb x = ea (f x)) : KV (Kd.iso d f) eb :=
  ⟨h.pos, fun x => by rw [he]; exact h.len _, fun {w x cs} hK => by rw [he]; exact h.rel hK⟩
section
variable {P : Program} {NG : Nat} {GW : World → Prop} {f : FuncId}
theorem dr_nbx {pd : Nat → Nat → Prop} {w : World} {v : VV} {m : Value} (h : DR pd w v m) (cs : List VV) : v ≠ .bx cs := by cases h <;> exact fun e => VV.noConfusion e
theorem dr_arg {H : Gh} {w : World} {v : VV} {m : Value} (h : DR H.pd w v m) : ArgR H w v m := by cases h <;> (show DR H.pd w _ _) <;> constructor <;> assumption
theorem CallOk1.calls {vs : List VV} {ms : List Value} {v : Value} {w : World} (h : CallOk1 P NG GW f vs (.s v, [])) (hgw : GW w) (hng : NG ≤ w.heap.size) (ha : DRs anyP w vs ms) : Calls P f ms.toArray w fun e w' => e = .returned v ∧ Below w.heap.size w w' := by
  have hnb : ∀ x ∈ vs, ∀ cs, x ≠ .bx cs := fun x hx cs => by
    obtain ⟨i, hi, rfl⟩ := List.getElem_of_mem hx
    obtain ⟨m, _, hd⟩ := ha.get (List.getElem?_eq_getElem hi)
    exact dr_nbx hd cs
  have hio := ioB_none vs ms hnb
  have := h.2 w ms ⟨anyP, anyP, fun _ => 0, fun _ => none, 0⟩ hgw hng ha.length (fun i x m hx hm => dr_arg (H := ⟨anyP, anyP, fun _ => 0, fun _ => none, 0⟩) (ha.at hx hm)) (by rw [hio]; exact List.nodup_nil) (by rw [hio]; simp) (by rw [hio]; simp) (fun _ _ h => h)
  refine this.mono fun e w' he => ?_
  obtain ⟨m, rfl, hfr, pd', _, hres, _⟩ := he
  have hd : DR pd' w' (.s v) m := hres
  cases hd
  exact ⟨rfl, hfr.os, hfr.tape, hfr.output, hfr.size, fun k hk => hfr.block k hk (by rw [hio]; simp)⟩
end
end Go.Proofs.YteldcmniknocpaaGreatDoor.VI

end
section
namespace Go.Proofs.YteldcmniknocpaaGreatDoor.VI
open Go
set_option linter.unusedSimpArgs false
set_option linter.unusedVariables false
def Im {α β : Type} (e : α → β) (x : Option α) (y : Option β) : Prop := ∀ r, x = some r → y = some (e r)
section
variable {α β γ δ : Type} {e : α → β} {x : Option α} {y z : Option β}
theorem Im.none : Im e .none y := fun _ h => by cases h
theorem Im.ret {r : α} (h : y = some (e r)) : Im e (some r) y := fun s hs => by cases hs; exact h
theorem Im.sbind {a : γ} {f : γ → Option α} (h : Im e (f a) y) : Im e ((some a).bind f) y := h
theorem Im.ite {c : Prop} [Decidable c] {a b : Option α} (ht : c → Im e a y) (hf : ¬ c → Im e b y) : Im e (if c then a else b) y := by
  by_cases h : c
  · rw [if_pos h]; exact ht h
  · rw [if_neg h]; exact hf h
theorem Im.iteB {c : Bool} {a b : Option α} (ht : c = true → Im e a y) (hf : c = false → Im e b y) : Im e (if c = true then a else b) y := by
  cases c
  · exact hf rfl
  · exact ht rfl
theorem Im.bite_t {b : Bool} (hb : b = true) (h : Im e x y) : Im e x (bite b y z) := by subst hb; exact h
theorem Im.bite_f {b : Bool} (hb : b = false) (h : Im e x z) : Im e x (bite b y z) := by subst hb; exact h
theorem Im.must {b : Bool} (hb : b = true) (h : Im e x y) : Im e x (VI.must b y) := by subst hb; exact h
theorem Im.bite_s {b : Bool} (ht : b = true → Im e x y) (hf : b = false → Im e x z) : Im e x (bite b y z) := by
  cases b
  · exact hf rfl
  · exact ht rfl
theorem Im.bind {e' : γ → δ} {u : Option γ} {v : Option δ} {f : γ → Option α} {g : δ → Option β} (h : Im e' u v) (k : ∀ a, u = some a → Im e (f a) (g (e' a))) : Im e (u.bind f) (obind v g) := by
  intro r hr
  obtain ⟨a, ha, hr⟩ := Option.bind_eq_some_iff.1 hr
  rw [h a ha]
  exact k a ha r hr
end
end Go.Proofs.YteldcmniknocpaaGreatDoor.VI

end
section
namespace Go.Proofs.YteldcmniknocpaaGreatDoor.VI
open Go Go.RowKit Go.Proofs.YteldcmniknocpaaGreatDoorW.PrintWords
set_option linter.unusedVariables false
set_option linter.unusedSimpArgs false
theorem frc1_eq' {α : Type} (v : VV) (k : VV → α) : frc1 v k = k v := by cases v <;> rfl
theorem frcL_eq' {α : Type} : ∀ (l : List VV) (k : List VV → α), frcL l k = k l
  | [], _ => rfl
  | v :: r, k => by rw [frcL, frc1_eq', frcL_eq' r]
theorem clr_clr : ∀ (l : List Nat) (env : Env) (i : Nat), clr l i (clr l i env) = clr l i env
  | l, [], i => rfl
  | l, v :: r, i => by
    simp only [clr]
    rw [clr_clr l r (i + 1)]
    split <;> rfl
theorem clear_clear (l : Option (List Nat)) (env : Env) : clear l (clear l env) = clear l env := by
  cases l with
  | none => rfl
  | some l => exact clr_clr l env 0
section
variable {α β γ δ : Type} {e : α → β} {x : Option α} {y z : Option β}
theorem iter_clear {l : Option (List Nat)} {g : Env → (Exit → Env → Option β) → Option β} {K : Exit → Env → Option β} : ∀ {M : Nat} {env : Env}, iter (fun env' K' => clearK l env' fun e => g e K') M env K = iter (fun env' K' => clearK l env' fun e => g e K') M (clear l env) K
  | 0, _ => rfl
  | M + 1, env => by simp only [iter, clearK, frcL_eq', clear_clear]
theorem Im.loop {σ : Type} {l : Option (List Nat)} {g : Env → (Exit → Env → Option β) → Option β} {K : Exit → Env → Option β} (S : σ → Env) (L : Nat → σ → Option α) (k0 : Nat) (h0 : ∀ s, L 0 s = Option.none)
    (hs : ∀ k M s, k + 1 ≤ k0 → k ≤ M → (∀ k' s' env, k' ≤ k → clear l env = S s' → Im e (L k' s') (iter (fun env' K' => clearK l env' fun e => g e K') M env K)) → Im e (L (k + 1) s) (iter (fun env' K' => clearK l env' fun e => g e K') (M + 1) (S s) K)) :
    ∀ k M s env, k ≤ k0 → k ≤ M → clear l env = S s → Im e (L k s) (iter (fun env' K' => clearK l env' fun e => g e K') M env K) := by
  intro k
  induction k using Nat.strongRecOn with
  | _ k IH =>
    intro M s env hk hM hc
    cases k with
    | zero => rw [h0]; exact Im.none
    | succ k =>
      obtain ⟨M, rfl⟩ : ∃ M', M = M' + 1 := ⟨M - 1, by omega⟩
      rw [iter_clear, hc]
      exact hs k M s hk (by omega) fun k' s' env' hk' hc' => IH k' (by omega) M s' env' (by omega) (by omega) hc'
theorem Im.nat (F : Nat → Option α) (k : Nat) (h0 : F 0 = Option.none) (hs : ∀ k', k = k' + 1 → Im e (F (k' + 1)) y) : Im e (F k) y := by
  cases k with
  | zero => rw [h0]; exact Im.none
  | succ k => exact hs k rfl
theorem Im.vget {τ : Type} {l : List τ} {enc : τ → VV} {i : Int} {f : VV → Option β} (d : τ) (h0 : 0 ≤ i) (h1 : i < (l.length : Int)) (h : Im e x (f (enc (rdOf d l i)))) : Im e x (vget (l.map enc) i f) := by
  unfold VI.vget
  have hl : i.toNat < l.length := by omega
  rw [List.getElem?_map, List.getElem?_eq_getElem hl]
  simp only [Option.map_some]
  unfold rdOf at h
  rw [List.getD_eq_getElem?_getD, List.getElem?_eq_getElem hl] at h
  exact h
theorem Im.anyo {C : Cx} {l : List Oper} (h : anyOrder C l = true) (k : Im e x y) : Im e x (bite (anyOrder C l) y z) := Im.bite_t h k
theorem Im.fin {b : β} {r : α} (h : b = e r) : Im e (some r) (some b) := Im.ret (congrArg some h)
theorem Im.call {e' : γ → VV × List VV} {u : Option γ} {fn : List VV → Option (VV × List VV)} {us bs : List VV} {f : γ → Option α} {g : VV × List VV → Option β} (h : Im e' u (fn bs)) (ha : us = bs) (k : ∀ a, u = some a → Im e (f a) (g (e' a))) : Im e (u.bind f) (obind (fn us) g) := by
  subst ha
  exact Im.bind h k
end
theorem wr_i64 (n : Int) : wr .i64 n = wrap64 n := rfl
theorem wr_u8 (n : Int) : wr .u8 n = n % 256 := rfl
theorem bt_bt (s : ByteArray) (i : Int) : VI.bt s i = Go.Proofs.YteldcmniknocpaaGreatDoorW.PrintWords.bt s i := rfl
theorem ba_size (a : Array UInt8) : (⟨a⟩ : ByteArray).size = a.size := rfl
theorem ba_toList (a : Array UInt8) : (⟨a⟩ : ByteArray).toList = a.toList := by
  rw [Go.ByteArray.toList_eq]
theorem rd_rdOf (xs : List Int) (i : Int) : Go.Proofs.YteldcmniknocpaaGreatDoorW.PrintWords.rd xs i = rdOf 0 xs i := rfl
theorem and_t {a b : Bool} (h : a = true) (k : b = true) : (a && b) = true := by rw [h, k]; rfl
theorem all_cells {α : Type} {enc : α → VV} {z : Nat} {l : List α} (h : ∀ x, Nat.beq (enc x).cells.length z = true) : ((l.map enc).all fun v => Nat.beq v.cells.length z) = true := by
  rw [List.all_map, List.all_eq_true]
  exact fun x _ => h x
theorem cells_str (b : ByteArray) : (VV.str b).cells = [VV.str b] := rfl
theorem beq_self (n : Nat) : Nat.beq n n = true := Nat.beq_refl n
theorem zr {P : Prop} (h : P := by first | (first | rfl | (simp only [List.length_map, List.length_set, List.length_replicate, List.map_append, List.map_set, List.map_cons, List.map_nil, List.map_replicate, wr_i64, wr_u8, bt_bt, rd_rdOf, ba_toList, bne, Int.zero_sub]; first | done | rfl)) | fail) : P := h
theorem zd {P : Prop} (h : P := by first | (((try clear ih1); (try clear ih2); (try clear ih3); first | assumption | exact decide_eq_true (by assumption) | exact decide_eq_false (by assumption) | (simp [*, wr_i64, wr_u8, bt_bt, rd_rdOf, ba_size, ba_toList, bndOk, VV.cells, Nat.beq_eq]; done) | (simp [*, wr_i64, wr_u8, bt_bt, rd_rdOf, ba_size, ba_toList, bndOk, VV.cells, Nat.beq_eq]; omega) | (refine and_t ?_ (all_cells (fun _ => rfl)); first | (simp [*, bndOk]; done) | (simp [*, bndOk]; omega)) | omega | (simp_all [wr_i64, wr_u8, bt_bt, rd_rdOf, ba_size, ba_toList, bndOk, VV.cells, Nat.beq_eq]; done) | (simp [wr_i64, wr_u8, bt_bt, rd_rdOf, ba_size, ba_toList, bndOk, VV.cells, Nat.beq_eq] at *; omega))) | fail) : P := h
theorem zm {P : Prop} (h : P := by first | (((with_reducible refine Im.ret ?_); (simp [resv, fixnl, VI.get, VI.nth, VI.must, List.length_map, beq_self]; done))) | fail) : P := h
theorem zx {P : Prop} (h : P := by first | ((exfalso; (try clear ih1); (try clear ih2); (try clear ih3); simp_all; done)) | fail) : P := h
theorem zo {P : Prop} (h : P := by first | (first | omega | (dsimp only; omega)) | fail) : P := h
def argD : VV → Bool
  | .s _ => true
  | .sl _ => true
  | .ag _ => true
  | _ => false
def ResOf (pd : Nat → Nat → Prop) (w : World) (r : VV) (m : Value) (w' : World) : Prop := ∃ pd' : Nat → Nat → Prop, (∀ g k, g < w.heap.size → pd' g k → pd g k) ∧ ResR w.heap.size pd' w' r m
section
variable {P : Program} {NG : Nat} {GW : World → Prop} {f : FuncId}
theorem giv_ok {vs : List VV} {r : VV} (hf : FnOk P f) (hv : vs.all argD = true) (h : ∀ (w : World) (ms : List Value) (pd : Nat → Nat → Prop), GW w → DRs pd w vs ms → Calls P f ms.toArray w fun e w' => ∃ m, e = .returned m ∧ Below w.heap.size w w' ∧ ResOf pd w r m w') : CallOk1 P NG GW f vs (r, []) := by
  refine ⟨hf, fun w ms H hgw hng hl ha hnd _ _ _ => ?_⟩
  have hd : ∀ v ∈ vs, argD v = true := fun v hx => List.all_eq_true.1 hv v hx
  have hnb : ∀ x ∈ vs, ∀ cs, x ≠ .bx cs := fun x hx cs e => by have := hd x hx; rw [e] at this; cases this
  have key : ∀ (vs : List VV) (ms : List Value), (∀ v ∈ vs, argD v = true) → vs.length = ms.length → (∀ (i : Nat) v m, vs[i]? = some v → ms[i]? = some m → ArgR H w v m) → DRs H.pd w vs ms := by
    intro vs
    induction vs with
    | nil => intro ms _ hl _; cases ms with
      | nil => exact .nil
      | cons _ _ => cases hl
    | cons v vs ih => intro ms hd hl ha; cases ms with
      | nil => cases hl
      | cons m ms =>
        refine .cons _ _ _ _ ?_ (ih ms (fun x hx => hd x (by simp [hx])) (by simpa using hl) fun i v m h1 h2 => ha (i + 1) v m (by simpa using h1) (by simpa using h2))
        have h1 := ha 0 v m rfl rfl
        have h2 := hd v (by simp)
        cases v <;> first | (cases h2; done) | exact h1
  rw [ioB_none vs ms hnb]
  refine (h w ms H.pd hgw (key vs ms hd hl ha)).mono fun e w' he => ?_
  obtain ⟨m, rfl, hb, pd', h1, h2⟩ := he
  exact ⟨m, rfl, ⟨hb.os, hb.tape, hb.output, hb.size, fun k hk _ => hb.block k hk⟩, pd', h1, h2, rfl, fun j g v hj => by simp at hj⟩
theorem drs_s : ∀ {pd : Nat → Nat → Prop} {w : World} (ls : List Value) {ms : List Value}, DRs pd w (ls.map VV.s) ms → ms = ls
  | _, _, [], _, h => by cases h; rfl
  | _, _, a :: ls, _, h => by
    cases h with
    | cons _ m _ ms h1 h2 =>
      cases h1
      rw [drs_s ls h2]
theorem drs_cons {pd : Nat → Nat → Prop} {w : World} {v : VV} {vs : List VV} {ms : List Value} (h : DRs pd w (v :: vs) ms) : ∃ m ms', ms = m :: ms' ∧ DR pd w v m ∧ DRs pd w vs ms' := by
  cases h with
  | cons _ m _ ms h1 h2 => exact ⟨m, ms, rfl, h1, h2⟩
theorem drs_nil {pd : Nat → Nat → Prop} {w : World} {ms : List Value} (h : DRs pd w [] ms) : ms = [] := by cases h; rfl
theorem dr_s {pd : Nat → Nat → Prop} {w : World} {v m : Value} (h : DR pd w (.s v) m) : m = v := by cases h; rfl
theorem resOf_s {pd : Nat → Nat → Prop} {w w' : World} (v : Value) : ResOf pd w (.s v) v w' := ⟨pd, fun _ _ _ h => h, .s v⟩
theorem resOf_tu {pd : Nat → Nat → Prop} {w w' : World} (ls : List Value) : ResOf pd w (.tu (ls.map VV.s)) (.tuple ls.toArray) w' :=
  ⟨pd, fun _ _ _ h => h, .tu _ _ (by
    induction ls with
    | nil => exact .nil
    | cons a ls ih => exact .cons _ _ _ _ (.s a) ih)⟩
theorem drs_sR : ∀ {pd : Nat → Nat → Prop} {w : World} (ls : List Value), DRs pd w (ls.map VV.s) ls
  | _, _, [] => .nil
  | _, _, a :: ls => .cons _ _ _ _ (.s a) (drs_sR ls)
theorem resOf_ow {pd : Nat → Nat → Prop} {w w' : World} {α : Type} {mk : α → Value} (h1 : ∀ x, (mk x).oneCell' = true) {e : Nat} {xs : List α} {m : Value} (hl : xs.length ≤ maxLen) (ho : w'.ownsRow w.heap.size e 1 m xs.length (xs.map mk)) : ResOf pd w (.ow e 1 (xs.map fun x => .s (mk x))) m w' := by
  refine ⟨fun g k => (g < w.heap.size ∧ pd g k) ∨ (m.ownBlock = some g ∧ k < xs.length * 1), fun g k hg h => ?_, xs.map mk, by rw [List.length_map]; exact ho, ?_, ?_, ?_, by rw [List.length_map]; exact hl, ?_⟩
  · rcases h with h | ⟨h, _⟩
    · exact h.2
    · have := own_base ho g h; omega
  · have := drs_sR (pd := fun g k => (g < w.heap.size ∧ pd g k) ∨ (m.ownBlock = some g ∧ k < xs.length * 1)) (w := w') (xs.map mk)
    rw [List.map_map] at this
    have e : (List.map (fun x => VV.s (mk x)) xs).flatMap VV.cells = xs.map (VV.s ∘ mk) := by
      rw [List.flatMap_map]
      clear this ho hl
      induction xs with
      | nil => rfl
      | cons x xs ih => rw [List.flatMap_cons, ih]; rfl
    rw [e]; exact this
  · intro x hx
    obtain ⟨y, _, rfl⟩ := List.mem_map.1 hx
    rfl
  · intro u hu
    obtain ⟨y, _, rfl⟩ := List.mem_map.1 hu
    exact h1 y
  · intro g hg k
    have := own_base ho g hg
    rw [List.length_map]
    constructor
    · rintro (⟨h, _⟩ | ⟨_, h⟩)
      · omega
      · exact h
    · intro h; exact .inr ⟨hg, h⟩
theorem c_of_dr {α : Type} {mk : α → Value} {h1 : ∀ x, (mk x).oneCell' = true} {pd : Nat → Nat → Prop} {w : World} {xs : List α} {m : Value} (h : DR pd w (.sl (xs.map fun x => .s (mk x))) m) : ∃ A c, m = .slice A xs.length c ∧ xs.length ≤ c ∧ Kd.C (Kd.scalar mk h1) w A xs.length xs := by
  generalize hl : (xs.map fun x => VV.s (mk x)) = l at h
  have hn : l.length = xs.length := by rw [← hl, List.length_map]
  cases h with
  | sl0 A c =>
    obtain rfl := List.eq_nil_of_length_eq_zero hn.symm
    exact ⟨A, c, rfl, Nat.zero_le _, rfl, Nat.zero_le _, fun h => absurd h (Nat.lt_irrefl _)⟩
  | sl _ g off c sz ms hc hm hz hr h1' hw =>
    subst hl
    have e : (List.map (fun x => VV.s (mk x)) xs).flatMap VV.cells = (xs.map mk).map VV.s := by
      clear hn hc hm hz hr h1' hw
      induction xs with
      | nil => rfl
      | cons x xs ih => rw [List.map_cons, List.flatMap_cons, ih]; rfl
    rw [e] at hr
    obtain rfl := drs_s _ hr
    rw [hn] at hc hm ⊢
    refine ⟨_, c, rfl, hc, rfl, by simpa [maxLen] using hm, fun _ => ⟨_, rfl, fun j p hj => ⟨[mk p], rfl, rfl, fun i u hu => ?_⟩⟩⟩
    cases i with
    | zero =>
      have hu' : mk p = u := by simpa using hu
      subst hu'
      have := (hw j (mk p) (by rw [List.getElem?_map, hj]; rfl)).1
      have e2 : (⟨g, off, none⟩ : Addr).add (j * 1 + 0) = ⟨g, off + j, none⟩ := by unfold Addr.add; simp
      show w.cell? ((⟨g, off, none⟩ : Addr).add (j * 1 + 0)) = _
      rw [e2]; exact this
    | succ i => simp at hu
end
end Go.Proofs.YteldcmniknocpaaGreatDoor.VI

end
section
namespace Go.Proofs.YteldcmniknocpaaGreatDoor.VI
open Go
def tis : List (TypeId × TI) := [(3, ⟨1, 8, [.int .i64 0], .int .i64⟩),
 (4, ⟨1, 1, [.bool false], .bool⟩),
 (5, ⟨1, 1, [.int .u8 0], .int .u8⟩),
 (9, ⟨1, 16, [.string ⟨#[]⟩], .str⟩),
 (22, ⟨1, 24, [.slice none 0 0], .slice 9⟩),
 (23, ⟨1, 24, [.slice none 0 0], .slice 66⟩),
 (25, ⟨2, 48, [.slice none 0 0, .slice none 0 0], .agg [(0, 1), (1, 1)]⟩),
 (28, ⟨1, 24, [.slice none 0 0], .slice 44⟩),
 (30, ⟨2, 48, [.slice none 0 0, .slice none 0 0], .agg [(0, 1), (1, 1)]⟩),
 (42, ⟨1, 24, [.slice none 0 0], .slice 51⟩),
 (44, ⟨6, 104, [.string ⟨#[]⟩, .string ⟨#[]⟩, .string ⟨#[]⟩, .slice none 0 0, .bool false, .slice none 0 0], .agg [(0, 1), (1, 1), (2, 1), (3, 1), (4, 1), (5, 1)]⟩),
 (51, ⟨2, 32, [.string ⟨#[]⟩, .string ⟨#[]⟩], .agg [(0, 1), (1, 1)]⟩),
 (55, ⟨4, 48, [.int .i64 0, .int .i64 0, .int .i64 0, .slice none 0 0], .agg [(0, 1), (1, 1), (2, 1), (3, 1)]⟩),
 (64, ⟨1, 24, [.slice none 0 0], .slice 124⟩),
 (66, ⟨6, 104, [.string ⟨#[]⟩, .string ⟨#[]⟩, .string ⟨#[]⟩, .slice none 0 0, .bool false, .slice none 0 0], .agg [(0, 1), (1, 1), (2, 1), (3, 1), (4, 1), (5, 1)]⟩),
 (68, ⟨1, 24, [.slice none 0 0], .slice 97⟩),
 (91, ⟨1, 24, [.slice none 0 0], .slice 3⟩),
 (97, ⟨2, 32, [.string ⟨#[]⟩, .string ⟨#[]⟩], .agg [(0, 1), (1, 1)]⟩),
 (124, ⟨2, 32, [.string ⟨#[]⟩, .string ⟨#[]⟩], .agg [(0, 1), (1, 1)]⟩)]
def ti (t : TypeId) : Option TI := look tis t
theorem hti : TIok Tryz.prog ti := TIok.of (l := tis) (by kernel_rfl) (by kernel_rfl)
end Go.Proofs.YteldcmniknocpaaGreatDoor.VI

end
section
namespace Go.Proofs.YteldcmniknocpaaGreatDoor.VI
open Go Go.RowKit Go.Proofs.YteldcmniknocpaaGreatDoor.G Go.Proofs.YteldcmniknocpaaGreatDoorW.PrintWords
def e51 (x : S51) : VV := .ag [.str x.f0, .str x.f1]
def e44 (x : S44) : VV := .ag [.str x.f0, .str x.f1, .str x.f2, .sl (x.f3.map e51), .bool x.f4, .sl (x.f5.map VV.str)]
def e124 (x : S124) : VV := .ag [.str x.f0, .str x.f1]
def e66 (x : S66) : VV := .ag [.str x.f0, .str x.f1, .str x.f2, .sl (x.f3.map e124), .bool x.f4, .sl (x.f5.map VV.str)]
def e97 (x : S97) : VV := .ag [.str x.f0, .str x.f1]
@[simp] theorem rd_T51_eq (xs : List S51) (i : Int) : rd_T51 xs i = rdOf z51 xs i := rfl
@[simp] theorem rd_T44_eq (xs : List S44) (i : Int) : rd_T44 xs i = rdOf z44 xs i := rfl
@[simp] theorem rd_T124_eq (xs : List S124) (i : Int) : rd_T124 xs i = rdOf z124 xs i := rfl
@[simp] theorem rd_T66_eq (xs : List S66) (i : Int) : rd_T66 xs i = rdOf z66 xs i := rfl
@[simp] theorem rd_T97_eq (xs : List S97) (i : Int) : rd_T97 xs i = rdOf z97 xs i := rfl
def keep : FuncId → Nat → Option (List Nat) := fun f b => match f, b with
  | 8, 0 => some [1, 3]
  | 10, 0 => some [1, 6, 7, 8]
  | 14, 0 => some [0, 1, 5]
  | 16, 0 => some [0, 3, 4, 7]
  | 18, 0 => some [0, 1, 5]
  | 23, 0 => some [0, 1, 5]
  | 24, 0 => some [1, 3]
  | 25, 0 => some [1, 2, 5]
  | 27, 0 => some [0, 3, 4, 7]
  | 30, 0 => some [1, 2, 7, 8, 9]
  | 31, 0 => some [0, 1, 5]
  | 35, 0 => some [0, 1, 5]
  | 38, 0 => some [2, 3, 5, 6]
  | 38, 2 => some [2, 3, 7]
  | 46, 0 => some [0, 3, 4]
  | 46, 2 => some [0, 3, 4, 5, 6]
  | 48, 0 => some [0, 3]
  | 49, 0 => some [1, 2, 5]
  | 51, 0 => some [0, 3, 10, 11, 12]
  | 54, 0 => some [0, 5, 6, 7]
  | 65, 0 => some [0, 1, 5, 6, 7]
  | 66, 0 => some [0, 3, 4]
  | 67, 0 => some [1, 3, 4]
  | 73, 0 => some [0, 1, 5]
  | 77, 0 => some [0, 3, 4, 7]
  | 80, 0 => some [0, 1, 7, 8]
  | 87, 0 => some [0, 1, 7, 8]
  | 89, 0 => some [0, 1, 5]
  | 97, 0 => some [1, 13, 14, 15]
  | 97, 2 => some [1, 24, 25, 26]
  | 98, 0 => some [0, 3, 4]
  | 99, 0 => some [1, 3]
  | 133, 0 => some [0, 3]
  | 156, 0 => some [0, 3]
  | _, _ => none
def unS : List VV → Option (List ByteArray)
  | [] => some []
  | .s (.string b) :: r => obind (unS r) fun l => some (b :: l)
  | _ => none
theorem unS_map : ∀ l : List ByteArray, unS (l.map VV.str) = some l
  | [] => rfl
  | b :: r => by
    show obind (unS (r.map VV.str)) _ = _
    rw [unS_map r]
    rfl
noncomputable def strings_Join.gv : List VV → Option (VV × List VV)
  | [.sl q0, .s (.string a1)] => obind (unS q0) fun l0 => (strings_Join.f l0 a1).map fun r => (.str r, [])
  | _ => none
noncomputable def strings_Cut.gv : List VV → Option (VV × List VV)
  | [.s (.string a0), .s (.string a1)] => (strings_Cut.f a0 a1).map fun r => (.tu [.str r.1, .str r.2.1, .bool r.2.2], [])
  | _ => none
noncomputable def strings_Split.gv : List VV → Option (VV × List VV)
  | [.s (.string a0), .s (.string a1)] => (strings_Split.f a0 a1).map fun r => (.ow 9 1 (r.map VV.str), [])
  | _ => none
noncomputable def impl_ReadDec.gv : List VV → Option (VV × List VV)
  | [.s (.string a0)] => (impl_ReadDec.f a0).map fun r => (.int r, [])
  | _ => none
noncomputable def strings_HasPrefix.gv : List VV → Option (VV × List VV)
  | [.s (.string a0), .s (.string a1)] => (strings_HasPrefix.f a0 a1).map fun r => (.bool r, [])
  | _ => none
noncomputable def strings_TrimPrefix.gv : List VV → Option (VV × List VV)
  | [.s (.string a0), .s (.string a1)] => (strings_TrimPrefix.f a0 a1).map fun r => (.str r, [])
  | _ => none
noncomputable def slices_Clone_string_string.gv : List VV → Option (VV × List VV)
  | [.sl q0] => obind (unS q0) fun l0 => (slices_Clone_string_string.f l0).map fun r => (.ow 9 1 (r.map VV.str), [])
  | _ => none
noncomputable def strconv_Itoa.gv : List VV → Option (VV × List VV)
  | [.s (.int .i64 a0)] => (strconv_Itoa.f a0).map fun r => (.str r, [])
  | _ => none
noncomputable def Gv : FuncId → Option (List VV → Option (VV × List VV)) := fun f => match f with
  | 33 => some strings_Join.gv
  | 61 => some strings_Cut.gv
  | 62 => some strings_Split.gv
  | 63 => some impl_ReadDec.gv
  | 78 => some strings_HasPrefix.gv
  | 79 => some strings_TrimPrefix.gv
  | 119 => some slices_Clone_string_string.gv
  | 129 => some strconv_Itoa.gv
  | _ => none
noncomputable abbrev cv := callv Tryz.prog ti keep Gv
end Go.Proofs.YteldcmniknocpaaGreatDoor.VI

end
section
namespace Go.Proofs.YteldcmniknocpaaGreatDoor.VI
open Go Go.RowKit Go.Proofs.YteldcmniknocpaaGreatDoor.G Go.Proofs.YteldcmniknocpaaGreatDoorW.PrintWords
set_option maxRecDepth 100000
set_option linter.unusedVariables false
set_option linter.unusedSimpArgs false
theorem obind_some {α β : Type} {x : Option α} {f : α → Option β} {r : β} (h : obind x f = some r) : ∃ a, x = some a ∧ f a = some r := by
  cases x with
  | none => cases h
  | some a => exact ⟨a, rfl, h⟩
theorem unS_inv : ∀ (q : List VV) (l : List ByteArray), unS q = some l → q = l.map VV.str
  | [], l, h => by cases h; rfl
  | v :: r, l, h => by
    cases v with
    | s x =>
      cases x with
      | string b =>
        obtain ⟨l', h1, h2⟩ := obind_some h
        cases h2
        rw [unS_inv r l' h1]
        rfl
      | _ => cases h
    | _ => cases h
theorem strings_Join.giv {W : World} (hE : Glob FactE W) (hM : Glob FactM W) (hT : Glob FactT W) : ∀ vs r, strings_Join.gv vs = some r → CallOk1 Tryz.prog W.heap.size (fun w => Below W.heap.size W w) 33 vs r := by
  intro vs r h
  unfold strings_Join.gv at h
  split at h
  case h_2 => cases h
  rename_i q0 a1
  obtain ⟨l0, hq0, h2⟩ := obind_some h
  obtain rfl := unS_inv _ _ hq0
  obtain ⟨q, hq, rfl⟩ := Option.map_eq_some_iff.1 h2
  refine giv_ok ⟨_, Tryz.func33, by kernel_rfl, by kernel_rfl⟩ rfl fun w ms pd hw hd => ?_
  obtain ⟨m0, ms0, rfl, h0, hd⟩ := drs_cons hd
  obtain ⟨m1, ms1, rfl, h1, hd⟩ := drs_cons hd
  obtain rfl := drs_nil hd
  obtain ⟨A0, c0, rfl, hc0, hr0⟩ := c_of_dr (h1 := fun _ => rfl) h0
  obtain rfl := dr_s h1
  exact (strings_Join.calls (l0 := l0) (a1 := a1) (r := q) (w := w) (h := hq) (A0 := A0) (c0 := c0) (hr0 := hr0) (hc0 := hc0)).mono fun e w' he => ⟨_, he.1, (he.2), resOf_s _⟩
theorem strings_Cut.giv {W : World} (hE : Glob FactE W) (hM : Glob FactM W) (hT : Glob FactT W) : ∀ vs r, strings_Cut.gv vs = some r → CallOk1 Tryz.prog W.heap.size (fun w => Below W.heap.size W w) 61 vs r := by
  intro vs r h
  unfold strings_Cut.gv at h
  split at h
  case h_2 => cases h
  rename_i a0 a1
  obtain ⟨q, hq, rfl⟩ := Option.map_eq_some_iff.1 h
  refine giv_ok ⟨_, Tryz.func61, by kernel_rfl, by kernel_rfl⟩ rfl fun w ms pd hw hd => ?_
  obtain ⟨m0, ms0, rfl, h0, hd⟩ := drs_cons hd
  obtain ⟨m1, ms1, rfl, h1, hd⟩ := drs_cons hd
  obtain rfl := drs_nil hd
  obtain rfl := dr_s h0
  obtain rfl := dr_s h1
  exact (strings_Cut.calls (a0 := a0) (a1 := a1) (r1 := q.1) (r2 := q.2.1) (r3 := q.2.2) (w := w) (h := hq) (hGM := Glob.below hM hw)).mono fun e w' he => ⟨_, he.1, (Drawn0.below he.2), resOf_tu [.string q.1, .string q.2.1, .bool q.2.2]⟩
theorem strings_Split.giv {W : World} (hE : Glob FactE W) (hM : Glob FactM W) (hT : Glob FactT W) : ∀ vs r, strings_Split.gv vs = some r → CallOk1 Tryz.prog W.heap.size (fun w => Below W.heap.size W w) 62 vs r := by
  intro vs r h
  unfold strings_Split.gv at h
  split at h
  case h_2 => cases h
  rename_i a0 a1
  obtain ⟨q, hq, rfl⟩ := Option.map_eq_some_iff.1 h
  refine giv_ok ⟨_, Tryz.func62, by kernel_rfl, by kernel_rfl⟩ rfl fun w ms pd hw hd => ?_
  obtain ⟨m0, ms0, rfl, h0, hd⟩ := drs_cons hd
  obtain ⟨m1, ms1, rfl, h1, hd⟩ := drs_cons hd
  obtain rfl := drs_nil hd
  obtain rfl := dr_s h0
  obtain rfl := dr_s h1
  refine (strings_Split.calls (a0 := a0) (a1 := a1) (r := q) (w := w) (h := hq) (hGM := Glob.below hM hw)).mono fun e w' he => ?_
  obtain ⟨v0, rfl, hR, hb⟩ := he
  refine ⟨v0, rfl, hb, resOf_ow (mk := Value.string) (fun _ => rfl) ?_ (Kd.own_of_R hR)⟩
  exact (Kd.R_reads hR).elim fun _ ⟨_, _, _, hC⟩ => hC.2.1
theorem impl_ReadDec.giv {W : World} (hE : Glob FactE W) (hM : Glob FactM W) (hT : Glob FactT W) : ∀ vs r, impl_ReadDec.gv vs = some r → CallOk1 Tryz.prog W.heap.size (fun w => Below W.heap.size W w) 63 vs r := by
  intro vs r h
  unfold impl_ReadDec.gv at h
  split at h
  case h_2 => cases h
  rename_i a0
  obtain ⟨q, hq, rfl⟩ := Option.map_eq_some_iff.1 h
  refine giv_ok ⟨_, Tryz.func63, by kernel_rfl, by kernel_rfl⟩ rfl fun w ms pd hw hd => ?_
  obtain ⟨m0, ms0, rfl, h0, hd⟩ := drs_cons hd
  obtain rfl := drs_nil hd
  obtain rfl := dr_s h0
  exact (impl_ReadDec.calls (a0 := a0) (r := q) (w := w) (h := hq) (hGE := Glob.below hE hw) (hGT := Glob.below hT hw)).mono fun e w' he => ⟨_, he.1, (he.2), resOf_s _⟩
theorem strings_HasPrefix.giv {W : World} (hE : Glob FactE W) (hM : Glob FactM W) (hT : Glob FactT W) : ∀ vs r, strings_HasPrefix.gv vs = some r → CallOk1 Tryz.prog W.heap.size (fun w => Below W.heap.size W w) 78 vs r := by
  intro vs r h
  unfold strings_HasPrefix.gv at h
  split at h
  case h_2 => cases h
  rename_i a0 a1
  obtain ⟨q, hq, rfl⟩ := Option.map_eq_some_iff.1 h
  refine giv_ok ⟨_, Tryz.func78, by kernel_rfl, by kernel_rfl⟩ rfl fun w ms pd hw hd => ?_
  obtain ⟨m0, ms0, rfl, h0, hd⟩ := drs_cons hd
  obtain ⟨m1, ms1, rfl, h1, hd⟩ := drs_cons hd
  obtain rfl := drs_nil hd
  obtain rfl := dr_s h0
  obtain rfl := dr_s h1
  exact (strings_HasPrefix.calls (a0 := a0) (a1 := a1) (r := q) (w := w) (h := hq)).mono fun e w' he => ⟨_, he.1, (Drawn0.below he.2), resOf_s _⟩
theorem strings_TrimPrefix.giv {W : World} (hE : Glob FactE W) (hM : Glob FactM W) (hT : Glob FactT W) : ∀ vs r, strings_TrimPrefix.gv vs = some r → CallOk1 Tryz.prog W.heap.size (fun w => Below W.heap.size W w) 79 vs r := by
  intro vs r h
  unfold strings_TrimPrefix.gv at h
  split at h
  case h_2 => cases h
  rename_i a0 a1
  obtain ⟨q, hq, rfl⟩ := Option.map_eq_some_iff.1 h
  refine giv_ok ⟨_, Tryz.func79, by kernel_rfl, by kernel_rfl⟩ rfl fun w ms pd hw hd => ?_
  obtain ⟨m0, ms0, rfl, h0, hd⟩ := drs_cons hd
  obtain ⟨m1, ms1, rfl, h1, hd⟩ := drs_cons hd
  obtain rfl := drs_nil hd
  obtain rfl := dr_s h0
  obtain rfl := dr_s h1
  exact (strings_TrimPrefix.calls (a0 := a0) (a1 := a1) (r := q) (w := w) (h := hq)).mono fun e w' he => ⟨_, he.1, (Drawn0.below he.2), resOf_s _⟩
theorem slices_Clone_string_string.giv {W : World} (hE : Glob FactE W) (hM : Glob FactM W) (hT : Glob FactT W) : ∀ vs r, slices_Clone_string_string.gv vs = some r → CallOk1 Tryz.prog W.heap.size (fun w => Below W.heap.size W w) 119 vs r := by
  intro vs r h
  unfold slices_Clone_string_string.gv at h
  split at h
  case h_2 => cases h
  rename_i q0
  obtain ⟨l0, hq0, h2⟩ := obind_some h
  obtain rfl := unS_inv _ _ hq0
  obtain ⟨q, hq, rfl⟩ := Option.map_eq_some_iff.1 h2
  refine giv_ok ⟨_, Tryz.func119, by kernel_rfl, by kernel_rfl⟩ rfl fun w ms pd hw hd => ?_
  obtain ⟨m0, ms0, rfl, h0, hd⟩ := drs_cons hd
  obtain rfl := drs_nil hd
  obtain ⟨A0, c0, rfl, hc0, hr0⟩ := c_of_dr (h1 := fun _ => rfl) h0
  refine (slices_Clone_string_string.calls (l0 := l0) (r := q) (w := w) (h := hq) (A0 := A0) (c0 := c0) (hr0 := hr0) (hc0 := hc0)).mono fun e w' he => ?_
  obtain ⟨v0, rfl, hR, hb⟩ := he
  refine ⟨v0, rfl, hb, resOf_ow (mk := Value.string) (fun _ => rfl) ?_ (Kd.own_of_R hR)⟩
  exact (Kd.R_reads hR).elim fun _ ⟨_, _, _, hC⟩ => hC.2.1
theorem strconv_Itoa.giv {W : World} (hE : Glob FactE W) (hM : Glob FactM W) (hT : Glob FactT W) : ∀ vs r, strconv_Itoa.gv vs = some r → CallOk1 Tryz.prog W.heap.size (fun w => Below W.heap.size W w) 129 vs r := by
  intro vs r h
  unfold strconv_Itoa.gv at h
  split at h
  case h_2 => cases h
  rename_i a0
  obtain ⟨q, hq, rfl⟩ := Option.map_eq_some_iff.1 h
  refine giv_ok ⟨_, Tryz.func129, by kernel_rfl, by kernel_rfl⟩ rfl fun w ms pd hw hd => ?_
  obtain ⟨m0, ms0, rfl, h0, hd⟩ := drs_cons hd
  obtain rfl := drs_nil hd
  obtain rfl := dr_s h0
  exact (strconv_Itoa.calls (a0 := a0) (r := q) (w := w) (h := hq) (hGT := Glob.below hT hw)).mono fun e w' he => ⟨_, he.1, (he.2), resOf_s _⟩
theorem given_ok {W : World} (hE : Glob FactE W) (hM : Glob FactM W) (hT : Glob FactT W) : GivenOk Tryz.prog W.heap.size (fun w => Below W.heap.size W w) Gv := by
  intro f g vs r hg hr
  unfold Gv at hg
  split at hg
  · cases hg; exact strings_Join.giv hE hM hT vs r hr
  · cases hg; exact strings_Cut.giv hE hM hT vs r hr
  · cases hg; exact strings_Split.giv hE hM hT vs r hr
  · cases hg; exact impl_ReadDec.giv hE hM hT vs r hr
  · cases hg; exact strings_HasPrefix.giv hE hM hT vs r hr
  · cases hg; exact strings_TrimPrefix.giv hE hM hT vs r hr
  · cases hg; exact slices_Clone_string_string.giv hE hM hT vs r hr
  · cases hg; exact strconv_Itoa.giv hE hM hT vs r hr
  · cases hg
end Go.Proofs.YteldcmniknocpaaGreatDoor.VI

end
section
namespace Go.Proofs.YteldcmniknocpaaGreatDoor.VI
open Go Go.RowKit Go.Proofs.YteldcmniknocpaaGreatDoor.G Go.Proofs.YteldcmniknocpaaGreatDoorW.PrintWords
set_option maxRecDepth 100000
set_option maxHeartbeats 1000000
attribute [local irreducible] bite obind vget
theorem impl_KeyOf.vi {m : Nat} (hm : 1 ≤ m) (a0_0 : ByteArray) (a0_1 : ByteArray) (a0_2 : ByteArray) (l0_3 : List (S51)) (a0_4 : Bool) (l0_5 : List ByteArray) : Im (fun r => (.str r, [])) (impl_KeyOf.f a0_0 a0_1 a0_2 l0_3 a0_4 l0_5) (cv m 29 [.ag [.str a0_0, .str a0_1, .str a0_2, .sl (l0_3.map e51), .bool a0_4, .sl (l0_5.map VV.str)]]) := by
  obtain ⟨m, rfl⟩ : ∃ m', m = m' + 1 := ⟨m - 1, by omega⟩
  rw [show cv (m + 1) 29 _ = _ from callv_enter rfl Tryz.func29 (by kernel_rfl) rfl rfl]
  unfold impl_KeyOf.f
  repeat' first
    | (with_reducible first | exact Im.none | refine Im.ite (fun h => ?_) (fun h => ?_) | refine Im.sbind ?_)
    | ((conv => arg 3; whnf); first
      | ((with_reducible refine Im.fin ?_); exact zr)
      | ((with_reducible refine Im.anyo ?_ ?_); (next => kernel_rfl))
      | ((with_reducible refine Im.bite_t ?_ ?_); (next => exact zd))
      | ((with_reducible refine Im.must ?_ ?_); (next => exact zd))
      | ((with_reducible refine Im.bite_f ?_ ?_); (next => exact zd))
      | ((with_reducible refine Im.vget ByteArray.empty ?_ ?_ ?_); (next => exact zd); (next => exact zd))
      | ((with_reducible refine Im.vget z51 ?_ ?_ ?_); (next => exact zd); (next => exact zd))
      | ((with_reducible refine Im.vget z44 ?_ ?_ ?_); (next => exact zd); (next => exact zd))
      | ((with_reducible refine Im.vget z124 ?_ ?_ ?_); (next => exact zd); (next => exact zd))
      | ((with_reducible refine Im.vget z66 ?_ ?_ ?_); (next => exact zd); (next => exact zd))
      | ((with_reducible refine Im.vget z97 ?_ ?_ ?_); (next => exact zd); (next => exact zd))
      | ((with_reducible refine Im.vget (0 : Int) ?_ ?_ ?_); (next => exact zd); (next => exact zd))
      | ((with_reducible refine Im.vget false ?_ ?_ ?_); (next => exact zd); (next => exact zd))
      | exact zm | exact zx)
  all_goals skip
end Go.Proofs.YteldcmniknocpaaGreatDoor.VI

end
section
namespace Go.Proofs.YteldcmniknocpaaGreatDoor.VI
open Go Go.RowKit Go.Proofs.YteldcmniknocpaaGreatDoor.G Go.Proofs.YteldcmniknocpaaGreatDoorW.PrintWords
set_option maxRecDepth 100000
set_option maxHeartbeats 1000000
theorem impl_ReadDec.vi {m : Nat} (hm : 1 ≤ m) (a0 : ByteArray) : Im (fun r => (.int r, [])) (impl_ReadDec.f a0) (cv m 63 [.str a0]) := by
  obtain ⟨m, rfl⟩ : ∃ m', m = m' + 1 := ⟨m - 1, by omega⟩
  rw [show cv (m + 1) 63 _ = _ from callv_given rfl]
  intro r h
  rw [show impl_ReadDec.gv [.str a0] = (impl_ReadDec.f a0).map (fun r => (.int r, [])) from rfl, h]
  rfl
theorem strconv_Itoa.vi {m : Nat} (hm : 1 ≤ m) (a0 : Int) : Im (fun r => (.str r, [])) (strconv_Itoa.f a0) (cv m 129 [.int a0]) := by
  obtain ⟨m, rfl⟩ : ∃ m', m = m' + 1 := ⟨m - 1, by omega⟩
  rw [show cv (m + 1) 129 _ = _ from callv_given rfl]
  intro r h
  rw [show strconv_Itoa.gv [.int a0] = (strconv_Itoa.f a0).map (fun r => (.str r, [])) from rfl, h]
  rfl
end Go.Proofs.YteldcmniknocpaaGreatDoor.VI

end
section
namespace Go.Proofs.YteldcmniknocpaaGreatDoor.VI
open Go Go.RowKit Go.Proofs.YteldcmniknocpaaGreatDoor.G Go.Proofs.YteldcmniknocpaaGreatDoorW.PrintWords
set_option maxRecDepth 100000
set_option maxHeartbeats 1000000
attribute [local irreducible] bite obind vget
theorem impl_DecText.vi {m : Nat} (hm : 2 ≤ m) (a0 : Int) : Im (fun r => (.str r, [])) (impl_DecText.f a0) (cv m 96 [.int a0]) := by
  obtain ⟨m, rfl⟩ : ∃ m', m = m' + 1 := ⟨m - 1, by omega⟩
  rw [show cv (m + 1) 96 _ = _ from callv_enter rfl Tryz.func96 (by kernel_rfl) rfl rfl]
  unfold impl_DecText.f
  repeat' first
    | (with_reducible first | exact Im.none | refine Im.ite (fun h => ?_) (fun h => ?_) | refine Im.sbind ?_)
    | ((conv => arg 3; whnf); first
      | ((with_reducible refine Im.fin ?_); exact zr)
      | ((with_reducible refine Im.anyo ?_ ?_); (next => kernel_rfl))
      | ((with_reducible refine Im.bite_t ?_ ?_); (next => exact zd))
      | ((with_reducible refine Im.must ?_ ?_); (next => exact zd))
      | ((with_reducible refine Im.bite_f ?_ ?_); (next => exact zd))
      | ((with_reducible refine Im.vget ByteArray.empty ?_ ?_ ?_); (next => exact zd); (next => exact zd))
      | ((with_reducible refine Im.vget z51 ?_ ?_ ?_); (next => exact zd); (next => exact zd))
      | ((with_reducible refine Im.vget z44 ?_ ?_ ?_); (next => exact zd); (next => exact zd))
      | ((with_reducible refine Im.vget z124 ?_ ?_ ?_); (next => exact zd); (next => exact zd))
      | ((with_reducible refine Im.vget z66 ?_ ?_ ?_); (next => exact zd); (next => exact zd))
      | ((with_reducible refine Im.vget z97 ?_ ?_ ?_); (next => exact zd); (next => exact zd))
      | ((with_reducible refine Im.vget (0 : Int) ?_ ?_ ?_); (next => exact zd); (next => exact zd))
      | ((with_reducible refine Im.vget false ?_ ?_ ?_); (next => exact zd); (next => exact zd))
      | ((with_reducible refine Im.call (strconv_Itoa.vi ?_ _) ?_ (fun r hr => ?_)); (next => omega); (next => exact zr))
      | exact zm | exact zx)
  all_goals skip
theorem impl_isDigit.vi {m : Nat} (hm : 1 ≤ m) (a0 : Int) : Im (fun r => (.bool r, [])) (impl_isDigit.f a0) (cv m 83 [.byte a0]) := by
  obtain ⟨m, rfl⟩ : ∃ m', m = m' + 1 := ⟨m - 1, by omega⟩
  rw [show cv (m + 1) 83 _ = _ from callv_enter rfl Tryz.func83 (by kernel_rfl) rfl rfl]
  unfold impl_isDigit.f
  repeat' first
    | (with_reducible first | exact Im.none | refine Im.ite (fun h => ?_) (fun h => ?_) | refine Im.sbind ?_)
    | ((conv => arg 3; whnf); first
      | ((with_reducible refine Im.fin ?_); exact zr)
      | ((with_reducible refine Im.anyo ?_ ?_); (next => kernel_rfl))
      | ((with_reducible refine Im.bite_t ?_ ?_); (next => exact zd))
      | ((with_reducible refine Im.must ?_ ?_); (next => exact zd))
      | ((with_reducible refine Im.bite_f ?_ ?_); (next => exact zd))
      | ((with_reducible refine Im.vget ByteArray.empty ?_ ?_ ?_); (next => exact zd); (next => exact zd))
      | ((with_reducible refine Im.vget z51 ?_ ?_ ?_); (next => exact zd); (next => exact zd))
      | ((with_reducible refine Im.vget z44 ?_ ?_ ?_); (next => exact zd); (next => exact zd))
      | ((with_reducible refine Im.vget z124 ?_ ?_ ?_); (next => exact zd); (next => exact zd))
      | ((with_reducible refine Im.vget z66 ?_ ?_ ?_); (next => exact zd); (next => exact zd))
      | ((with_reducible refine Im.vget z97 ?_ ?_ ?_); (next => exact zd); (next => exact zd))
      | ((with_reducible refine Im.vget (0 : Int) ?_ ?_ ?_); (next => exact zd); (next => exact zd))
      | ((with_reducible refine Im.vget false ?_ ?_ ?_); (next => exact zd); (next => exact zd))
      | exact zm | exact zx)
  all_goals skip
theorem impl_isLower.vi {m : Nat} (hm : 1 ≤ m) (a0 : Int) : Im (fun r => (.bool r, [])) (impl_isLower.f a0) (cv m 82 [.byte a0]) := by
  obtain ⟨m, rfl⟩ : ∃ m', m = m' + 1 := ⟨m - 1, by omega⟩
  rw [show cv (m + 1) 82 _ = _ from callv_enter rfl Tryz.func82 (by kernel_rfl) rfl rfl]
  unfold impl_isLower.f
  repeat' first
    | (with_reducible first | exact Im.none | refine Im.ite (fun h => ?_) (fun h => ?_) | refine Im.sbind ?_)
    | ((conv => arg 3; whnf); first
      | ((with_reducible refine Im.fin ?_); exact zr)
      | ((with_reducible refine Im.anyo ?_ ?_); (next => kernel_rfl))
      | ((with_reducible refine Im.bite_t ?_ ?_); (next => exact zd))
      | ((with_reducible refine Im.must ?_ ?_); (next => exact zd))
      | ((with_reducible refine Im.bite_f ?_ ?_); (next => exact zd))
      | ((with_reducible refine Im.vget ByteArray.empty ?_ ?_ ?_); (next => exact zd); (next => exact zd))
      | ((with_reducible refine Im.vget z51 ?_ ?_ ?_); (next => exact zd); (next => exact zd))
      | ((with_reducible refine Im.vget z44 ?_ ?_ ?_); (next => exact zd); (next => exact zd))
      | ((with_reducible refine Im.vget z124 ?_ ?_ ?_); (next => exact zd); (next => exact zd))
      | ((with_reducible refine Im.vget z66 ?_ ?_ ?_); (next => exact zd); (next => exact zd))
      | ((with_reducible refine Im.vget z97 ?_ ?_ ?_); (next => exact zd); (next => exact zd))
      | ((with_reducible refine Im.vget (0 : Int) ?_ ?_ ?_); (next => exact zd); (next => exact zd))
      | ((with_reducible refine Im.vget false ?_ ?_ ?_); (next => exact zd); (next => exact zd))
      | exact zm | exact zx)
  all_goals skip
theorem impl_isLetter.vi {m : Nat} (hm : 2 ≤ m) (a0 : Int) : Im (fun r => (.bool r, [])) (impl_isLetter.f a0) (cv m 131 [.byte a0]) := by
  obtain ⟨m, rfl⟩ : ∃ m', m = m' + 1 := ⟨m - 1, by omega⟩
  rw [show cv (m + 1) 131 _ = _ from callv_enter rfl Tryz.func131 (by kernel_rfl) rfl rfl]
  unfold impl_isLetter.f
  repeat' first
    | (with_reducible first | exact Im.none | refine Im.ite (fun h => ?_) (fun h => ?_) | refine Im.sbind ?_)
    | ((conv => arg 3; whnf); first
      | ((with_reducible refine Im.fin ?_); exact zr)
      | ((with_reducible refine Im.anyo ?_ ?_); (next => kernel_rfl))
      | ((with_reducible refine Im.bite_t ?_ ?_); (next => exact zd))
      | ((with_reducible refine Im.must ?_ ?_); (next => exact zd))
      | ((with_reducible refine Im.bite_f ?_ ?_); (next => exact zd))
      | ((with_reducible refine Im.vget ByteArray.empty ?_ ?_ ?_); (next => exact zd); (next => exact zd))
      | ((with_reducible refine Im.vget z51 ?_ ?_ ?_); (next => exact zd); (next => exact zd))
      | ((with_reducible refine Im.vget z44 ?_ ?_ ?_); (next => exact zd); (next => exact zd))
      | ((with_reducible refine Im.vget z124 ?_ ?_ ?_); (next => exact zd); (next => exact zd))
      | ((with_reducible refine Im.vget z66 ?_ ?_ ?_); (next => exact zd); (next => exact zd))
      | ((with_reducible refine Im.vget z97 ?_ ?_ ?_); (next => exact zd); (next => exact zd))
      | ((with_reducible refine Im.vget (0 : Int) ?_ ?_ ?_); (next => exact zd); (next => exact zd))
      | ((with_reducible refine Im.vget false ?_ ?_ ?_); (next => exact zd); (next => exact zd))
      | ((with_reducible refine Im.call (impl_isLower.vi ?_ _) ?_ (fun r hr => ?_)); (next => omega); (next => exact zr))
      | exact zm | exact zx)
  all_goals skip
theorem impl_VersionOk_1.vi {m : Nat} (hm : 3 ≤ m) (a0 : Int) : Im (fun r => (.bool r, [])) (impl_VersionOk_1.f a0) (cv m 130 [.byte a0]) := by
  obtain ⟨m, rfl⟩ : ∃ m', m = m' + 1 := ⟨m - 1, by omega⟩
  rw [show cv (m + 1) 130 _ = _ from callv_enter rfl Tryz.func130 (by kernel_rfl) rfl rfl]
  unfold impl_VersionOk_1.f
  repeat' first
    | (with_reducible first | exact Im.none | refine Im.ite (fun h => ?_) (fun h => ?_) | refine Im.sbind ?_)
    | ((conv => arg 3; whnf); first
      | ((with_reducible refine Im.fin ?_); exact zr)
      | ((with_reducible refine Im.anyo ?_ ?_); (next => kernel_rfl))
      | ((with_reducible refine Im.bite_t ?_ ?_); (next => exact zd))
      | ((with_reducible refine Im.must ?_ ?_); (next => exact zd))
      | ((with_reducible refine Im.bite_f ?_ ?_); (next => exact zd))
      | ((with_reducible refine Im.vget ByteArray.empty ?_ ?_ ?_); (next => exact zd); (next => exact zd))
      | ((with_reducible refine Im.vget z51 ?_ ?_ ?_); (next => exact zd); (next => exact zd))
      | ((with_reducible refine Im.vget z44 ?_ ?_ ?_); (next => exact zd); (next => exact zd))
      | ((with_reducible refine Im.vget z124 ?_ ?_ ?_); (next => exact zd); (next => exact zd))
      | ((with_reducible refine Im.vget z66 ?_ ?_ ?_); (next => exact zd); (next => exact zd))
      | ((with_reducible refine Im.vget z97 ?_ ?_ ?_); (next => exact zd); (next => exact zd))
      | ((with_reducible refine Im.vget (0 : Int) ?_ ?_ ?_); (next => exact zd); (next => exact zd))
      | ((with_reducible refine Im.vget false ?_ ?_ ?_); (next => exact zd); (next => exact zd))
      | ((with_reducible refine Im.call (impl_isDigit.vi ?_ _) ?_ (fun r hr => ?_)); (next => omega); (next => exact zr))
      | ((with_reducible refine Im.call (impl_isLetter.vi ?_ _) ?_ (fun r hr => ?_)); (next => omega); (next => exact zr))
      | exact zm | exact zx)
  all_goals skip
theorem impl_all__impl_VersionOk_1.vi {k m : Nat} (hm : k + 4 ≤ m) (a0 : ByteArray) : Im (fun r => (.bool r, [])) (impl_all__impl_VersionOk_1.f k a0) (cv m 80 [.str a0, .cl 130 []]) := by
  obtain ⟨m, rfl⟩ : ∃ m', m = m' + 1 := ⟨m - 1, by omega⟩
  rw [show cv (m + 1) 80 _ = _ from callv_enter rfl Tryz.func80 (by kernel_rfl) rfl rfl]
  unfold impl_all__impl_VersionOk_1.f
  repeat' first
    | (with_reducible first | exact Im.none | refine Im.ite (fun h => ?_) (fun h => ?_) | refine Im.sbind ?_)
    | ((conv => arg 3; whnf); first
      | ((with_reducible refine Im.fin ?_); exact zr)
      | ((with_reducible refine Im.anyo ?_ ?_); (next => kernel_rfl))
      | ((with_reducible refine Im.bite_t ?_ ?_); (next => exact zd))
      | ((with_reducible refine Im.must ?_ ?_); (next => exact zd))
      | ((with_reducible refine Im.bite_f ?_ ?_); (next => exact zd))
      | ((with_reducible refine Im.vget ByteArray.empty ?_ ?_ ?_); (next => exact zd); (next => exact zd))
      | ((with_reducible refine Im.vget z51 ?_ ?_ ?_); (next => exact zd); (next => exact zd))
      | ((with_reducible refine Im.vget z44 ?_ ?_ ?_); (next => exact zd); (next => exact zd))
      | ((with_reducible refine Im.vget z124 ?_ ?_ ?_); (next => exact zd); (next => exact zd))
      | ((with_reducible refine Im.vget z66 ?_ ?_ ?_); (next => exact zd); (next => exact zd))
      | ((with_reducible refine Im.vget z97 ?_ ?_ ?_); (next => exact zd); (next => exact zd))
      | ((with_reducible refine Im.vget (0 : Int) ?_ ?_ ?_); (next => exact zd); (next => exact zd))
      | ((with_reducible refine Im.vget false ?_ ?_ ?_); (next => exact zd); (next => exact zd))
      | ((with_reducible refine Im.call (impl_VersionOk_1.vi ?_ _) ?_ (fun r hr => ?_)); (next => omega); (next => exact zr))
      | ((with_reducible refine Im.loop (S := fun s : ByteArray × Int × Int => [.str s.1, .cl 130 [], .un, .un, .un, .un, .un, .int s.2.1, .int s.2.2, .un, .un, .un, .un, .un, .un, .un, .un, .un]) (L := fun k s => impl_all__impl_VersionOk_1.l0 k s.1 s.2.1 s.2.2) _ ?_ ?_ _ _ ⟨_, _, _⟩ _ (Nat.le_refl _) zo ?_)
         (next => intro s; rfl)
         (next =>
           intro k1 M1 ⟨x0, x7, x8⟩ hk1 hM1 ih1
           conv => arg 2; simp only [impl_all__impl_VersionOk_1.l0]
           repeat' first
             | (with_reducible first | exact Im.none | refine Im.ite (fun h => ?_) (fun h => ?_) | refine Im.sbind ?_)
             | ((conv => arg 3; whnf); first
               | ((with_reducible refine Im.fin ?_); exact zr)
               | ((with_reducible refine Im.anyo ?_ ?_); (next => kernel_rfl))
               | ((with_reducible refine Im.bite_t ?_ ?_); (next => exact zd))
               | ((with_reducible refine Im.must ?_ ?_); (next => exact zd))
               | ((with_reducible refine Im.bite_f ?_ ?_); (next => exact zd))
               | ((with_reducible refine Im.vget ByteArray.empty ?_ ?_ ?_); (next => exact zd); (next => exact zd))
               | ((with_reducible refine Im.vget z51 ?_ ?_ ?_); (next => exact zd); (next => exact zd))
               | ((with_reducible refine Im.vget z44 ?_ ?_ ?_); (next => exact zd); (next => exact zd))
               | ((with_reducible refine Im.vget z124 ?_ ?_ ?_); (next => exact zd); (next => exact zd))
               | ((with_reducible refine Im.vget z66 ?_ ?_ ?_); (next => exact zd); (next => exact zd))
               | ((with_reducible refine Im.vget z97 ?_ ?_ ?_); (next => exact zd); (next => exact zd))
               | ((with_reducible refine Im.vget (0 : Int) ?_ ?_ ?_); (next => exact zd); (next => exact zd))
               | ((with_reducible refine Im.vget false ?_ ?_ ?_); (next => exact zd); (next => exact zd))
               | ((with_reducible refine Im.call (impl_VersionOk_1.vi ?_ _) ?_ (fun r hr => ?_)); (next => omega); (next => exact zr))
               | ((with_reducible refine ih1 _ ⟨_, _, _⟩ _ ?_ ?_); (next => exact zo); exact zr)
               | exact zm | exact zx)
           all_goals skip)
         exact zr)
      | exact zm | exact zx)
  all_goals skip
theorem impl_all__impl_isDigit.vi {k m : Nat} (hm : k + 2 ≤ m) (a0 : ByteArray) : Im (fun r => (.bool r, [])) (impl_all__impl_isDigit.f k a0) (cv m 80 [.str a0, .cl 83 []]) := by
  obtain ⟨m, rfl⟩ : ∃ m', m = m' + 1 := ⟨m - 1, by omega⟩
  rw [show cv (m + 1) 80 _ = _ from callv_enter rfl Tryz.func80 (by kernel_rfl) rfl rfl]
  unfold impl_all__impl_isDigit.f
  repeat' first
    | (with_reducible first | exact Im.none | refine Im.ite (fun h => ?_) (fun h => ?_) | refine Im.sbind ?_)
    | ((conv => arg 3; whnf); first
      | ((with_reducible refine Im.fin ?_); exact zr)
      | ((with_reducible refine Im.anyo ?_ ?_); (next => kernel_rfl))
      | ((with_reducible refine Im.bite_t ?_ ?_); (next => exact zd))
      | ((with_reducible refine Im.must ?_ ?_); (next => exact zd))
      | ((with_reducible refine Im.bite_f ?_ ?_); (next => exact zd))
      | ((with_reducible refine Im.vget ByteArray.empty ?_ ?_ ?_); (next => exact zd); (next => exact zd))
      | ((with_reducible refine Im.vget z51 ?_ ?_ ?_); (next => exact zd); (next => exact zd))
      | ((with_reducible refine Im.vget z44 ?_ ?_ ?_); (next => exact zd); (next => exact zd))
      | ((with_reducible refine Im.vget z124 ?_ ?_ ?_); (next => exact zd); (next => exact zd))
      | ((with_reducible refine Im.vget z66 ?_ ?_ ?_); (next => exact zd); (next => exact zd))
      | ((with_reducible refine Im.vget z97 ?_ ?_ ?_); (next => exact zd); (next => exact zd))
      | ((with_reducible refine Im.vget (0 : Int) ?_ ?_ ?_); (next => exact zd); (next => exact zd))
      | ((with_reducible refine Im.vget false ?_ ?_ ?_); (next => exact zd); (next => exact zd))
      | ((with_reducible refine Im.call (impl_isDigit.vi ?_ _) ?_ (fun r hr => ?_)); (next => omega); (next => exact zr))
      | ((with_reducible refine Im.loop (S := fun s : ByteArray × Int × Int => [.str s.1, .cl 83 [], .un, .un, .un, .un, .un, .int s.2.1, .int s.2.2, .un, .un, .un, .un, .un, .un, .un, .un, .un]) (L := fun k s => impl_all__impl_isDigit.l0 k s.1 s.2.1 s.2.2) _ ?_ ?_ _ _ ⟨_, _, _⟩ _ (Nat.le_refl _) zo ?_)
         (next => intro s; rfl)
         (next =>
           intro k1 M1 ⟨x0, x7, x8⟩ hk1 hM1 ih1
           conv => arg 2; simp only [impl_all__impl_isDigit.l0]
           repeat' first
             | (with_reducible first | exact Im.none | refine Im.ite (fun h => ?_) (fun h => ?_) | refine Im.sbind ?_)
             | ((conv => arg 3; whnf); first
               | ((with_reducible refine Im.fin ?_); exact zr)
               | ((with_reducible refine Im.anyo ?_ ?_); (next => kernel_rfl))
               | ((with_reducible refine Im.bite_t ?_ ?_); (next => exact zd))
               | ((with_reducible refine Im.must ?_ ?_); (next => exact zd))
               | ((with_reducible refine Im.bite_f ?_ ?_); (next => exact zd))
               | ((with_reducible refine Im.vget ByteArray.empty ?_ ?_ ?_); (next => exact zd); (next => exact zd))
               | ((with_reducible refine Im.vget z51 ?_ ?_ ?_); (next => exact zd); (next => exact zd))
               | ((with_reducible refine Im.vget z44 ?_ ?_ ?_); (next => exact zd); (next => exact zd))
               | ((with_reducible refine Im.vget z124 ?_ ?_ ?_); (next => exact zd); (next => exact zd))
               | ((with_reducible refine Im.vget z66 ?_ ?_ ?_); (next => exact zd); (next => exact zd))
               | ((with_reducible refine Im.vget z97 ?_ ?_ ?_); (next => exact zd); (next => exact zd))
               | ((with_reducible refine Im.vget (0 : Int) ?_ ?_ ?_); (next => exact zd); (next => exact zd))
               | ((with_reducible refine Im.vget false ?_ ?_ ?_); (next => exact zd); (next => exact zd))
               | ((with_reducible refine Im.call (impl_isDigit.vi ?_ _) ?_ (fun r hr => ?_)); (next => omega); (next => exact zr))
               | ((with_reducible refine ih1 _ ⟨_, _, _⟩ _ ?_ ?_); (next => exact zo); exact zr)
               | exact zm | exact zx)
           all_goals skip)
         exact zr)
      | exact zm | exact zx)
  all_goals skip
theorem impl_isNumber.vi {k m : Nat} (hm : k + 3 ≤ m) (a0 : ByteArray) : Im (fun r => (.bool r, [])) (impl_isNumber.f k a0) (cv m 132 [.str a0]) := by
  obtain ⟨m, rfl⟩ : ∃ m', m = m' + 1 := ⟨m - 1, by omega⟩
  rw [show cv (m + 1) 132 _ = _ from callv_enter rfl Tryz.func132 (by kernel_rfl) rfl rfl]
  unfold impl_isNumber.f
  repeat' first
    | (with_reducible first | exact Im.none | refine Im.ite (fun h => ?_) (fun h => ?_) | refine Im.sbind ?_)
    | ((conv => arg 3; whnf); first
      | ((with_reducible refine Im.fin ?_); exact zr)
      | ((with_reducible refine Im.anyo ?_ ?_); (next => kernel_rfl))
      | ((with_reducible refine Im.bite_t ?_ ?_); (next => exact zd))
      | ((with_reducible refine Im.must ?_ ?_); (next => exact zd))
      | ((with_reducible refine Im.bite_f ?_ ?_); (next => exact zd))
      | ((with_reducible refine Im.vget ByteArray.empty ?_ ?_ ?_); (next => exact zd); (next => exact zd))
      | ((with_reducible refine Im.vget z51 ?_ ?_ ?_); (next => exact zd); (next => exact zd))
      | ((with_reducible refine Im.vget z44 ?_ ?_ ?_); (next => exact zd); (next => exact zd))
      | ((with_reducible refine Im.vget z124 ?_ ?_ ?_); (next => exact zd); (next => exact zd))
      | ((with_reducible refine Im.vget z66 ?_ ?_ ?_); (next => exact zd); (next => exact zd))
      | ((with_reducible refine Im.vget z97 ?_ ?_ ?_); (next => exact zd); (next => exact zd))
      | ((with_reducible refine Im.vget (0 : Int) ?_ ?_ ?_); (next => exact zd); (next => exact zd))
      | ((with_reducible refine Im.vget false ?_ ?_ ?_); (next => exact zd); (next => exact zd))
      | ((with_reducible refine Im.call (impl_all__impl_isDigit.vi ?_ _) ?_ (fun r hr => ?_)); (next => omega); (next => exact zr))
      | exact zm | exact zx)
  all_goals skip
theorem impl_within.vi {m : Nat} (hm : 1 ≤ m) (a0 : Int) (a1 : Int) (a2 : Int) : Im (fun r => (.bool r, [])) (impl_within.f a0 a1 a2) (cv m 95 [.int a0, .int a1, .int a2]) := by
  obtain ⟨m, rfl⟩ : ∃ m', m = m' + 1 := ⟨m - 1, by omega⟩
  rw [show cv (m + 1) 95 _ = _ from callv_enter rfl Tryz.func95 (by kernel_rfl) rfl rfl]
  unfold impl_within.f
  repeat' first
    | (with_reducible first | exact Im.none | refine Im.ite (fun h => ?_) (fun h => ?_) | refine Im.sbind ?_)
    | ((conv => arg 3; whnf); first
      | ((with_reducible refine Im.fin ?_); exact zr)
      | ((with_reducible refine Im.anyo ?_ ?_); (next => kernel_rfl))
      | ((with_reducible refine Im.bite_t ?_ ?_); (next => exact zd))
      | ((with_reducible refine Im.must ?_ ?_); (next => exact zd))
      | ((with_reducible refine Im.bite_f ?_ ?_); (next => exact zd))
      | ((with_reducible refine Im.vget ByteArray.empty ?_ ?_ ?_); (next => exact zd); (next => exact zd))
      | ((with_reducible refine Im.vget z51 ?_ ?_ ?_); (next => exact zd); (next => exact zd))
      | ((with_reducible refine Im.vget z44 ?_ ?_ ?_); (next => exact zd); (next => exact zd))
      | ((with_reducible refine Im.vget z124 ?_ ?_ ?_); (next => exact zd); (next => exact zd))
      | ((with_reducible refine Im.vget z66 ?_ ?_ ?_); (next => exact zd); (next => exact zd))
      | ((with_reducible refine Im.vget z97 ?_ ?_ ?_); (next => exact zd); (next => exact zd))
      | ((with_reducible refine Im.vget (0 : Int) ?_ ?_ ?_); (next => exact zd); (next => exact zd))
      | ((with_reducible refine Im.vget false ?_ ?_ ?_); (next => exact zd); (next => exact zd))
      | exact zm | exact zx)
  all_goals skip
end Go.Proofs.YteldcmniknocpaaGreatDoor.VI

end
