/- A part of the proof that the law FnSort answers true at every input that its row speaks of. Conditions: the row's own. -/
import Derived.Test.YtcfeihimmboghaaGreatDoorMFnSort6
section
namespace Go.Proofs.YtcfeihimmboghaaGreatDoor.VI
open Go Go.RowKit
set_option linter.unusedVariables false
set_option linter.unusedSimpArgs false
section
variable {R : Type} (C : Cx)
def vqu (o : Oper) (rd : Operand → VV) (gb : Nat → VV) (val : VV → Option R) : Option R := match o.op with
  | .move x => val (rd x)
  | .pick c a b => match rd c with
    | .s (.bool t) => bite t (val (rd a)) (val (rd b))
    | _ => none
  | .unOp op _ x => match vun op (rd x) with
    | some v => val (.s v)
    | none => none
  | .binOp op t x y _ => match vbin (isBool C t) op (rd x) (rd y) with
    | some (b, v) => must b (val (.s v))
    | none => none
  | .load ty x => match C.ti ty with
    | none => none
    | some i => match rd x with
      | .vw cs => match vload i cs 0 with
        | some v => val v
        | none => none
      | .pt t off => match gb t with
        | .bx cs => (match vload i cs off with
            | some v => val v
            | none => none)
        | _ => none
      | _ => none
  | .nilCheck x => match rd x with
    | .pt t off => val (.pt t off)
    | _ => none
  | .fieldAddr st x f => match C.ti st with
    | some i => match i.k with
      | .agg fs => match fs[f]? with
        | some (off, sz) => if sz = 0 then none else match rd x with
          | .pt t o => val (.pt t (o + off))
          | .vw cs => val (.vw (cs.drop off))
          | _ => none
        | none => none
      | _ => none
    | none => none
  | .indexAddr t x ix => match C.ti t with
    | some i => match i.k with
      | .slice e => match C.ti e with
        | some ie => match rd x, rd ix with
          | .sl xs, .s (.int _ j) => bite (decide (0 ≤ j) && decide (j < (xs.length : Int))) (vget xs j fun v => if v.cells.length = ie.sz then val (.vw v.cells) else none) none
          | .sr u n, .s (.int _ j) => bite (decide (0 ≤ j) && decide (j < (n : Int))) (val (.pe u j ie.sz)) none
          | _, _ => none
        | none => none
      | _ => none
    | none => none
  | .index t x ix => match C.ti t with
    | some i => match i.k, rd x, rd ix with
      | .str, .s (.string s), .s (.int _ j) => bite (decide (0 ≤ j) && decide (j < (s.size : Int))) (val (.byte (bt s j))) none
      | _, _, _ => none
    | none => none
  | .extract x n => match rd x with
    | .tu vs => match vs[n]? with
      | some v => val v
      | none => none
    | _ => none
  | .build t parts => match C.ti t with
    | some i => match i.k with
      | .agg _ => (match fillv i (i.zero.map liftc) (parts.toList.map fun p => (p.1, rd p.2)) with
        | some cs => val (.ag cs)
        | none => none)
      | _ => none
    | none => none
  | .buildSlice t len parts => match C.ti t with
    | some i => match i.k with
      | .slice e => match C.ti e with
        | some ie => if 0 < ie.sz ∧ len * ie.sz ≤ 16777216 then (match fills ie.sz (List.replicate len (zeroV ie)) (parts.toList.map fun p => (p.1, rd p.2)) with
          | some xs => val (.ow e ie.sz xs)
          | none => none) else none
        | none => none
      | _ => none
    | none => none
  | .makeFunc (.func f) first cap => if first.size = 0 then (match (cap.toList.map rd).all isCap with
    | true => val (.cl f (cap.toList.map rd))
    | false => none) else none
  | .convert src dst x => match C.ti src, C.ti dst with
    | some i, some j => match i.k, j.k, rd x with
      | .int _, .int k, .s (.int _ n) => val (.s (.int k (wr k n)))
      | .str, .str, .s (.string b) => val (.s (.string b))
      | .slice e, .str, .sl xs => (match C.ti e with
        | some ie => (match ie.k with
          | .int .u8 => obind (byL xs) fun l => val (.str (strOfNums l))
          | _ => none)
        | none => none)
      | _, _, _ => none
    | _, _ => none
  | .slice t x lo hi mx => match mx, C.ti t with
    | none, some i => match i.k, rd x with
      | .str, .s (.string s) => (match vbnd (lo.map rd), vbnd (hi.map rd) with
        | some l, some h => bite (bndOk s.size (l.getD 0) (h.getD s.size)) (val (.str (s.extract (l.getD 0).toNat (h.getD s.size).toNat))) none
        | _, _ => none)
      | .slice e, .sl xs => (match C.ti e, vbnd (lo.map rd), vbnd (hi.map rd) with
        | some ie, some l, some h => bite (bndOk xs.length (l.getD 0) (h.getD xs.length) && xs.all fun v => Nat.beq v.cells.length ie.sz) (val (.sl ((xs.take (h.getD xs.length).toNat).drop (l.getD 0).toNat))) none
        | _, _, _ => none)
      | _, _ => none
    | _, _ => none
  | .call c => match c.callee with
    | .builtin .len => match c.args.toList, c.argTypes.toList with
      | [x], [t] => match C.ti t with
        | some i => match i.k, rd x with
          | .str, .s (.string b) => val (.int b.size)
          | .slice _, .sl xs => val (.int xs.length)
          | .slice _, .sr _ n => val (.int n)
          | _, _ => none
        | none => none
      | _, _ => none
    | .builtin .min => match c.args.toList with
      | [x, y] => match rd x, rd y with
        | .s (.int k n), .s (.int k' n') => val (.s (.int k (if n' < n then n' else n)))
        | _, _ => none
      | _ => none
    | .value x => match rd x with
      | .cl f cap => match (c.args.toList.map rd).all drOk && drOk (.cl f cap) && (c.args.toList.map rd ++ cap).all argOk with
        | true => obind (C.call f (c.args.toList.map rd ++ cap)) fun r => (match resOk r.1 with
          | true => val r.1
          | false => none)
        | false => none
      | _ => none
    | _ => none
  | _ => none
end
section
variable {R : Type} {C : Cx} {ops : List Oper} {l : List Nat} {o : Oper} {env : Env} {K : Env → Option R}
theorem arg_dr {x : Operand} (h : drOk (rdv env x) = true) : argOf env x = rdv env x ∧ ioOf env x = [] := by
  unfold argOf ioOf
  generalize rdv env x = v at h
  cases v <;> first
    | (exact ⟨rfl, rfl⟩)
    | (simp [drOk] at h; done)
    | skip
  rename_i f cap
  refine ⟨?_, rfl⟩
  show VV.cl f (cap.map (capv env)) = VV.cl f cap
  simp only [drOk] at h
  congr 1
  conv => rhs; rw [← List.map_id cap]
  refine List.map_congr_left fun v hv => ?_
  rw [List.all_eq_true] at h
  have := h v hv
  cases v <;> simp at this
  rfl
theorem args_dr : ∀ {xs : List Operand}, (xs.map (rdv env)).all drOk = true → xs.map (argOf env) = xs.map (rdv env) ∧ xs.flatMap (ioOf env) = []
  | [], _ => ⟨rfl, rfl⟩
  | x :: r, h => by
    simp only [List.map_cons, List.all_cons, Bool.and_eq_true] at h
    obtain ⟨h1, h2⟩ := arg_dr h.1
    obtain ⟨h3, h4⟩ := args_dr h.2
    exact ⟨by rw [List.map_cons, List.map_cons, h1, h3], by rw [List.flatMap_cons, h2, h4]; rfl⟩
theorem vop_quiet (hq : quietB C ops o = true) (ha : ∀ t, o.op ≠ .alloc t) : vop C ops (some l) o env K = vqu C o (rdv env) (getB (some l) env) fun v => vput (some l) o.dst v env K := by
  cases hop : o.op with
  | move x =>
    simp only [quietB, hop] at hq
    have hfd : fd ops o.dst = false := by simpa using hq
    simp only [vop, vqu, hop, hfd, vmove]
    split
    · rename_i t
      split <;> rename_i hg <;> simp [rdv, hg, view]
    · rfl
    · rfl
  | load ty x =>
    simp only [quietB, hop] at hq
    have hfd : fd ops o.dst = false := by simpa using hq
    simp only [vop, vqu, hop, hfd]
    try rfl
  | alloc t => exact absurd hop (ha t)
  | buildSlice t len parts => simp only [vop, vqu, hop, frcL_eq]; try rfl
  | makeFunc f x y => cases f <;> simp only [vop, vqu, hop] <;> try rfl
  | call c =>
    cases hc : c.callee with
    | value x =>
      simp only [quietB, hop, hc] at hq
      simp only [vop, vqu, hop, hc]
      cases hx : rdv env x <;> try rfl
      rename_i f cap
      simp only [drArgs, List.all_cons, List.all_nil, Bool.and_true]
      cases hd : (c.args.toList.map (rdv env)).all drOk && drOk (.cl f cap)
      · rfl
      · rw [Bool.and_eq_true] at hd
        obtain ⟨e1, e2⟩ := args_dr hd.1
        have e3 : cap.map (capv env) = cap := by
          conv => rhs; rw [← List.map_id cap]
          refine List.map_congr_left fun v hv => ?_
          have := hd.2
          simp only [drOk, List.all_eq_true] at this
          have := this v hv
          cases v <;> simp at this
          rfl
        simp only [argv_eq, frcL_eq, capK_eq, e1, e2, e3, vcall, nodupB, List.isEmpty_nil, Bool.true_or, Bool.and_true, Bool.true_and, backsK]
        try rfl
    | invoke x m => simp only [vop, vqu, hop, hc]
    | builtin b => cases b <;> simp [quietB, hop, hc] at hq <;> simp only [vop, vqu, hop, hc] <;> try rfl
  | _ => first
    | (simp only [vop, vqu, hop]; done)
    | (simp only [vop, vqu, hop]; rfl)
    | (simp [quietB, hop] at hq; done)
theorem vqu_val {rd : Operand → VV} {gb : Nat → VV} {val : VV → Option R} {r : R} (h : vqu C o rd gb val = some r) : ∃ v, val v = some r ∧ ∀ {R' : Type} (val' : VV → Option R'), vqu C o rd gb val' = val' v := by
  unfold vqu at h ⊢
  cases hop : o.op with
  | move x => rw [hop] at h; exact ⟨_, h, fun {R'} _ => rfl⟩
  | pick c x y =>
    rw [hop] at h
    simp only at h ⊢
    split at h
    · rename_i t ht
      rcases bite_some h with ⟨rfl, h⟩ | ⟨rfl, h⟩ <;> exact ⟨_, h, fun {R'} _ => rfl⟩
    · cases h
  | binOp op t x y u =>
    rw [hop] at h
    simp only at h ⊢
    split at h
    · rename_i b v hv
      obtain ⟨hb, h⟩ := must_some h
      subst hb
      exact ⟨_, h, fun {R'} _ => rfl⟩
    · cases h
  | indexAddr t x ix =>
    rw [hop] at h
    simp only at h ⊢
    split at h
    case h_2 => cases h
    split at h
    case h_2 => cases h
    split at h
    case h_2 => cases h
    split at h
    · obtain ⟨hb, h⟩ := bite_none h
      obtain ⟨v, hv, h⟩ := vget_some h
      split at h
      · rename_i hl
        refine ⟨_, h, fun {R'} val' => ?_⟩
        simp only [hb, bite, vget, hv, hl, if_pos]
      · cases h
    · obtain ⟨hb, h⟩ := bite_none h
      exact ⟨_, h, fun {R'} val' => by simp only [hb, bite]⟩
    · cases h
  | index t x ix =>
    rw [hop] at h
    simp only at h ⊢
    split at h
    case h_2 => cases h
    split at h
    · obtain ⟨hb, h⟩ := bite_none h
      exact ⟨_, h, fun {R'} val' => by simp only [hb, bite]⟩
    · cases h
  | slice t x lo hi mx =>
    rw [hop] at h
    simp only at h ⊢
    split at h
    case h_2 => cases h
    split at h
    · split at h
      · obtain ⟨hb, h⟩ := bite_none h
        exact ⟨_, h, fun {R'} val' => by simp only [hb, bite]⟩
      · cases h
    · split at h
      · obtain ⟨hb, h⟩ := bite_none h
        exact ⟨_, h, fun {R'} val' => by simp only [hb, bite]⟩
      · cases h
    · cases h
  | makeFunc f x y =>
    rw [hop] at h
    cases f <;> simp only [reduceCtorEq] at h ⊢
    split at h
    · rename_i h0
      split at h
      · rename_i h1; exact ⟨_, h, fun {R'} val' => by simp only [h0, if_pos]⟩
      · cases h
    · cases h
  | call c =>
    rw [hop] at h
    simp only at h ⊢
    cases hc : c.callee with
    | value x =>
      rw [hc] at h
      simp only at h ⊢
      split at h
      case h_2 => cases h
      split at h
      case h_2 => cases h
      rename_i hk
      unfold obind at h ⊢
      split at h
      · rename_i q hq
        simp only at h ⊢
        split at h
        · rename_i hr; exact ⟨_, h, fun {R'} val' => by simp only [hr]⟩
        · cases h
      · cases h
    | invoke x m => rw [hc] at h; cases h
    | builtin b =>
      rw [hc] at h
      cases b <;> simp only [reduceCtorEq] at h ⊢
      · split at h
        case h_2 => cases h
        split at h
        case h_2 => cases h
        split at h <;> first
          | (cases h; done)
          | exact ⟨_, h, fun {R'} _ => rfl⟩
      · split at h
        case h_2 => cases h
        split at h
        case h_2 => cases h
        exact ⟨_, h, fun {R'} _ => rfl⟩
  | _ =>
    rw [hop] at h
    simp only [reduceCtorEq] at h ⊢ <;> (repeat' (split at h)) <;> first
      | (cases h; done)
      | (obtain ⟨l, hl, h2⟩ := obind_some h; refine ⟨_, h2, fun {R'} val' => ?_⟩; rw [hl]; first | rfl | (simp [*, obind]; done))
      | (refine ⟨_, h, fun {R'} val' => ?_⟩; first | rfl | (simp only [*]; done) | (simp [*]; done))
theorem map_rd {rd rd' : Operand → VV} {xs : List Operand} (h : ∀ x ∈ xs, rd' x = rd x) : xs.map rd' = xs.map rd := List.map_congr_left h
theorem omap_rd {rd rd' : Operand → VV} {x : Option Operand} (h : ∀ y, x = some y → rd' y = rd y) : x.map rd' = x.map rd := by
  cases x with
  | none => rfl
  | some y => rw [Option.map_some, Option.map_some, h y rfl]
theorem vqu_congr {rd rd' : Operand → VV} {gb gb' : Nat → VV} {val : VV → Option R} (h : ∀ x ∈ o.op.operands.toList, rd' x = rd x) (hg : ∀ ty x, o.op = .load ty x → ∀ t off, rd x = .pt t off → gb' t = gb t) : vqu C o rd' gb' val = vqu C o rd gb val := by
  unfold vqu
  cases hop : o.op with
  | load t x =>
    rw [hop] at h
    simp only
    rw [h x (by simp [Op.operands])]
    cases C.ti t with
    | none => rfl
    | some i =>
      cases hx : rd x <;> try rfl
      rename_i u off
      simp only
      rw [hg t x hop u off hx]
  | build t parts =>
    rw [hop] at h
    have e : (parts.toList.map fun p => (p.1, rd' p.2)) = parts.toList.map fun p => (p.1, rd p.2) := List.map_congr_left fun p hp => by
      rw [h p.2 (by simp [Op.operands]; exact ⟨p.1, by simpa using hp⟩)]
    simp only [e]
  | buildSlice t n parts =>
    rw [hop] at h
    have e : (parts.toList.map fun p => (p.1, rd' p.2)) = parts.toList.map fun p => (p.1, rd p.2) := List.map_congr_left fun p hp => by
      rw [h p.2 (by simp [Op.operands]; exact ⟨p.1, by simpa using hp⟩)]
    simp only [e]
  | makeFunc f x y =>
    rw [hop] at h
    have e : y.toList.map rd' = y.toList.map rd := map_rd fun z hz => h z (by simp [Op.operands]; exact .inr (by simpa using hz))
    cases f <;> simp only [e]
  | slice t x lo hi mx =>
    rw [hop] at h
    have e1 := h x (by simp [Op.operands])
    have e2 : lo.map rd' = lo.map rd := omap_rd fun y hy => h y (by subst hy; simp [Op.operands])
    have e3 : hi.map rd' = hi.map rd := omap_rd fun y hy => h y (by subst hy; simp [Op.operands])
    simp only [e1, e2, e3]
  | call c =>
    rw [hop] at h
    cases hc : c.callee with
    | value x =>
      have e1 := h x (by simp [Op.operands, Call.operands, hc])
      have e2 : c.args.toList.map rd' = c.args.toList.map rd := map_rd fun z hz => h z (by simp [Op.operands, Call.operands, hc]; exact .inr (by simpa using hz))
      simp only [hc, e1, e2]
    | invoke x m => simp only [hc]
    | builtin b =>
      have e : ∀ z ∈ c.args.toList, rd' z = rd z := fun z hz => h z (by simp [Op.operands, Call.operands, hc]; simpa using hz)
      cases b <;> simp only [hc]
      · split
        · rename_i x t hx ht
          rw [e x (by rw [hx]; simp)]
        · rfl
      · split
        · rename_i x y hx
          rw [e x (by rw [hx]; simp), e y (by rw [hx]; simp)]
        · rfl
  | binOp op t x y u =>
    rw [hop] at h
    simp only [h x (by simp [Op.operands]), h y (by simp [Op.operands])]
  | pick c x y =>
    rw [hop] at h
    simp only [h c (by simp [Op.operands]), h x (by simp [Op.operands]), h y (by simp [Op.operands])]
  | indexAddr t x y =>
    rw [hop] at h
    simp only [h x (by simp [Op.operands]), h y (by simp [Op.operands])]
  | index t x y =>
    rw [hop] at h
    simp only [h x (by simp [Op.operands]), h y (by simp [Op.operands])]
  | move x => rw [hop] at h; simp only [h x (by simp [Op.operands])]
  | unOp op t x => rw [hop] at h; simp only [h x (by simp [Op.operands])]
  | nilCheck x => rw [hop] at h; simp only [h x (by simp [Op.operands])]
  | fieldAddr t x f => rw [hop] at h; simp only [h x (by simp [Op.operands])]
  | extract x n => rw [hop] at h; simp only [h x (by simp [Op.operands])]
  | convert s d x => rw [hop] at h; simp only [h x (by simp [Op.operands])]
  | _ => rfl
end
theorem befores_len : ∀ (l : List Oper) (acc : List Nat), (befores l acc).length = acc.length + l.length
  | [], acc => rfl
  | o :: r, acc => by rw [befores, befores_len r]; simp; omega
theorem befores_old : ∀ (l : List Oper) (acc : List Nat) (i : Nat), i < acc.length → (befores l acc)[i]? = acc[i]?
  | [], acc, i, h => rfl
  | o :: r, acc, i, h => by rw [befores, befores_old r _ i (by simp; omega), List.getElem?_append_left h]
def edgeBits (acc : List Nat) (o : Oper) : Nat := o.after.toList.foldl (fun s e => match Region.binds .any e with
    | true => s ||| (1 <<< e.on) ||| acc.getD e.on 0
    | false => s) 0
theorem fold_bits (acc : List Nat) (j : Nat) : ∀ (es : List Edge) (s : Nat), (es.foldl (fun s e => match Region.binds .any e with
    | true => s ||| (1 <<< e.on) ||| acc.getD e.on 0
    | false => s) s).testBit j = true → s.testBit j = true ∨ ∃ e ∈ es, Region.binds .any e = true ∧ (e.on = j ∨ (acc.getD e.on 0).testBit j = true)
  | [], s, h => .inl h
  | e :: es, s, h => by
    rw [List.foldl_cons] at h
    rcases fold_bits acc j es _ h with h | ⟨e', he, h1, h2⟩
    · split at h
      · rename_i hb
        rw [Nat.testBit_or, Nat.testBit_or, Bool.or_eq_true, Bool.or_eq_true] at h
        rcases h with (h | h) | h
        · exact .inl h
        · refine .inr ⟨e, by simp, hb, .inl ?_⟩
          rw [Nat.one_shiftLeft, Nat.testBit_two_pow] at h
          simpa using h
        · exact .inr ⟨e, by simp, hb, .inr h⟩
      · exact .inl h
    · exact .inr ⟨e', by simp [he], h1, h2⟩
theorem befores_at : ∀ (l : List Oper) (acc : List Nat) (i : Nat) (o : Oper), l[i]? = some o → (befores l acc)[acc.length + i]? = some (edgeBits ((befores l acc).take (acc.length + i)) o)
  | [], acc, i, o, h => by simp at h
  | x :: r, acc, 0, o, h => by
    simp at h; subst h
    rw [befores, Nat.add_zero, befores_old r _ acc.length (by simp)]
    have ht : (befores r (acc ++ [edgeBits acc x])).take acc.length = acc := by
      refine List.ext_getElem? fun k => ?_
      rw [List.getElem?_take]
      split
      · rw [befores_old r _ k (by simp; omega), List.getElem?_append_left (by omega)]
      · rw [List.getElem?_eq_none (by omega)]
    show (acc ++ [edgeBits acc x])[acc.length]? = _
    simp only [List.getElem?_concat_length, Option.some.injEq]
    show _ = edgeBits ((befores r (acc ++ [edgeBits acc x])).take acc.length) x
    rw [ht]
  | x :: r, acc, i + 1, o, h => by
    have := befores_at r (acc ++ [edgeBits acc x]) i o (by simpa using h)
    rw [befores]
    simp only [List.length_append, List.length_cons, List.length_nil] at this
    rw [show acc.length + (i + 1) = acc.length + (0 + 1) + i by omega]
    exact this
theorem before_edge {l : List Oper} {i j : Nat} {o : Oper} (h : l[i]? = some o) (hb : ((befores l []).getD i 0).testBit j = true) : ∃ e ∈ o.after.toList, Region.binds .any e = true ∧ (e.on = j ∨ (e.on < i ∧ ((befores l []).getD e.on 0).testBit j = true)) := by
  have h1 := befores_at l [] i o h
  simp only [List.length_nil, Nat.zero_add] at h1
  rw [List.getD_eq_getElem?_getD, h1, Option.getD_some] at hb
  rcases fold_bits _ j o.after.toList 0 hb with h2 | ⟨e, he, h2, h3⟩
  · simp at h2
  · refine ⟨e, he, h2, h3.imp id fun h3 => ?_⟩
    rw [List.getD_eq_getElem?_getD, List.getElem?_take] at h3
    split at h3
    · rename_i hlt; exact ⟨hlt, by rw [List.getD_eq_getElem?_getD]; exact h3⟩
    · simp at h3
def Down (l : List Oper) (L : Array Bool) : Prop := ∀ (i : Nat) o, l[i]? = some o → L.getD i false = true → ∀ e ∈ o.after.toList, Region.binds .any e = true → L.getD e.on false = true
theorem before_listed {l : List Oper} {L : Array Bool} (hd : Down l L) : ∀ (i : Nat) (o : Oper), l[i]? = some o → (∀ e ∈ o.after.toList, Region.binds .any e = true → L.getD e.on false = true) → ∀ j, ((befores l []).getD i 0).testBit j = true → L.getD j false = true := by
  intro i
  induction i using Nat.strongRecOn with
  | _ i ih =>
    intro o ho hr j hj
    obtain ⟨e, he, hb, h⟩ := before_edge ho hj
    have hl := hr e he hb
    rcases h with rfl | ⟨hlt, h⟩
    · exact hl
    · have hi : i < l.length := (List.getElem?_eq_some_iff.1 ho).1
      have ho' : l[e.on]? = some (l[e.on]'(by omega)) := List.getElem?_eq_getElem (by omega)
      exact ih e.on hlt _ ho' (hd e.on _ ho' hl) j h
theorem quietN_spec (bs : List Nat) : ∀ n, quietN bs n ≤ n ∧ ∀ j, quietN bs n ≤ j → j < n → bs.getD j 0 = 2 ^ j - 1
  | 0 => ⟨Nat.le_refl _, fun j _ h => absurd h (Nat.not_lt_zero _)⟩
  | n + 1 => by
    obtain ⟨h1, h2⟩ := quietN_spec bs n
    rw [quietN]
    split
    · rename_i hb
      refine ⟨by omega, fun j hj hn => ?_⟩
      by_cases e : j = n
      · subst e; exact Nat.eq_of_beq_eq_true hb
      · exact h2 j hj (by omega)
    · exact ⟨Nat.le_refl _, fun j hj hn => by omega⟩
theorem ready_iff {l : List Oper} {L : Array Bool} {i : Nat} : i ∈ Region.ready .any l.toArray L ↔ ∃ o, l[i]? = some o ∧ L.getD i true = false ∧ ∀ e ∈ o.after.toList, Region.binds .any e = true → L.getD e.on false = true := by
  unfold Region.ready
  simp only [List.mem_filter, List.mem_range, Bool.and_eq_true, Bool.not_eq_true', List.size_toArray, List.getElem?_toArray]
  constructor
  · rintro ⟨h1, h2, h3⟩
    refine ⟨l[i], List.getElem?_eq_getElem h1, h2, fun e he hb => ?_⟩
    rw [List.getElem?_eq_getElem h1] at h3
    simp only [Option.map_some, Option.getD_some, Array.all_eq_true'] at h3
    have := h3 e (by simpa using he)
    rw [hb] at this
    simpa using this
  · rintro ⟨o, h1, h2, h3⟩
    refine ⟨(List.getElem?_eq_some_iff.1 h1).1, h2, ?_⟩
    rw [h1]
    simp only [Option.map_some, Option.getD_some, Array.all_eq_true']
    intro e he
    cases hb : Region.binds .any e
    · rfl
    · simpa using h3 e (by simpa using he) hb
section
variable {P : Program} {NG : Nat} {GW : World → Prop} {io : List Nat} {w0 : World} {pd0 : Nat → Nat → Prop} {G : Gh} {env env' : Env} {a : Act} {w : World}
variable {R : Type} {K : Env → Option R} {r : R} {Q : Exit → Act → World → Prop} {o : Oper} {C : Cx} {ops : List Oper} {al : List Nat}
structure Agree (ops : List Oper) (al : List Nat) (o : Oper) (env env' : Env) : Prop where
  see : ∀ t ∈ o.looksAt ops.toArray, get env' t = get env t
  box : ∀ t cs, t ∉ al → get env t = .bx cs → get env' t = .bx cs
  dst : ∀ d, o.dst = some d → plain (get env' d) = true
  ref : ∀ d ∈ al, env'.any (refersD d) = false
theorem look_op {t : Nat} (h : Operand.tmp t ∈ o.op.operands.toList) : t ∈ o.looksAt ops.toArray := by
  unfold Oper.looksAt
  refine List.mem_append_left _ (List.mem_filterMap.2 ⟨_, h, rfl⟩)
theorem look_guard {j : Nat} {want : Bool} {p : Oper} {t : Nat} (hg : o.guard = some (j, want)) (hj : ops[j]? = some p) (ht : p.dst = some t) : t ∈ o.looksAt ops.toArray := by
  unfold Oper.looksAt
  refine List.mem_append_right _ ?_
  simp [hg, hj, ht]
theorem Agree.rd (h : Agree ops al o env env') : ∀ x ∈ o.op.operands.toList, rdv env' x = rdv env x := by
  intro x hx
  cases x with
  | tmp t => simp only [rdv]; rw [h.see t (look_op hx)]
  | _ => rfl
theorem vput_ok {dst : Option Nat} {v : VV} (h : ∃ r : R, vput (some al) dst v env K = some r) : (∀ d, dst = some d → plain (get env d) = true ∧ plain v = true ∧ al.all (fun t => !(refersD t v)) = true) := by
  obtain ⟨r, h⟩ := h
  intro d hd
  subst hd
  simp only [vput] at h
  split at h
  · rename_i hp; rw [Bool.and_eq_true, Bool.and_eq_true] at hp; exact hp
  · cases h
theorem vput_go {R' : Type} {K' : Env → Option R'} {dst : Option Nat} {v : VV} (h1 : ∀ d, dst = some d → plain (get env d) = true) (h2 : ∀ d, dst = some d → plain v = true ∧ al.all (fun t => !(refersD t v)) = true) : vput (some al) dst v env K' = K' (put dst v env) := by
  cases dst with
  | none => rfl
  | some d =>
    simp only [vput]
    rw [h1 d rfl, (h2 d rfl).1, (h2 d rfl).2]
    simp only [Bool.and_self, vset_eq]
    rfl
theorem nth_set : ∀ (env : Env) (d t : Nat) (v : VV), nth (env.set d v) t = if d = t ∧ d < env.length then v else nth env t
  | [], d, t, v => by simp [nth]
  | a :: r, 0, 0, v => by simp [nth]
  | a :: r, 0, t + 1, v => by simp [nth]
  | a :: r, d + 1, 0, v => by simp [nth]
  | a :: r, d + 1, t + 1, v => by simp only [List.set_cons_succ, nth]; rw [nth_set r d t v]; simp
def put2 (sv : Option (Nat × VV)) (env : Env) : Env := match sv with
  | some p => env.set p.1 p.2
  | none => env
def QStep (P : Program) (NG : Nat) (GW : World → Prop) (io : List Nat) (w0 : World) (pd0 : Nat → Nat → Prop) (Q : Exit → Act → World → Prop) (ops : List Oper) (al : List Nat) (i : Nat) (o : Oper) (env : Env) (v : VV) (sv : Option (Nat × VV)) : Prop :=
  (∀ d, o.dst = some d → plain (get env d) = true) ∧ (∀ t ∈ al, o.dst ≠ none → refersD t v = false) ∧ (∀ cs, v = .bx cs → ∀ d, o.dst = some d → d ∈ al) ∧ (∀ e z xs, v = .mr e z xs → o.dst = none) ∧ (∀ t s, sv = some (t, s) → sdOf ops o = some t ∧ plain (get env t) = true ∧ ∃ xs, s = .sl xs) ∧
    ∀ (env' : Env) (G : Gh) (a : Act) (w : World), Agree ops al o env env' → Sim NG GW io w0 pd0 G env' a w → ∀ Nk : Act → World → Prop, (∀ G' a' w', Sim NG GW io w0 pd0 G' (put o.dst v (put2 sv env')) a' w' → Nk a' w') → wpOp P ops.toArray Q i Nk a w
theorem seen_agree (h : Agree ops al o env env') {j : Nat} {want : Bool} (hg : o.guard = some (j, want)) : seen ops env' j = seen ops env j := by
  unfold seen
  cases hj : ops[j]? with
  | none => rfl
  | some p =>
    simp only
    cases ht : p.dst with
    | none => rfl
    | some t => simp only [h.see t (look_guard hg hj ht)]
theorem quiet_step (hti : TIok P C.ti) (gws : ∀ w w', GW w → Below NG w w' → GW w') (hC : CallOk P NG GW C.call) (hq : quietB C ops o = true) (hal : ∀ d t, o.op = .alloc t → o.dst = some d → d ∈ al) {i : Nat} (hi : ops[i]? = some o) {rest : List Oper} (h : vops C ops (some al) (o :: rest) env K = some r) :
    ∃ v sv, vops C ops (some al) rest (put o.dst v (put2 sv env)) K = some r ∧ QStep P NG GW io w0 pd0 Q ops al i o env v sv := by
  have run : ∀ h : vop C ops (some al) o env (fun env' => vops C ops (some al) rest env' K) = some r, ∃ v, vops C ops (some al) rest (put o.dst v env) K = some r ∧ (∀ d, o.dst = some d → plain (get env d) = true) ∧ (∀ t ∈ al, o.dst ≠ none → refersD t v = false) ∧ (∀ cs, v = .bx cs → ∀ d, o.dst = some d → d ∈ al) ∧ (∀ e z xs, v = .mr e z xs → o.dst = none) ∧
      ∀ (env' : Env), Agree ops al o env env' → ∀ {R' : Type} (K' : Env → Option R'), vop C ops (some al) o env' K' = K' (put o.dst v env') := by
    intro h
    by_cases ha : ∃ t, o.op = .alloc t
    · obtain ⟨t, hop⟩ := ha
      simp only [vop, hop] at h
      split at h
      case h_2 => cases h
      rename_i ti d hti' hd
      have hdm := hal d t hop hd
      simp only [vnew] at h
      split at h
      case h_2 => cases h
      rename_i hc
      rw [Bool.or_eq_false_iff] at hc
      rw [vset_eq] at h
      refine ⟨.bx (ti.zero.map zcell), by rw [hd]; exact h, ?_, fun _ _ _ => rfl, ?_, fun _ _ _ he => VV.noConfusion he, ?_⟩
      · intro d' hd'; rw [hd] at hd'; cases hd'; simpa using hc.2
      · intro cs _ d' hd'; rw [hd] at hd'; cases hd'; exact hdm
      · intro env' hA R' K'
        simp only [vop, hop, hti', hd, vnew]
        rw [hA.ref d hdm, hA.dst d hd]
        simp only [Bool.not_true, Bool.or_self, vset_eq]
        rfl
    · have ha' : ∀ t, o.op ≠ .alloc t := fun t e => ha ⟨t, e⟩
      rw [vop_quiet hq ha'] at h
      obtain ⟨v, hv, huni⟩ := vqu_val h
      have hok := vput_ok ⟨r, hv⟩
      have hK := vput_some hv
      refine ⟨v, hK, fun d hd => (hok d hd).1, fun t ht hne => ?_, fun cs e d hd => ?_, fun e z xs he => ?_, fun env' hA R' K' => ?_⟩
      · cases hd : o.dst with
        | none => exact absurd hd hne
        | some d =>
          have := (hok d hd).2.2
          rw [List.all_eq_true] at this
          simpa using this t ht
      · have := (hok d hd).2.1
        rw [e] at this; cases this
      · cases hd : o.dst with
        | none => rfl
        | some d =>
          have := (hok d hd).2.1
          rw [he] at this; cases this
      · rw [vop_quiet hq ha', vqu_congr (rd := rdv env) (gb := getB (some al) env) hA.rd ?_]
        · rw [huni]
          exact vput_go hA.dst fun d hd => (hok d hd).2
        · intro ty x hop t off hx
          have hb : ∃ cs, getB (some al) env t = .bx cs := by
            simp only [vqu, hop] at h
            split at h
            · cases h
            · rw [hx] at h
              simp only at h
              split at h
              · exact ⟨_, by assumption⟩
              · cases h
          obtain ⟨cs, hcs⟩ := hb
          rw [hcs]
          have hg := getB_bx hcs
          unfold getB at hcs ⊢
          simp only at hcs ⊢
          split at hcs
          · cases hcs
          · rename_i hm
            exact hA.box t cs (fun hmem => by
              have := List.any_eq_false.1 hm t hmem
              simp at this) hg
  have mk : ∀ v, (∀ (env' : Env), Agree ops al o env env' → ∀ {R' : Type} (K' : Env → Option R'), vop C ops (some al) o env' K' = K' (put o.dst v env')) → ∀ (env' : Env) (G : Gh) (a : Act) (w : World), Agree ops al o env env' → Sim NG GW io w0 pd0 G env' a w → ∀ Nk : Act → World → Prop, (∀ G' a' w', Sim NG GW io w0 pd0 G' (put o.dst v env') a' w' → Nk a' w') → o.wp P a w Nk Q := by
    intro v hv env' G a w hA hs Nk hNk
    have := hv env' hA (R' := Env) some
    refine vop_sound (r := put o.dst v env') (K := some) hti gws hC hs (fun G' e' a' w' hs' he => ?_) this
    cases he
    exact hNk G' a' w' hs'
  rw [vops] at h
  split at h
  · rename_i hg
    obtain ⟨v, h1, h2, h3, h4, h5, h6⟩ := run h
    refine ⟨v, none, h1, h2, h3, h4, h5, fun t s he => (by cases he), fun env' G a w hA hs Nk hNk => ?_⟩
    unfold wpOp
    rw [show ops.toArray[i]? = some o by simpa using hi]
    simp only
    rw [if_pos (by simp [Region.wanted, hg])]
    exact .inl (mk v h6 env' G a w hA hs Nk hNk)
  · rename_i j want hg
    have skip : ∀ h : vput (some al) o.dst (.s undef) env (fun env' => vops C ops (some al) rest env' K) = some r, (∀ (env' : Env) (G : Gh) (a : Act) (w : World), Agree ops al o env env' → Sim NG GW io w0 pd0 G env' a w → ¬ Region.wanted o (yielded ops.toArray a.tmps) = true) → ∃ v sv, vops C ops (some al) rest (put o.dst v (put2 sv env)) K = some r ∧ QStep P NG GW io w0 pd0 Q ops al i o env v sv := by
      intro h hw
      have hok := vput_ok ⟨r, h⟩
      refine ⟨.s undef, none, vput_some h, fun d hd => (hok d hd).1, fun _ _ _ => rfl, fun cs e => VV.noConfusion e, fun _ _ _ e => VV.noConfusion e, fun t s he => (by cases he), fun env' G a w hA hs Nk hNk => ?_⟩
      unfold wpOp
      rw [show ops.toArray[i]? = some o by simpa using hi]
      simp only
      rw [if_neg (hw env' G a w hA hs)]
      exact hNk G _ _ (hs.put o.dst fun d _ => VR.slot (VR.of_dr (.s _)) d)
    split at h
    · rename_i b hb
      have hy : ∀ (env' : Env) (G : Gh) (a : Act) (w : World), Agree ops al o env env' → Sim NG GW io w0 pd0 G env' a w → yielded ops.toArray a.tmps j = some b := fun env' G a w hA hs => seen_ok hs (ops := ops.toArray) (by rw [← hb]; exact seen_agree hA hg)
      rcases bite_some h with ⟨hbw, h⟩ | ⟨hbw, h⟩
      · obtain ⟨v, h1, h2, h3, h4, h5, h6⟩ := run h
        refine ⟨v, none, h1, h2, h3, h4, h5, fun t s he => (by cases he), fun env' G a w hA hs Nk hNk => ?_⟩
        unfold wpOp
        rw [show ops.toArray[i]? = some o by simpa using hi]
        simp only
        rw [if_pos (by simp only [Region.wanted, hg, hy env' G a w hA hs]; simpa using hbw)]
        exact .inl (mk v h6 env' G a w hA hs Nk hNk)
      · exact skip h fun env' G a w hA hs => by simp only [Region.wanted, hg, hy env' G a w hA hs]; simpa using hbw
    · rename_i hb
      refine skip h fun env' G a w hA hs => ?_
      have hy : yielded ops.toArray a.tmps j = none := seen_ok hs (ops := ops.toArray) (by rw [← hb]; exact seen_agree hA hg)
      simp [Region.wanted, hg, hy]
    · cases h
theorem get_set_ne {d t : Nat} {s : VV} (h : t ≠ d) : get (env.set t s) d = get env d := by
  unfold get
  rw [nth_set, if_neg (fun e => h e.1)]
def vapp (C : Cx) (c : Call) (a b : VV) : Option (VV × VV) := match c.argTypes.toList with
  | [t, t'] => if Nat.beq t t' then (match C.ti t with
      | some i => (match i.k with
        | .slice e => (match C.ti e with
          | some ie => if 0 < ie.sz ∧ 0 < ie.bytes then (match a, b with
            | .ow e' z xs, .sl ys => if Nat.beq e' e && Nat.beq z ie.sz then bite (decide ((xs.length + ys.length) * ie.bytes ≤ 140737488355328) && ys.all fun v => Nat.beq v.cells.length ie.sz) (some (.sl xs, .ow e ie.sz (xs ++ ys))) none else none
            | .nl, .sl ys => bite (decide (ys.length * ie.bytes ≤ 140737488355328) && ys.all fun v => Nat.beq v.cells.length ie.sz) (some (.sl [], .ow e ie.sz ys)) none
            | _, _ => none) else none
          | none => none)
        | _ => none)
      | none => none) else none
  | _ => none
theorem app_mem {c : Call} {l : List Operand} (hc : c.callee = .builtin .append) (ha : c.args.toList = l) {x : Operand} (hx : x ∈ l) : x ∈ (Op.call c).operands.toList := by
  have h1 : x ∈ c.args := by rw [← Array.mem_toList_iff, ha]; exact hx
  simp [Op.operands, Call.operands, hc, h1]
theorem bite_obind {α β : Type} {b : Bool} {p : α} {f : α → Option β} : obind (bite b (some p) none) f = bite b (f p) none := by cases b <;> rfl
theorem vop_app {R' : Type} {K' : Env → Option R'} {c : Call} {u : Nat} {y : Operand} (hop : o.op = .call c) (hc : c.callee = .builtin .append) (ha : c.args.toList = [.tmp u, y]) {dr : Option (List Nat)} : vop C ops dr o env K' = obind (vapp C c (get env u) (rdv env y)) fun p => vset u p.1 env fun env' => vput dr o.dst p.2 env' K' := by
  simp only [vop, hop, hc, ha, vapp]
  split
  · rename_i x y' t t' e1 e2
    cases e1
    (try simp only [e2])
    split
    · rename_i hb
      (try simp only [hb, if_true])
      split
      · rename_i i hi
        (try simp only [hi])
        split
        · rename_i e hk
          (try simp only [hk])
          split
          · rename_i ie hie
            (try simp only [hie])
            split
            · rename_i hz
              (try simp only [hz, and_self, if_true])
              split
              · rename_i h1 h2
                (try simp only [h1, h2])
                split
                · rename_i hb2
                  (try simp only [hb2, if_true, bite_obind])
                · rename_i hb2
                  (try simp only [hb2])
                  rfl
              · rename_i h1 h2
                (try simp only [h1, h2, bite_obind])
              · rename_i h1 h2
                split
                · exact absurd ‹_› (h1 _ _ _ _ ‹_›)
                · exact absurd ‹_› (h2 _ ‹_›)
                · rfl
            · rename_i hz
              (try simp only [hz, if_false])
              rfl
          · rename_i hie
            (try simp only [hie])
            rfl
        · rename_i hk
          split
          · rename_i e he
            exact absurd he (hk e)
          · rfl
      · rename_i hi
        (try simp only [hi])
        rfl
    · rename_i hb
      (try simp only [hb])
      rfl
  · rename_i hne
    split
    · rename_i t t' e2
      exact absurd e2 (hne u y t t' rfl)
    · rfl
theorem vapp_form {c : Call} {a b s v : VV} (h : vapp C c a b = some (s, v)) : plain a = true ∧ (∃ xs, s = .sl xs) ∧ ∃ e z xs, v = .ow e z xs := by
  unfold vapp at h
  repeat' split at h
  all_goals first
    | (cases h; done)
    | skip
  · rcases bite_some h with ⟨_, h⟩ | ⟨_, h⟩
    · cases h; exact ⟨rfl, ⟨_, rfl⟩, _, _, _, rfl⟩
    · cases h
  · rcases bite_some h with ⟨_, h⟩ | ⟨_, h⟩
    · cases h; exact ⟨rfl, ⟨_, rfl⟩, _, _, _, rfl⟩
    · cases h
theorem own_step (hti : TIok P C.ti) (gws : ∀ w w', GW w → Below NG w w' → GW w') (hC : CallOk P NG GW C.call) (hq : ownMove ops o = true) {i : Nat} (hi : ops[i]? = some o) {rest : List Oper} (h : vops C ops (some al) (o :: rest) env K = some r) :
    ∃ v sv, vops C ops (some al) rest (put o.dst v (put2 sv env)) K = some r ∧ QStep P NG GW io w0 pd0 Q ops al i o env v sv := by
  unfold ownMove at hq
  split at hq
  case h_2 => cases hq
  rename_i t d hsd hg hd
  have hne : t ≠ d := fun e => by subst e; simp at hq
  have hop : (o.op = .move (.tmp t) ∧ fd ops o.dst = true) ∨ ∃ c y, o.op = .call c ∧ c.callee = .builtin .append ∧ c.args.toList = [.tmp t, y] := by
    have hsd' := hsd
    unfold sdOf at hsd'
    split at hsd'
    · rename_i t' hop
      split at hsd'
      · rename_i hf; cases hsd'; exact .inl ⟨hop, hf⟩
      · cases hsd'
    · rename_i c hop
      split at hsd'
      · rename_i u y hc ha; cases hsd'; exact .inr ⟨c, _, hop, hc, ha⟩
      · cases hsd'
    · cases hsd'
  rw [vops, hg] at h
  have fin : ∀ (v : VV) (sv : Option (Nat × VV)), vops C ops (some al) rest (put o.dst v (put2 sv env)) K = some r → (plain (get env d) = true ∧ plain v = true ∧ al.all (fun t => !(refersD t v)) = true) → (∀ t s, sv = some (t, s) → sdOf ops o = some t ∧ plain (get env t) = true ∧ ∃ xs, s = .sl xs) → (∀ (env' : Env), Agree ops al o env env' → ∀ {R' : Type} (K' : Env → Option R'), vop C ops (some al) o env' K' = K' (put o.dst v (put2 sv env'))) →
      ∃ v sv, vops C ops (some al) rest (put o.dst v (put2 sv env)) K = some r ∧ QStep P NG GW io w0 pd0 Q ops al i o env v sv := by
    intro v sv h1 h2 h3 h4
    refine ⟨v, sv, h1, fun d' hd' => ?_, fun u hu _ => ?_, fun cs e => ?_, fun e z xs he => ?_, h3, fun env' G a w hA hs Nk hNk => ?_⟩
    · rw [hd] at hd'; cases hd'; exact h2.1
    · have := h2.2.2
      rw [List.all_eq_true] at this
      simpa using this u hu
    · have := h2.2.1
      rw [e] at this; cases this
    · have := h2.2.1
      rw [he] at this; cases this
    · unfold wpOp
      rw [show ops.toArray[i]? = some o by simpa using hi]
      simp only
      rw [if_pos (by simp [Region.wanted, hg])]
      refine .inl (vop_sound (r := put o.dst v (put2 sv env')) (K := some) hti gws hC hs (fun G' e' a' w' hs' he => ?_) (ops := ops) (dr := some al) ?_)
      · cases he; exact hNk G' a' w' hs'
      · exact h4 env' hA (R' := Env) some
  have go : ∀ (env' : Env) (s v : VV) {R' : Type} (K' : Env → Option R'), plain (get env' d) = true → plain v = true ∧ al.all (fun t => !(refersD t v)) = true → vput (some al) (some d) v (env'.set t s) K' = K' (put (some d) v (env'.set t s)) := fun env' s v R' K' h1 h2 => vput_go (fun d' hd' => by cases hd'; rw [get_set_ne hne]; exact h1) (fun d' _ => h2)
  rcases hop with ⟨hop, hfd⟩ | ⟨c, y, hop, hc, ha⟩
  · rw [hd] at hfd
    have hlook : t ∈ o.looksAt ops.toArray := look_op (by rw [hop]; simp [Op.operands])
    have red : ∀ (env' : Env) {R' : Type} (K' : Env → Option R'), vop C ops (some al) o env' K' = vmove (some al) true (some d) (.tmp t) env' K' := fun env' R' K' => by simp only [vop, hop, hd, hfd]
    rw [red] at h
    cases hgt : get env t with
    | ow e z xs =>
      simp only [vmove, hgt, vset_eq] at h
      have hok := vput_ok ⟨r, h⟩ d rfl
      rw [get_set_ne hne] at hok
      refine fin (.ow e z xs) (some (t, .sl xs)) (by rw [hd]; exact vput_some h) hok (fun t' s' he => ?_) fun env' hA R' K' => ?_
      · cases he; exact ⟨hsd, by rw [hgt]; rfl, xs, rfl⟩
      · have h5 : get env' t = .ow e z xs := (hA.see t hlook).trans hgt
        rw [red]
        simp only [vmove, h5, vset_eq]
        rw [hd]
        exact go env' _ _ K' (hA.dst d hd) hok.2
    | nl =>
      simp only [vmove, hgt] at h
      have hok := vput_ok ⟨r, h⟩ d rfl
      refine fin .nl none (by rw [hd]; exact vput_some h) hok (fun t' s' he => by cases he) fun env' hA R' K' => ?_
      have h5 : get env' t = .nl := (hA.see t hlook).trans hgt
      rw [red]
      simp only [vmove, h5]
      rw [hd]
      exact vput_go (fun d' hd' => by cases hd'; exact hA.dst d hd) (fun d' _ => hok.2)
    | _ =>
      simp only [vmove, hgt] at h
      have hok := vput_ok ⟨r, h⟩ d rfl
      refine fin (rdv env (.tmp t)) none (by rw [hd]; exact vput_some h) hok (fun t' s' he => by cases he) fun env' hA R' K' => ?_
      have h5 := (hA.see t hlook).trans hgt
      have h6 : rdv env' (.tmp t) = rdv env (.tmp t) := by simp only [rdv, h5, hgt]
      rw [red]
      simp only [vmove, h5]
      rw [hd, h6]
      exact vput_go (fun d' hd' => by cases hd'; exact hA.dst d hd) (fun d' _ => hok.2)
  · have hlook : t ∈ o.looksAt ops.toArray := look_op (by rw [hop]; exact app_mem hc ha (by simp))
    have hy : ∀ env', Agree ops al o env env' → rdv env' y = rdv env y := fun env' hA => hA.rd y (by rw [hop]; exact app_mem hc ha (by simp))
    rw [vop_app hop hc ha] at h
    cases hv : vapp C c (get env t) (rdv env y) with
    | none => rw [hv] at h; cases h
    | some p =>
      obtain ⟨s, v⟩ := p
      obtain ⟨f1, ⟨ys, rfl⟩, e, z, xs, rfl⟩ := vapp_form hv
      rw [hv] at h
      have h' : vset t (.sl ys) env (fun env' => vput (some al) o.dst (.ow e z xs) env' fun env' => vops C ops (some al) rest env' K) = some r := h
      rw [vset_eq, hd] at h'
      have hok := vput_ok ⟨r, h'⟩ d rfl
      rw [get_set_ne hne] at hok
      refine fin (.ow e z xs) (some (t, .sl ys)) (by rw [hd]; exact vput_some h') hok (fun t' s' he => ?_) fun env' hA R' K' => ?_
      · cases he; exact ⟨hsd, f1, ys, rfl⟩
      · rw [vop_app hop hc ha, hA.see t hlook, hy env' hA, hv]
        show vset t (.sl ys) env' (fun env' => vput (some al) o.dst (.ow e z xs) env' K') = _
        rw [vset_eq, hd]
        exact go env' _ _ K' (hA.dst d hd) hok.2
end
section
variable {D : Nat → Option Nat} {vals : Nat → VV} {env0 env : Env} {n : Nat}
def chainE (D : Nat → Option Nat) (vals : Nat → VV) (env0 : Env) : Nat → Env
  | 0 => env0
  | k + 1 => put (D k) (vals k) (chainE D vals env0 k)
theorem chainE_congr {D' : Nat → Option Nat} {vals' : Nat → VV} : ∀ k, (∀ j, j < k → vals j = vals' j) → (∀ j, j < k → D j = D' j) → chainE D vals env0 k = chainE D' vals' env0 k
  | 0, _, _ => rfl
  | k + 1, h, g => by rw [chainE, chainE, chainE_congr k (fun j hj => h j (by omega)) (fun j hj => g j (by omega)), h k (by omega), g k (by omega)]
structure QS (D : Nat → Option Nat) (vals : Nat → VV) (env0 : Env) (n : Nat) (S : Nat → Prop) (env : Env) : Prop where
  len : env.length = env0.length
  hit : ∀ (k : Nat) d, k < n → D k = some d → S k → d < env0.length → (∀ j, k < j → j < n → D j = some d → ¬ S j) → get env d = vals k
  miss : ∀ t, (∀ (k : Nat), k < n → D k = some t → ¬ S k) → get env t = get env0 t
theorem get_put {dst : Option Nat} {v : VV} {t : Nat} : get (put dst v env) t = if dst = some t ∧ t < env.length then v else get env t := by
  cases dst with
  | none => simp [put]
  | some d =>
    simp only [put, get]
    rw [nth_set]
    by_cases h : d = t
    · subst h; simp
    · simp [h]
theorem put_len {dst : Option Nat} {v : VV} : (put dst v env).length = env.length := by cases dst <;> simp [put]
theorem QS.step {S : Nat → Prop} (h : QS D vals env0 n S env) {k : Nat} (hk : k < n) (hS : ¬ S k) (hlast : ∀ (j : Nat) d, k < j → j < n → D j = some d → D k = some d → ¬ S j) : QS D vals env0 n (fun j => S j ∨ j = k) (put (D k) (vals k) env) := by
  refine ⟨put_len.trans h.len, ?_, ?_⟩
  · intro j d hj hd hSj hlt hmax
    rw [get_put]
    by_cases e : j = k
    · subst e
      rw [if_pos ⟨hd, by rw [h.len]; exact hlt⟩]
    · have hSj' := hSj.resolve_right e
      rw [if_neg (fun h2 => by
        rcases Nat.lt_or_gt_of_ne e with h3 | h3
        · exact hmax k h3 hk h2.1 (.inr rfl)
        · exact hlast j d h3 hj hd h2.1 hSj')]
      exact h.hit j d hj hd hSj' hlt fun j' h1 h2 h3 h4 => hmax j' h1 h2 h3 (.inl h4)
  · intro t ht
    rw [get_put, if_neg (fun h2 => ht k hk h2.1 (.inr rfl))]
    exact h.miss t fun j hj hd hs => ht j hj hd (.inl hs)
theorem QS.congr {S S' : Nat → Prop} (h : QS D vals env0 n S env) (e : ∀ k, k < n → (S k ↔ S' k)) : QS D vals env0 n S' env :=
  ⟨h.len, fun k d hk hd hs hlt hm => h.hit k d hk hd ((e k hk).2 hs) hlt fun j h1 h2 h3 h4 => hm j h1 h2 h3 ((e j h2).1 h4), fun t ht => h.miss t fun k hk hd hs => ht k hk hd ((e k hk).1 hs)⟩
theorem QS.chain : ∀ k, k ≤ n → QS D vals env0 n (fun j => j < k) (chainE D vals env0 k)
  | 0, _ => ⟨rfl, fun _ _ _ _ h => absurd h (Nat.not_lt_zero _), fun _ _ => rfl⟩
  | k + 1, hk => by
    have := (QS.chain k (by omega)).step (k := k) (by omega) (by omega) (fun j d hj _ _ _ h => by omega)
    rw [chainE]
    exact this.congr fun j _ => by omega
open Classical in
theorem exists_max {p : Nat → Prop} : ∀ n, (∃ k, k < n ∧ p k) → ∃ k, k < n ∧ p k ∧ ∀ j, k < j → j < n → ¬ p j
  | 0, h => by obtain ⟨k, h1, _⟩ := h; omega
  | n + 1, h => by
    by_cases hp : p n
    · exact ⟨n, by omega, hp, fun j h1 h2 => by omega⟩
    · obtain ⟨k, h1, h2⟩ := h
      obtain ⟨k', h3, h4, h5⟩ := exists_max n ⟨k, by
        rcases Nat.lt_or_ge k n with h | h
        · exact h
        · exact absurd (by rw [show n = k by omega]; exact h2) hp, h2⟩
      exact ⟨k', by omega, h4, fun j h6 h7 => by
        rcases Nat.lt_or_ge j n with h | h
        · exact h5 j h6 h
        · rw [show j = n by omega]; exact hp⟩
open Classical in
theorem exists_min {p : Nat → Prop} {k : Nat} (h : p k) : ∃ k', k' ≤ k ∧ p k' ∧ ∀ j, j < k' → ¬ p j := by
  induction k using Nat.strongRecOn with
  | _ k ih =>
    by_cases hx : ∃ j, j < k ∧ p j
    · obtain ⟨j, h1, h2⟩ := hx
      obtain ⟨k', h3, h4, h5⟩ := ih j h1 h2
      exact ⟨k', by omega, h4, h5⟩
    · exact ⟨k, Nat.le_refl _, h, fun j h1 h2 => hx ⟨j, h1, h2⟩⟩
theorem env_ext : ∀ {e e' : Env}, e.length = e'.length → (∀ t, t < e.length → get e t = get e' t) → e = e'
  | [], [], _, _ => rfl
  | a :: r, b :: s, hl, h => by
    have h0 := h 0 (by simp)
    have := env_ext (e := r) (e' := s) (by simpa using hl) fun t ht => h (t + 1) (by simp; omega)
    simp [get, nth] at h0
    rw [h0, this]
  | [], _ :: _, hl, _ => by simp at hl
  | _ :: _, [], hl, _ => by simp at hl
open Classical in
theorem QS.uniq {S : Nat → Prop} {env' : Env} (h : QS D vals env0 n S env) (h' : QS D vals env0 n S env') : env = env' := by
  refine env_ext (h.len.trans h'.len.symm) fun t ht => ?_
  by_cases hx : ∃ k, k < n ∧ (D k = some t ∧ S k)
  · obtain ⟨k, h1, ⟨h3, h4⟩, h5⟩ := exists_max n hx
    rw [h.len] at ht
    have h6 : ∀ j, k < j → j < n → D j = some t → ¬ S j := fun j a b c d => h5 j a b ⟨c, d⟩
    rw [h.hit k t h1 h3 h4 ht h6, h'.hit k t h1 h3 h4 ht h6]
  · have hm : ∀ (k : Nat), k < n → D k = some t → ¬ S k := fun k h1 h3 h4 => hx ⟨k, h1, h3, h4⟩
    rw [h.miss t hm, h'.miss t hm]
end
section
variable {P : Program} {NG : Nat} {GW : World → Prop} {io : List Nat} {w0 : World} {pd0 : Nat → Nat → Prop} {C : Cx} {R : Type} {K : Env → Option R} {r : R} {Q : Exit → Act → World → Prop} {l : List Oper} {env0 : Env} {al : List Nat}
def Wr (l : List Oper) (o : Oper) (d : Nat) : Prop := o.dst = some d ∨ sdOf l o = some d
theorem wl_mem {o : Oper} {d : Nat} : d ∈ wl l o ↔ Wr l o d := by
  unfold wl Wr
  cases o.dst <;> cases sdOf l o <;> simp [eq_comm]
theorem wrIn_false {o : Oper} {ts : List Nat} (h : wrIn l o ts = false) {d : Nat} (hd : Wr l o d) : d ∉ ts := by
  unfold wrIn at h
  intro hm
  have := List.any_eq_false.1 h d (wl_mem.2 hd)
  simp only [Bool.not_eq_true, List.any_eq_false] at this
  have h2 := this d hm
  simp at h2
structure Ord (C : Cx) (l : List Oper) (n : Nat) : Prop where
  edge : ∀ (j : Nat) y, l[j]? = some y → ∀ e ∈ y.after.toList, Region.binds .any e = true → e.on < j
  quiet : ∀ (j : Nat) y, j < n → l[j]? = some y → quietB C l y = true ∨ ownMove l y = true
  dist : ∀ (i j : Nat) p o d, i < j → j < n → l[i]? = some p → l[j]? = some o → Wr l p d → Wr l o d → ((befores l []).getD j 0).testBit i = true
  apart : ∀ (i j : Nat) x y, i < j → j < n → l[i]? = some x → l[j]? = some y → ((befores l []).getD j 0).testBit i = false → (∀ d, Wr l x d → d ∉ y.looksAt l.toArray) ∧ (∀ d, Wr l y d → d ∉ x.looksAt l.toArray)
  solid : ∀ (i j : Nat), n ≤ j → j < l.length → i < j → ((befores l []).getD j 0).testBit i = true
  le : n ≤ l.length
theorem own_ne {o : Oper} (h : ownMove l o = true) {d : Nat} (h1 : o.dst = some d) : sdOf l o ≠ some d := by
  intro h2
  unfold ownMove at h
  rw [h1, h2] at h
  split at h
  · rename_i t d' e1 e2 e3
    cases e1; cases e3
    simp at h
  · cases h
theorem anyOrder_ord (h : anyOrder C l = true) : ∃ n, Ord C l n := by
  unfold anyOrder at h
  simp only [List.all_eq_true, List.mem_range] at h
  obtain ⟨hn1, hn2⟩ := quietN_spec (befores l []) l.length
  refine ⟨quietN (befores l []) l.length, ?_⟩
  have hj : ∀ (j : Nat) y, l[j]? = some y → (∀ e ∈ y.after.toList, Region.binds .any e = true → e.on < j) ∧ (quietN (befores l []) l.length ≤ j ∨ ((quietB C l y = true ∨ ownMove l y = true) ∧ ∀ i, i < j → ∀ x, l[i]? = some x → (((befores l []).getD j 0).testBit i = true ∨ (wrIn l x (wl l y) = false ∧ (wrIn l x (y.looksAt l.toArray) = false ∧ wrIn l y (x.looksAt l.toArray) = false))))) := by
    intro j y hy
    have := h j (List.getElem?_eq_some_iff.1 hy).1
    rw [hy] at this
    simp only [Bool.and_eq_true, List.all_eq_true, Bool.or_eq_true] at this
    refine ⟨fun e he hb => ?_, ?_⟩
    · rcases this.1 e he with h1 | h1
      · rw [hb] at h1; cases h1
      · simpa [Nat.blt_eq] using h1
    · rcases this.2 with h1 | ⟨h1, h2⟩
      · exact .inl (by simpa using h1)
      · refine .inr ⟨h1, fun i hi x hx => ?_⟩
        have h3 := h2 i (by simpa using hi)
        rw [hx] at h3
        simp only [Bool.and_eq_true, Bool.or_eq_true, Bool.not_eq_true'] at h3
        exact h3
  refine ⟨fun j y hy => (hj j y hy).1, ?_, ?_, ?_, ?_, hn1⟩
  · intro j y hlt hy
    rcases (hj j y hy).2 with h1 | h1
    · omega
    · exact h1.1
  · intro i j p o d hij hjn hp ho hd hd'
    rcases (hj j o ho).2 with h1 | h1
    · omega
    · rcases h1.2 i hij p hp with h2 | h2
      · exact h2
      · exact absurd (wl_mem.2 hd') (wrIn_false h2.1 hd)
  · intro i j x y hij hjn hx hy hb
    rcases (hj j y hy).2 with h1 | h1
    · omega
    · rcases h1.2 i hij x hx with h2 | h2
      · rw [hb] at h2; cases h2
      · exact ⟨fun d hd => wrIn_false h2.2.1 hd, fun d hd => wrIn_false h2.2.2 hd⟩
  · intro i j hnj hjl hij
    rw [hn2 j hnj hjl, Nat.testBit_two_pow_sub_one]
    simpa using hij
def DD (l : List Oper) (sv : Nat → Option (Nat × VV)) (j : Nat) : Option Nat := match j % 2 with
  | 0 => (sv (j / 2)).map Prod.fst
  | _ => (l[j / 2]?).bind (·.dst)
def VD (vals : Nat → VV) (sv : Nat → Option (Nat × VV)) (j : Nat) : VV := match j % 2 with
  | 0 => ((sv (j / 2)).map Prod.snd).getD .un
  | _ => vals (j / 2)
theorem DD_even {sv : Nat → Option (Nat × VV)} {k : Nat} : DD l sv (2 * k) = (sv k).map Prod.fst := by
  unfold DD
  rw [show 2 * k % 2 = 0 by omega, show 2 * k / 2 = k by omega]
  rfl
theorem DD_odd {sv : Nat → Option (Nat × VV)} {k : Nat} : DD l sv (2 * k + 1) = (l[k]?).bind (·.dst) := by
  unfold DD
  rw [show (2 * k + 1) % 2 = 1 by omega, show (2 * k + 1) / 2 = k by omega]
  rfl
theorem VD_even {vals : Nat → VV} {sv : Nat → Option (Nat × VV)} {k : Nat} : VD vals sv (2 * k) = ((sv k).map Prod.snd).getD .un := by
  unfold VD
  rw [show 2 * k % 2 = 0 by omega, show 2 * k / 2 = k by omega]
  rfl
theorem VD_odd {vals : Nat → VV} {sv : Nat → Option (Nat × VV)} {k : Nat} : VD vals sv (2 * k + 1) = vals k := by
  unfold VD
  rw [show (2 * k + 1) % 2 = 1 by omega, show (2 * k + 1) / 2 = k by omega]
  rfl
theorem put_put2 {sv : Option (Nat × VV)} {env : Env} : put (sv.map Prod.fst) ((sv.map Prod.snd).getD .un) env = put2 sv env := by
  cases sv <;> rfl
def chO (l : List Oper) (vals : Nat → VV) (sv : Nat → Option (Nat × VV)) (env0 : Env) (k : Nat) : Env := chainE (DD l sv) (VD vals sv) env0 (2 * k)
theorem chO_succ {vals : Nat → VV} {sv : Nat → Option (Nat × VV)} {k : Nat} {o : Oper} (ho : l[k]? = some o) : chO l vals sv env0 (k + 1) = put o.dst (vals k) (put2 (sv k) (chO l vals sv env0 k)) := by
  unfold chO
  rw [show 2 * (k + 1) = 2 * k + 1 + 1 by omega, chainE, chainE, DD_odd, VD_odd, DD_even, VD_even, put_put2, ho]
  rfl
theorem chO_congr {vals vals' : Nat → VV} {sv sv' : Nat → Option (Nat × VV)} {k : Nat} (h : ∀ j, j < k → vals j = vals' j) (g : ∀ j, j < k → sv j = sv' j) : chO l vals sv env0 k = chO l vals' sv' env0 k := by
  unfold chO
  refine chainE_congr _ (fun j hj => ?_) (fun j hj => ?_)
  · unfold VD
    rw [h (j / 2) (by omega), g (j / 2) (by omega)]
  · unfold DD
    rw [g (j / 2) (by omega)]
theorem canon (hti : TIok P C.ti) (gws : ∀ w w', GW w → Below NG w w' → GW w') (hC : CallOk P NG GW C.call) {n : Nat} (hO : Ord C l n) (hal : ∀ (k : Nat) o t d, l[k]? = some o → o.op = .alloc t → o.dst = some d → d ∈ al) (h : vops C l (some al) l env0 K = some r) :
    ∀ m, m ≤ n → ∃ (vals : Nat → VV) (sv : Nat → Option (Nat × VV)), vops C l (some al) (l.drop m) (chO l vals sv env0 m) K = some r ∧ (∀ k, m ≤ k → sv k = none) ∧ ∀ (k : Nat) o, k < m → l[k]? = some o → QStep P NG GW io w0 pd0 Q l al k o (chO l vals sv env0 k) (vals k) (sv k)
  | 0, _ => ⟨fun _ => .un, fun _ => none, h, fun _ _ => rfl, fun k o hk => absurd hk (Nat.not_lt_zero _)⟩
  | m + 1, hm => by
    obtain ⟨vals, sv, h1, h0, h2⟩ := canon hti gws hC hO hal h m (by omega)
    have hl := hO.le
    have ho : l[m]? = some (l[m]'(by omega)) := List.getElem?_eq_getElem (by omega)
    rw [List.drop_eq_getElem_cons (by omega)] at h1
    obtain ⟨v, s, h3, h4⟩ : ∃ v s, vops C l (some al) (l.drop (m + 1)) (put (l[m]'(by omega)).dst v (put2 s (chO l vals sv env0 m))) K = some r ∧ QStep P NG GW io w0 pd0 Q l al m (l[m]'(by omega)) (chO l vals sv env0 m) v s := by
      rcases hO.quiet m _ (by omega) ho with hq | hq
      · exact quiet_step (io := io) (w0 := w0) (pd0 := pd0) (Q := Q) hti gws hC hq (fun d t h5 h6 => hal m _ t d ho h5 h6) ho h1
      · exact own_step (io := io) (w0 := w0) (pd0 := pd0) (Q := Q) hti gws hC hq ho h1
    let vals' : Nat → VV := fun k => if k = m then v else vals k
    let sv' : Nat → Option (Nat × VV) := fun k => if k = m then s else sv k
    have hc : ∀ k, k ≤ m → chO l vals sv env0 k = chO l vals' sv' env0 k := fun k hk => chO_congr (fun j hj => by simp only [vals']; rw [if_neg (by omega)]) (fun j hj => by simp only [sv']; rw [if_neg (by omega)])
    refine ⟨vals', sv', ?_, fun k hk => ?_, fun k o hk hok => ?_⟩
    · rw [chO_succ ho, ← hc m (Nat.le_refl _)]
      simp only [vals', sv', if_pos]
      exact h3
    · simp only [sv']
      rw [if_neg (by omega)]
      exact h0 k (by omega)
    · by_cases e : k = m
      · subst e
        rw [ho] at hok; cases hok
        rw [← hc k (Nat.le_refl _)]
        simp only [vals', sv', if_pos]
        exact h4
      · rw [← hc k (by omega)]
        simp only [vals', sv', if_neg e]
        exact h2 k o (by omega) hok
end
end Go.Proofs.YtcfeihimmboghaaGreatDoor.VI

end
