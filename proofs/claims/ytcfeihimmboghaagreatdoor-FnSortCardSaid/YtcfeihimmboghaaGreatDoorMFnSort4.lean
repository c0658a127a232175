/- A part of the proof that the law FnSort answers true at every input that its row speaks of. Conditions: the row's own. -/
import Derived.Test.YtcfeihimmboghaaGreatDoorMFnSort3
import Derived.Test.YtcfeihimmboghaaGreatDoorOrd
import Derived.Laws.Small
import Derived.Great.BuildSlice
section
namespace Go.Proofs.YtcfeihimmboghaaGreatDoor.VI
open Go Go.RowKit
set_option linter.unusedSimpArgs false
set_option linter.unusedVariables false
section
variable {P : Program} {NG : Nat} {GW : World → Prop} {io : List Nat} {w0 : World} {pd0 : Nat → Nat → Prop} {G G' : Gh} {env : Env} {a : Act} {w w' : World}
def rehome (G : Gh) (m : Value) (p : Nat × Nat) : Gh := { G with own := fun g => if m.ownBlock = some g then some p else G.own g }
theorem OwnR.home {p p' : Nat × Nat} {e : TypeId} {sz : Nat} {xs : List VV} {m : Value} (h : OwnR G w p e sz xs m) : OwnR (rehome G m p') w p' e sz xs m := by
  obtain ⟨ms, ho, hr, hz, h1, hl, hg⟩ := h
  exact ⟨ms, ho, hr, hz, h1, hl, fun g hgb => ⟨if_pos hgb, (hg g hgb).2⟩⟩
theorem OwnR.other {p p' q : Nat × Nat} {e e' : TypeId} {sz sz' : Nat} {xs ys : List VV} {m u : Value} (h : OwnR G w p e sz xs m) (k : OwnR G w q e' sz' ys u) (hq : q ≠ p) : OwnR (rehome G m p') w q e' sz' ys u := by
  obtain ⟨ms, ho, hr, hz, h1, hl, hg⟩ := k
  refine ⟨ms, ho, hr, hz, h1, hl, fun g hgb => ⟨?_, (hg g hgb).2⟩⟩
  by_cases hm : m.ownBlock = some g
  · obtain ⟨_, _, _, _, _, _, hg'⟩ := h
    exact absurd ((hg g hgb).1.symm.trans (hg' g hm).1) (fun e => hq (Option.some.inj e))
  · simp only [rehome, if_neg hm]; exact (hg g hgb).1
theorem OwnR.evo {p p' : Nat × Nat} {e : TypeId} {sz : Nat} {xs : List VV} {m : Value} (h : OwnR G w p e sz xs m) : Evo G w (rehome G m p') w (fun t => t = p.1) (fun _ => False) := by
  refine ⟨fun _ _ _ a b => ⟨a, b⟩, fun _ _ _ a b => ⟨a, b⟩, ?_, fun _ _ => rfl, rfl⟩
  intro g t j o h1 h2 h3
  refine ⟨h2, ?_, fun _ => Iff.rfl⟩
  by_cases hm : m.ownBlock = some g
  · obtain ⟨_, _, _, _, _, _, hg'⟩ := h
    have := h1.symm.trans (hg' g hm).1
    exact absurd (congrArg Prod.fst (Option.some.inj this)) h3
  · simp only [rehome, if_neg hm]; exact h1
theorem OwnR.owns {p p' : Nat × Nat} {e : TypeId} {sz : Nat} {xs : List VV} {m : Value} (h : OwnR G w p e sz xs m) (hs : Sim NG GW io w0 pd0 G env a w) : ∀ g q, (rehome G m p').own g = some q → g < w.heap.size ∧ (w0.heap.size ≤ g ∨ g ∈ io) := by
  intro g q hq
  by_cases hm : m.ownBlock = some g
  · obtain ⟨_, _, _, _, _, _, hg'⟩ := h
    exact hs.own g p (hg' g hm).1
  · simp only [rehome, if_neg hm] at hq; exact hs.own g q hq
theorem OwnR.ownsp {p p' : Nat × Nat} {e : TypeId} {sz : Nat} {xs : List VV} {m : Value} (h : OwnR G w p e sz xs m) (hs : Sim NG GW io w0 pd0 G env a w) : ∀ g k, (rehome G m p').own g ≠ none → (rehome G m p').pv g k → (rehome G m p').pd g k := by
  intro g k hq hk
  by_cases hm : m.ownBlock = some g
  · obtain ⟨_, _, _, _, _, _, hg'⟩ := h
    exact hs.ownp g k (by rw [(hg' g hm).1]; simp) hk
  · simp only [rehome, if_neg hm] at hq; exact hs.ownp g k hq hk
theorem Sim.give (hs : Sim NG GW io w0 pd0 G env a w) {t d : Nat} {e : TypeId} {sz : Nat} {xs : List VV} (ht : get env t = .ow e sz xs) :
    ∃ G', Sim NG GW io w0 pd0 G' (VI.put (some d) (.ow e sz xs) (env.set t (.sl xs))) (a.put (some d) (a.eval (.tmp t))) w := by
  have h : OwnR G w (t, 0) e sz xs (a.eval (.tmp t)) := by have := get_slot hs t; rw [ht] at this; exact this
  refine ⟨rehome G (a.eval (.tmp t)) (d, 0), ?_⟩
  refine Sim.put (hs.evo h.evo (by simp) ?_ hs.fr hs.gw (h.owns hs) (h.ownsp hs) hs.dv hs.old) (some d) (fun d' hd => by cases hd; exact h.home)
  intro u v m hv hm
  by_cases hu : t = u
  · subst hu
    rw [List.getElem?_set, if_pos rfl] at hv
    split at hv
    · cases hv
      have hq : a.eval (.tmp t) = m := by
        obtain ⟨hlt, rfl⟩ := Array.getElem?_eq_some_iff.1 hm
        simp [Act.eval, hlt]
      rw [← hq]
      exact .inr (VR.slot (VR.of_dr (OwnR.dr h.home)) _)
    · cases hv
  · rw [List.getElem?_set, if_neg hu] at hv
    exact .inl ⟨v, hv, rfl, fun e => hu e.symm, id, fun _ h => h.elim⟩
section
variable {R : Type} {K : Env → Option R} {r : R} {next : Act → World → Prop} {Q : Exit → Act → World → Prop} {o : Oper} {C : Cx} {ops : List Oper} {dr : Option (List Nat)}
theorem wp_value {m : Value} (hrun : (execOp a.eval o).run P w = .ok (.value m) w') (h : next (a.put o.dst m) w') : o.wp P a w next Q := by
  unfold Oper.wp; rw [hrun]; exact h
theorem wp_skip' (hrun : (execOp a.eval o).run P w = .ok .skip w') (h : next (a.put o.dst undef) w') : o.wp P a w next Q := by
  unfold Oper.wp; rw [hrun]; exact h
abbrev Nx (NG : Nat) (GW : World → Prop) (io : List Nat) (w0 : World) (pd0 : Nat → Nat → Prop) (K : Env → Option R) (r : R) (next : Act → World → Prop) : Prop := ∀ G' env' a' w', Sim NG GW io w0 pd0 G' env' a' w' → K env' = some r → next a' w'
theorem val_sound {v : VV} {m : Value} (hs : Sim NG GW io w0 pd0 G env a w) (hn : Nx NG GW io w0 pd0 K r next) (hrun : (execOp a.eval o).run P w = .ok (.value m) w) (hv : VR G w v m) (h : vput dr o.dst v env K = some r) : o.wp P a w next Q :=
  wp_value hrun (hn _ _ _ _ (hs.put o.dst fun d _ => hv.slot d) (vput_some h))
theorem move_sound {own : Bool} {x : Operand} (hs : Sim NG GW io w0 pd0 G env a w) (hn : Nx NG GW io w0 pd0 K r next) (hrun : (execOp a.eval o).run P w = .ok (.value (a.eval x)) w) (h : vmove dr own o.dst x env K = some r) : o.wp P a w next Q := by
  unfold vmove at h
  split at h
  · rename_i t
    split at h
    · rename_i e sz xs ht
      split at h
      · rw [vset_eq] at h
        have h2 := vput_some h
        cases hd : o.dst with
        | none =>
          refine wp_value hrun (hn G _ _ _ ?_ h2)
          rw [hd]
          have h' : OwnR G w (t, 0) e sz xs (a.eval (.tmp t)) := by have := get_slot hs t; rw [ht] at this; exact this
          have hp := hs.put (some t) (v := .sl xs) (m := a.eval (.tmp t)) (fun d hd => by cases hd; exact VR.slot (VR.of_dr h'.dr) _)
          have ha : a.put (some t) (a.eval (.tmp t)) = a := by
            simp only [Act.put, Act.eval]
            congr 1
            by_cases hlt : t < a.tmps.size
            · refine Array.ext (by simp) fun i h1 h2 => ?_
              rw [Array.getElem_setIfInBounds (by simpa using h1)]
              split
              · rename_i e; subst e; simp [hlt]
              · rfl
            · simp [Array.setIfInBounds, hlt]
          rw [ha] at hp
          exact hp
        | some d =>
          obtain ⟨G', hg⟩ := hs.give (d := d) ht
          refine wp_value hrun (hn G' _ _ _ ?_ h2)
          rw [hd]; exact hg
      · have h' : OwnR G w (t, 0) e sz xs (a.eval (.tmp t)) := by have := get_slot hs t; rw [ht] at this; exact this
        exact val_sound hs hn hrun (VR.of_dr h'.dr) h
    · rename_i ht
      have h' : a.eval (.tmp t) = .slice none 0 0 := by have := get_slot hs t; rw [ht] at this; exact this
      split at h
      · exact wp_value hrun (hn _ _ _ _ (hs.put o.dst fun d _ => (show SlotR G w d .nl _ from h')) (vput_some h))
      · rw [h'] at hrun; exact val_sound hs hn hrun (VR.of_dr (.sl0 _ _)) h
    · exact val_sound hs hn hrun (rdv_rel hs _) h
  · split at h
    · exact wp_value hrun (hn _ _ _ _ (hs.put o.dst fun d _ => (show SlotR G w d .nl _ from rfl)) (vput_some h))
    · exact val_sound hs hn hrun (VR.of_dr (.sl0 _ _)) h
  · exact val_sound hs hn hrun (rdv_rel hs _) h
theorem bite_some {α : Type} {b : Bool} {x y : Option α} {r : α} (h : bite b x y = some r) : (b = true ∧ x = some r) ∨ (b = false ∧ y = some r) := by
  cases b
  · exact .inr ⟨rfl, h⟩
  · exact .inl ⟨rfl, h⟩
theorem must_some {α : Type} {b : Bool} {x : Option α} {r : α} (h : must b x = some r) : b = true ∧ x = some r := by
  cases b
  · cases h
  · exact ⟨rfl, h⟩
theorem VR.sv {v m : Value} (h : VR G w (.s v) m) : m = v := by cases h; rfl
theorem wr_eq (k : IntKind) (n : Int) : wr k n = k.wrap n := by
  cases k <;> simp only [wr]
  · simp [IntKind.wrap, IntKind.signed, IntKind.bits, wrap64]; omega
  · simp [IntKind.wrap, IntKind.signed, IntKind.bits]
theorem vint_run {op : BinOp} {k : IntKind} {x y : Int} {b : Bool} {v : Value} (h : vint op k x y = some (b, v)) (hb : b = true) (t : TypeId) (yk : IntKind) (hk : (op = .shr) ∨ k = yk) : (binOp op t (.int k x) (.int yk y)).run P w = .ok v w := by
  subst hb
  cases op <;> simp only [vint, Option.some.injEq, Prod.mk.injEq, reduceCtorEq] at h <;> first
    | (obtain ⟨h1, rfl⟩ := h
       have hk' : k = yk := by simpa using hk
       subst hk'
       simp [binOp, Op.intArith, Op.intDiv, Op.intBits, Op.intCmp, wr_eq] at h1 ⊢ <;> simp_all)
    | (obtain ⟨h1, rfl⟩ := h
       have h2 : ¬ y < 0 := by simp at h1; omega
       simp [binOp, Op.shift, h2])
theorem vstr_run {op : BinOp} {x y : ByteArray} {b : Bool} {v : Value} (h : vstr op x y = some (b, v)) (hb : b = true) (t : TypeId) : (binOp op t (.string x) (.string y)).run P w = .ok v w := by
  subst hb
  cases op <;> simp only [vstr, Option.some.injEq, Prod.mk.injEq, reduceCtorEq] at h <;> first
    | (obtain ⟨h1, rfl⟩ := h
       first
         | (rw [Go.Proofs.YtcfeihimmboghaaGreatDoor.G.str_gtr]; rfl)
         | (rw [Go.Proofs.YtcfeihimmboghaaGreatDoor.G.str_leq]; rfl)
         | (rw [Go.Proofs.YtcfeihimmboghaaGreatDoor.G.str_geq]; rfl)
         | (simp [binOp, Op.stringOp]; done)
         | (have h2 : ¬ ((x.size + y.size : Nat) : Int) > IntKind.i64.max := by
              have : x.size + y.size ≤ 9223372036854775807 := by simpa using h1
              simp [IntKind.max, IntKind.signed, IntKind.bits]; omega
            simp [binOp, Op.stringOp] at h2 ⊢; omega))
end
end
section
variable {α : Type}
theorem setCells_len : ∀ (vs : List α) (cs : List α) (off : Nat), (setCells cs off vs).length = cs.length
  | [], _, _ => rfl
  | v :: r, cs, off => by rw [setCells, setCells_len r]; simp
theorem setCells_eq : ∀ (vs : List α) (cs : List α) (off : Nat), off + vs.length ≤ cs.length → setCells cs off vs = cs.take off ++ vs ++ cs.drop (off + vs.length)
  | [], cs, off, _ => by simp [setCells]
  | v :: r, cs, off, h => by
    have hl : off < cs.length := by simp at h; omega
    rw [setCells, setCells_eq r (cs.set off v) (off + 1) (by simp at h ⊢; omega)]
    have h1 : (cs.set off v).take (off + 1) = cs.take off ++ [v] := by
      rw [List.take_add_one, List.take_set_of_le (Nat.le_refl _)]
      simp [hl]
    have h2 : (cs.set off v).drop (off + 1 + r.length) = cs.drop (off + (v :: r).length) := by
      rw [List.drop_set_of_lt (by omega)]
      simp; congr 1; omega
    rw [h1, h2]; simp
theorem fold_setCells : ∀ (vs : List α) (cs : Array α) (off i : Nat), ((vs.zipIdx i).foldl (fun cs (x : α × Nat) => cs.setIfInBounds (off + x.2) x.1) cs).toList = setCells cs.toList (off + i) vs
  | [], _, _, _ => rfl
  | v :: r, cs, off, i => by
    rw [List.zipIdx_cons, List.foldl_cons, fold_setCells r, setCells]
    simp [Nat.add_assoc]
end
section
variable {pd : Nat → Nat → Prop} {w : World}
theorem DRs.setCells : ∀ {us : List VV} {ns : List Value} {vs : List VV} {ms : List Value} (off : Nat), DRs pd w us ns → DRs pd w vs ms → DRs pd w (VI.setCells vs off us) (VI.setCells ms off ns)
  | _, _, _, _, _, .nil, h => h
  | _, _, _, _, off, .cons _ _ _ _ h hs, h' => DRs.setCells (off + 1) hs (h'.set off h)
theorem setCells_all {α : Type} {p : α → Prop} : ∀ (us : List α) (ms : List α) (off : Nat), (∀ u ∈ us, p u) → (∀ u ∈ ms, p u) → ∀ u ∈ setCells ms off us, p u
  | [], _, _, _, h => h
  | v :: r, ms, off, hu, hm => setCells_all r (ms.set off v) (off + 1) (fun u h => hu u (by simp [h])) (fun u h => by
    rcases List.mem_or_eq_of_mem_set h with h | h
    · exact hm u h
    · exact h ▸ hu v (by simp))
end
section
variable {z : Nat} {xs : List VV}
theorem flat_len : ∀ {xs : List VV}, (∀ x ∈ xs, x.cells.length = z) → (xs.flatMap VV.cells).length = xs.length * z
  | [], _ => by simp
  | x :: r, h => by
    rw [List.flatMap_cons, List.length_append, h x (by simp), flat_len fun y hy => h y (by simp [hy]), List.length_cons, Nat.succ_mul, Nat.add_comm]
theorem flat_take : ∀ {xs : List VV} (n : Nat), (∀ x ∈ xs, x.cells.length = z) → (xs.flatMap VV.cells).take (n * z) = (xs.take n).flatMap VV.cells
  | [], n, _ => by simp
  | x :: r, 0, _ => by simp
  | x :: r, n + 1, h => by
    have hx := h x (by simp)
    rw [List.flatMap_cons, List.take_succ_cons, List.flatMap_cons, ← flat_take n fun y hy => h y (by simp [hy]), Nat.succ_mul, List.take_append, hx]
    rw [List.take_of_length_le (by omega)]
    congr 2; omega
theorem flat_drop : ∀ {xs : List VV} (n : Nat), (∀ x ∈ xs, x.cells.length = z) → (xs.flatMap VV.cells).drop (n * z) = (xs.drop n).flatMap VV.cells
  | [], n, _ => by simp
  | x :: r, 0, _ => by simp
  | x :: r, n + 1, h => by
    have hx := h x (by simp)
    rw [List.flatMap_cons, List.drop_succ_cons, ← flat_drop n fun y hy => h y (by simp [hy]), Nat.succ_mul, List.drop_append, hx]
    rw [List.drop_of_length_le (by omega), List.nil_append]
    congr 1; omega
theorem flat_elem {i : Nat} {x : VV} (h : ∀ x ∈ xs, x.cells.length = z) (hx : xs[i]? = some x) : ((xs.flatMap VV.cells).drop (i * z)).take z = x.cells := by
  obtain ⟨hi, rfl⟩ := List.getElem?_eq_some_iff.1 hx
  rw [flat_drop i h, List.drop_eq_getElem_cons hi, List.flatMap_cons, List.take_append, h _ (List.getElem_mem hi)]
  simp [List.take_of_length_le (Nat.le_of_eq (h _ (List.getElem_mem hi)))]
theorem flat_set {i : Nat} {v : VV} (h : ∀ x ∈ xs, x.cells.length = z) (hi : i < xs.length) (hv : v.cells.length = z) : (xs.set i v).flatMap VV.cells = setCells (xs.flatMap VV.cells) (i * z) v.cells := by
  rw [setCells_eq _ _ _ (by rw [flat_len h, hv]; calc i * z + z = (i + 1) * z := (Nat.succ_mul _ _).symm
                                _ ≤ xs.length * z := Nat.mul_le_mul_right _ hi)]
  rw [flat_take i h, hv, show i * z + z = (i + 1) * z from (Nat.succ_mul _ _).symm, flat_drop (i + 1) h, List.set_eq_take_append_cons_drop, if_pos hi]
  simp
theorem widths_set {i : Nat} {v : VV} (h : ∀ x ∈ xs, x.cells.length = z) (hv : v.cells.length = z) : ∀ x ∈ xs.set i v, x.cells.length = z := by
  intro x hx
  rcases List.mem_or_eq_of_mem_set hx with hx | hx
  · exact h x hx
  · exact hx ▸ hv
theorem repl_get {α : Type} (l : List α) (hl : 0 < l.length) : ∀ (n k : Nat), (List.replicate n l).flatten[k]? = if k < n * l.length then l[k % l.length]? else none
  | 0, k => by simp
  | n + 1, k => by
    rw [List.replicate_succ, List.flatten_cons]
    by_cases hk : k < l.length
    · rw [List.getElem?_append_left hk, if_pos (by rw [Nat.succ_mul]; omega), Nat.mod_eq_of_lt hk]
    · rw [List.getElem?_append_right (by omega), repl_get l hl n (k - l.length)]
      rw [Nat.mod_eq_sub_mod (a := k) (by omega), Nat.succ_mul]
      by_cases h : k - l.length < n * l.length
      · rw [if_pos h, if_pos (by omega)]
      · rw [if_neg h, if_neg (by omega)]
theorem made_list (z : Array Value) (hz : 0 < z.size) (n : Nat) : ((Array.range (n * z.size)).map (z[· % z.size]!)).toList = (List.replicate n z.toList).flatten := by
  refine List.ext_getElem? fun k => ?_
  rw [repl_get _ (by simpa using hz)]
  simp only [Array.length_toList, Array.toList_map, Array.toList_range, List.getElem?_map]
  by_cases hk : k < n * z.size
  · rw [if_pos hk, List.getElem?_range hk]
    have := Nat.mod_lt k hz
    simp [this]
  · rw [if_neg hk]
    simp; omega
end
section
variable {P : Program} {ti : TypeId → Option TI} {G : Gh} {w : World}
theorem zeroV_cells {i : TI} (hti : TIok P ti) {t : TypeId} (hi : ti t = some i) : (zeroV i).cells = i.zero.map liftc := by
  obtain ⟨inf, z, h1, h2, h3, h4, h5, h6, h7, h8⟩ := hti.info t i hi
  unfold zeroV
  cases hk : i.k <;> simp only [hk] at h8 ⊢ <;> first
    | rfl
    | (have hl : i.zero.length = 1 := h6.trans h8
       match hz : i.zero, hl with
       | [a], _ => simp only [List.map_cons, List.map_nil, List.headD_cons]; unfold liftc; split <;> rfl)
theorem liftc_ok {m : Value} (h : m.oneCell' = true) : cellOk (liftc m) = true := by
  unfold liftc; split
  · rfl
  · cases m <;> simp_all [Value.oneCell', cellOk]
theorem repl_flat {v : VV} : ∀ n, (List.replicate n v).flatMap VV.cells = (List.replicate n v.cells).flatten
  | 0 => rfl
  | n + 1 => by rw [List.replicate_succ, List.flatMap_cons, repl_flat n, List.replicate_succ, List.flatten_cons]
theorem DRs.repl {pd : Nat → Nat → Prop} {cs : List VV} {ms : List Value} (h : DRs pd w cs ms) : ∀ n, DRs pd w (List.replicate n cs).flatten (List.replicate n ms).flatten
  | 0 => .nil
  | n + 1 => by rw [List.replicate_succ, List.replicate_succ, List.flatten_cons, List.flatten_cons]; exact h.app (DRs.repl h n)
end
end Go.Proofs.YtcfeihimmboghaaGreatDoor.VI

end
section
namespace Go.Proofs.YtcfeihimmboghaaGreatDoor.VI
open Go Go.RowKit
set_option linter.unusedVariables false
set_option linter.unusedSimpArgs false
section
variable {P : Program} {NG : Nat} {GW : World → Prop} {io : List Nat} {w0 : World} {pd0 : Nat → Nat → Prop} {G G' : Gh} {env : Env} {a : Act} {w w' : World} {ti : TypeId → Option TI}
variable {R : Type} {K : Env → Option R} {r : R} {next : Act → World → Prop} {Q : Exit → Act → World → Prop} {o : Oper} {C : Cx} {ops : List Oper} {dr : Option (List Nat)}
def isAgg' (i : TI) : Bool := match i.k with
  | .agg _ => true
  | _ => false
theorem run_isAgg' (hti : TIok P ti) {t : TypeId} {i : TI} (hi : ti t = some i) : (isAgg t).run P w = .ok (isAgg' i) w := by
  have hk := hti.kind t i hi
  unfold isAgg isAgg'
  cases h : i.k <;> simp only [h] at hk
  all_goals first
    | (obtain ⟨fs, hu, _⟩ := hk; simp [run_underlying hu]; done)
    | (obtain ⟨e, hu⟩ := hk; simp [run_underlying hu]; done)
    | (simp [run_underlying hk]; done)
theorem run_sizeOf' (hti : TIok P ti) {t : TypeId} {i : TI} (hi : ti t = some i) : (sizeOf t).run P w = .ok i.sz w := by
  obtain ⟨inf, z, h1, h2, h3, h4, h5, h6, h7, h8⟩ := hti.info t i hi
  simp [sizeOf, typeInfo, h1, h4]
theorem run_zeroValue' (hti : TIok P ti) {t : TypeId} {i : TI} (hi : ti t = some i) : ∃ z, (zeroValue t).run P w = .ok z w ∧ z.cells.toList = i.zero := by
  obtain ⟨inf, z, h1, h2, h3, h4, h5, h6, h7, h8⟩ := hti.info t i hi
  exact ⟨z, by simp [zeroValue, typeInfo, h1, h2], h3⟩
def ldv (i : TI) (ms : List Value) : Value := if isAgg' i then .agg ms.toArray else ms.headD undef
theorem run_load' (hti : TIok P ti) {t : TypeId} {i : TI} (hi : ti t = some i) {g off : Nat} {ms : List Value} (hl : ms.length = i.sz) (hc : ∀ (k : Nat) u, ms[k]? = some u → w.cell? ⟨g, off + k, none⟩ = some u) :
    (Instr.loadAt t (.pointer (some ⟨g, off, none⟩))).run P w = .ok (ldv i ms) w := by
  have hc' : ∀ j v, ms[j]? = some v → w.cell? ((⟨g, off, none⟩ : Addr).add j) = some v := fun j v h => by rw [Addr.add_lit]; exact hc j v h
  have hr := run_loadCells_list (P := P) (w := w) ⟨g, off, none⟩ ms hc'
  unfold Instr.loadAt Instr.sureAddr loadVar ldv
  cases hagg : isAgg' i
  · obtain ⟨inf, z, h1, h2, h3, h4, h5, h6, h7, h8⟩ := hti.info t i hi
    have h1' : i.sz = 1 := by
      unfold isAgg' at hagg
      cases h : i.k <;> simp [h] at hagg h8 <;> exact h8
    match ms, hl with
    | [m], _ =>
      have := hc 0 m rfl
      simp [run_isAgg' hti hi, hagg] at this ⊢
      rw [this]
    | [], hl => simp at hl; omega
    | _ :: _ :: _, hl => simp at hl; omega
  · simp [run_isAgg' hti hi, hagg, run_sizeOf' hti hi]
    rw [← hl, hr]; rfl
theorem mkv_rel {pd : Nat → Nat → Prop} (hti : TIok P ti) {t : TypeId} {i : TI} (hi : ti t = some i) {c : List VV} {ms : List Value} (hr : DRs pd w (c.map VV.dv) ms) (hl : c.length = i.sz) (h1 : ∀ u ∈ ms, u.oneCell' = true) : DR pd w (mkv i c) (ldv i ms) := by
  obtain ⟨inf, z, _, h2, h3, h4, h5, h6, h7, h8⟩ := hti.info t i hi
  unfold mkv ldv isAgg'
  cases hk : i.k <;> simp only [hk] at h8 ⊢ <;> first
    | exact .ag _ _ hr h1
    | (match c, ms, hr, hl with
       | [v], [m], .cons _ _ _ _ h _, _ => exact h
       | [], _, _, hl => simp at hl; omega
       | _ :: _ :: _, _, _, hl => simp at hl; omega)
theorem cellsAt_some {cs c : List VV} {off n : Nat} (h : cellsAt cs off n = some c) : c = (cs.drop off).take n ∧ c.length = n := by
  unfold cellsAt at h
  split at h
  · cases h; exact ⟨rfl, by assumption⟩
  · cases h
theorem CellR.data {p : Nat × Nat} {v : VV} {m : Value} (h : CellR G w p v m) : DR G.pd w v.dv m := by
  cases v <;> first
    | (have h' : DR G.pd w _ m := h; rw [← h'.dv] at h'; exact h')
    | exact OwnR.dr h
    | (cases h; exact .sl0 _ _)
theorem drop_take_get {α : Type} {l : List α} {off n k : Nat} {v : α} (h : ((l.drop off).take n)[k]? = some v) : l[off + k]? = some v := by
  rw [List.getElem?_take] at h
  split at h
  · rwa [List.getElem?_drop] at h
  · cases h
theorem vload_view (hti : TIok P ti) {t : TypeId} {i : TI} (hi : ti t = some i) {cs : List VV} {off : Nat} {v : VV} {m : Value} (hv : vload i cs off = some v) (h : ViewR G w cs m) : ∃ g o, m = .pointer (some ⟨g, o, none⟩) ∧ ∃ u, (Instr.loadAt t (.pointer (some ⟨g, o + off, none⟩))).run P w = .ok u w ∧ DR G.pd w v u := by
  obtain ⟨g, o, ms, rfl, hr, h1, hc⟩ := h
  unfold vload at hv
  split at hv
  · rename_i c hcc
    cases hv
    obtain ⟨rfl, hl⟩ := cellsAt_some hcc
    have hd := (hr.drop off).take i.sz
    refine ⟨g, o, rfl, ldv i ((ms.drop off).take i.sz), run_load' hti hi (by rw [← hd.length]; exact hl) (fun k u hu => ?_), mkv_rel hti hi (by rw [hd.dv]; exact hd) hl fun u hu => h1 u (List.mem_of_mem_drop (List.mem_of_mem_take hu))⟩
    have := hc (off + k) u (drop_take_get hu)
    rw [Nat.add_assoc]; exact this.1
  · cases hv
theorem box_cell {g : Nat} {ms : List Value} {ty : TypeId} {fr : Nat × Nat} (hh : w.heap[g]? = some (.cells ms.toArray ty fr)) (k : Nat) : w.cell? ⟨g, k, none⟩ = ms[k]? := by
  simp [World.cell?, hh]
theorem vload_box (hti : TIok P ti) {t : TypeId} {i : TI} (hi : ti t = some i) {u : Nat} {cs : List VV} {off : Nat} {v : VV} {m : Value} (hv : vload i cs off = some v) (h : BoxR G w u cs m) : ∃ n, (Instr.loadAt t (.pointer (some ⟨G.bl u, off, none⟩))).run P w = .ok n w ∧ DR G.pd w v n := by
  obtain ⟨ms, ty, rfl, hh, ho, hn, hl, hc, h1⟩ := h
  unfold vload at hv
  split at hv
  · rename_i c hcc
    cases hv
    obtain ⟨rfl, hlc⟩ := cellsAt_some hcc
    have hlen : ((cs.drop off).take i.sz).length = ((ms.drop off).take i.sz).length := by simp [hl]
    refine ⟨ldv i ((ms.drop off).take i.sz), run_load' hti hi (by rw [← hlen]; exact hlc) (fun k u hu => ?_), mkv_rel hti hi (.of (by simp [hl]) fun k a b ha hb => ?_) hlc fun u hu => h1 u (List.mem_of_mem_drop (List.mem_of_mem_take hu))⟩
    · rw [box_cell hh]; exact drop_take_get hu
    · rw [List.getElem?_map] at ha
      obtain ⟨x, hx, rfl⟩ := Option.map_eq_some_iff.1 ha
      exact (hc (off + k) x b (drop_take_get hx) (drop_take_get hb)).data
  · cases hv
theorem Sim.away (hs : Sim NG GW io w0 pd0 G env a w) {t : Nat} {e : TypeId} {sz : Nat} {xs : List VV} (ht : get env t = .ow e sz xs) (p : Nat × Nat) :
    Sim NG GW io w0 pd0 (rehome G (a.eval (.tmp t)) p) (env.set t (.sl xs)) a w ∧ OwnR (rehome G (a.eval (.tmp t)) p) w p e sz xs (a.eval (.tmp t)) := by
  have h : OwnR G w (t, 0) e sz xs (a.eval (.tmp t)) := by have := get_slot hs t; rw [ht] at this; exact this
  refine ⟨hs.evo h.evo (by simp) ?_ hs.fr hs.gw (h.owns hs) (h.ownsp hs) hs.dv hs.old, h.home⟩
  intro u v m hv hm
  by_cases hu : t = u
  · subst hu
    rw [List.getElem?_set, if_pos rfl] at hv
    split at hv
    · cases hv
      have hq : a.eval (.tmp t) = m := by
        obtain ⟨hlt, rfl⟩ := Array.getElem?_eq_some_iff.1 hm
        simp [Act.eval, hlt]
      rw [← hq]
      exact .inr (VR.slot (VR.of_dr (OwnR.dr (h.home (p' := p)))) _)
    · cases hv
  · rw [List.getElem?_set, if_neg hu] at hv
    exact .inl ⟨v, hv, rfl, fun e => hu e.symm, id, fun _ h => h.elim⟩
theorem Sim.write (hs : Sim NG GW io w0 pd0 G env a w) (gws : ∀ w w', GW w → Below NG w w' → GW w') {t : Nat} {ms ms' : List Value} {ty : TypeId} (hh : w.heap[G.bl t]? = some (.cells ms.toArray ty (0, 0))) (ho : G.own (G.bl t) = some (t, 0)) (hn : ∀ k, ¬ G.pd (G.bl t) k) (b : VV)
    (hb : ∀ w' : World, w'.heap[G.bl t]? = some (.cells ms'.toArray ty (0, 0)) → (∀ v m, DR G.pd w v m → DR G.pd w' v m) → (∀ p v m, p ≠ (t, 0) → CellR G w p v m → CellR G w' p v m) → SlotR G w' t b (a.eval (.tmp t))) :
    Sim NG GW io w0 pd0 G (env.set t b) a (w.setRow (G.bl t) ms'.toArray) := by
  have hnv : ∀ k, ¬ G.pv (G.bl t) k := fun k hk => hn k (hs.ownp _ k (by rw [ho]; simp) hk)
  have hcell : ∀ x k, x ≠ G.bl t → (w.setRow (G.bl t) ms'.toArray).cell? ⟨x, k, none⟩ = w.cell? ⟨x, k, none⟩ := fun x k hx => World.cell?_of_block (setRow_other w _ x _ hx)
  have hd : ∀ g k m, G.pd g k → w.cell? ⟨g, k, none⟩ = some m → G.pd g k ∧ (w.setRow (G.bl t) ms'.toArray).cell? ⟨g, k, none⟩ = some m := fun g k m h1 h2 => ⟨h1, by rw [hcell g k (fun e => hn k (e ▸ h1))]; exact h2⟩
  have E : Evo G w G (w.setRow (G.bl t) ms'.toArray) (fun u => u = t) (fun _ => False) := by
    refine ⟨hd, fun g k m h1 h2 => ⟨h1, by rw [hcell g k (fun e => hnv k (e ▸ h1))]; exact h2⟩, ?_, fun _ _ => rfl, rfl⟩
    intro g u j o h1 h2 h3
    have hne : g ≠ G.bl t := fun e => h3 (by rw [e, ho] at h1; exact (congrArg Prod.fst (Option.some.inj h1)).symm)
    exact ⟨(setRow_other w _ g _ hne).trans h2, h1, fun _ => Iff.rfl⟩
  obtain ⟨hlt, hge⟩ := hs.own _ _ ho
  refine hs.evo E (by simp) ?_ ?_ ?_ ?_ hs.ownp hs.dv hs.old
  · intro u v m hv hm
    by_cases hu : t = u
    · subst hu
      rw [List.getElem?_set, if_pos rfl] at hv
      split at hv
      · cases hv
        have hq : a.eval (.tmp t) = m := by
          obtain ⟨hlt, rfl⟩ := Array.getElem?_eq_some_iff.1 hm
          simp [Act.eval, hlt]
        rw [← hq]
        refine .inr (hb _ (setRow_heap w _ _ _ _ _ hh) (fun v m h => h.keep hd) fun p v m hp h => ?_)
        cases v <;> first
          | exact DR.keep hd h
          | exact h
          | (obtain ⟨ms, h2, hr, hz, h1, hl, hg⟩ := h
             refine ⟨ms, own_moves h2 (fun g o hgb hh => ?_), hr.keep hd, hz, h1, hl, hg⟩
             have hne : g ≠ G.bl t := fun e => hp (by have := (hg g hgb).1; rw [e, ho] at this; exact (Option.some.inj this).symm)
             exact (setRow_other w _ g _ hne).trans hh)
      · cases hv
    · rw [List.getElem?_set, if_neg hu] at hv
      exact .inl ⟨v, hv, rfl, fun e => hu e.symm, id, fun _ h => h.elim⟩
  · refine ⟨hs.fr.os, hs.fr.tape, hs.fr.output, by rw [setRow_size]; exact hs.fr.size, fun k h1 h2 => ?_⟩
    rw [setRow_other w _ k _ (fun e => by
      rw [← e] at hge
      rcases hge with h | h
      · omega
      · exact h2 h)]
    exact hs.fr.block k h1 h2
  · refine gws _ _ hs.gw ⟨rfl, rfl, rfl, by rw [setRow_size]; exact Nat.le_refl _, fun k hk => setRow_other w _ k _ (fun e => ?_)⟩
    rw [← e] at hge
    rcases hge with h | h
    · have := hs.ng; omega
    · have := hs.ngio _ h; omega
  · intro g p hp; rw [setRow_size]; exact hs.own g p hp
theorem run_store' (hti : TIok P ti) {t : TypeId} {i : TI} (hi : ti t = some i) {g off : Nat} {ms : List Value} {ty : TypeId} {v : Value} (hh : w.heap[g]? = some (.cells ms.toArray ty (0, 0))) (hl : v.cells.toList.length = i.sz) (hf : off + i.sz ≤ ms.length) (h1 : ∀ u ∈ v.cells.toList, u.oneCell' = true) :
    (Instr.storeAt t (.pointer (some ⟨g, off, none⟩)) v).run P w = .ok () (w.setRow g (setCells ms off v.cells.toList).toArray) := by
  have := run_storeCells_at (P := P) g off ty v.cells.toList 0 ms.toArray w hh (by simp at hl ⊢; omega) h1
  rw [setCells_eq _ _ _ (by omega)]
  unfold Instr.storeAt Instr.sureAddr storeVar
  have hl' : v.cells.size = i.sz := by simpa using hl
  simp only [Nat.add_zero] at this
  simp [run_sizeOf' hti hi, hl']
  simpa [hl'] using this
end
section
variable {P : Program} {NG : Nat} {GW : World → Prop} {io : List Nat} {w0 : World} {pd0 : Nat → Nat → Prop} {G G' : Gh} {env : Env} {a : Act} {w w' : World} {ti : TypeId → Option TI}
theorem DRs.drew {pd : Nat → Nat → Prop} {vs : List VV} {ms : List Value} (h : DRs pd w vs ms) : DRs pd w.drew vs ms := DRs.keep (w := w) (w' := w.drew) (pd' := pd) (fun _ _ _ h1 h2 => ⟨h1, h2⟩) h
theorem Sim.drew (hs : Sim NG GW io w0 pd0 G env a w) (gws : ∀ w w', GW w → Below NG w w' → GW w') : Sim NG GW io w0 pd0 G env a w.drew := by
  have E : Evo G w G w.drew (fun _ => False) (fun _ => False) := ⟨fun _ _ _ h1 h2 => ⟨h1, h2⟩, fun _ _ _ h1 h2 => ⟨h1, h2⟩, fun _ _ _ _ h1 h2 _ => ⟨h2, h1, fun _ => Iff.rfl⟩, fun _ _ => rfl, rfl⟩
  refine hs.evo E rfl (fun t v m hv hm => .inl ⟨v, hv, rfl, id, id, fun _ h => h.elim⟩) ⟨hs.fr.os, hs.fr.tape, hs.fr.output, hs.fr.size, hs.fr.block⟩ (gws _ _ hs.gw ((Below.refl NG w).drew)) hs.own hs.ownp hs.dv hs.old
theorem OwnR.nil {p : Nat × Nat} {e : TypeId} {sz : Nat} : OwnR G w p e sz [] (.slice none 0 0) :=
  ⟨[], World.ownsRow_nil w _ e sz, .nil, fun x h => (by cases h), fun u h => (by cases h), Nat.zero_le _, fun g h => (by simp [Value.ownBlock] at h)⟩
theorem Sim.row (hs : Sim NG GW io w0 pd0 G env a w) (gws : ∀ w w', GW w → Below NG w w' → GW w') (p : Nat × Nat) {e : TypeId} {sz cap : Nat} {xs : List VV} {ms : List Value} {cur : Array Value}
    (hcs : cur.size = cap * sz) (htk : cur.toList.take (xs.length * sz) = ms) (hl : ms.length = xs.length * sz) (hc : xs.length ≤ cap) (hm : cap ≤ maxLen) (hr : DRs G.pd w (xs.flatMap VV.cells) ms) (hz : ∀ x ∈ xs, x.cells.length = sz) (h1 : ∀ u ∈ ms, u.oneCell' = true) :
    ∃ G', Sim NG GW io w0 pd0 G' env a (w.alloc (.cells cur e)) ∧ OwnR G' (w.alloc (.cells cur e)) p e sz xs (.slice (some ⟨w.heap.size, 0, none⟩) xs.length cap) := by
  let g := w.heap.size
  let G' : Gh := ⟨fun x k => if x = g then k < xs.length * sz else G.pd x k, fun x k => if x = g then k < xs.length * sz else G.pv x k, G.bl, fun x => if x = g then some p else G.own x, G.B⟩
  have hlt : ∀ x k m, w.cell? ⟨x, k, none⟩ = some m → x ≠ g := fun x k m h e => by have := World.block_lt_of_cell? w _ h; simp only [g] at e; simp at this; omega
  have hkeep : ∀ x k m, w.cell? ⟨x, k, none⟩ = some m → (w.alloc (.cells cur e)).cell? ⟨x, k, none⟩ = some m := fun x k m h => by
    rw [World.cell?_of_block (hao_ w _ x (by have := World.block_lt_of_cell? w _ h; simpa using this))]; exact h
  have hd : ∀ x k m, G.pd x k → w.cell? ⟨x, k, none⟩ = some m → G'.pd x k ∧ (w.alloc (.cells cur e)).cell? ⟨x, k, none⟩ = some m := fun x k m h1 h2 => ⟨by simp only [G', if_neg (hlt x k m h2)]; exact h1, hkeep x k m h2⟩
  have E : Evo G w G' (w.alloc (.cells cur e)) (fun _ => False) (fun _ => False) := by
    refine ⟨hd, fun x k m h1 h2 => ⟨by simp only [G', if_neg (hlt x k m h2)]; exact h1, hkeep x k m h2⟩, ?_, fun t ht => rfl, rfl⟩
    intro x t j o h1 h2 _
    have hx : x < w.heap.size := (Array.getElem?_eq_some_iff.1 h2).1
    have hne : x ≠ g := by simp only [g]; omega
    exact ⟨(hao_ w _ x hx).trans h2, by simp only [G', if_neg hne]; exact h1, fun k => by simp only [G', if_neg hne]⟩
  refine ⟨G', hs.evo E rfl (fun t v m hv hm => .inl ⟨v, hv, rfl, id, id, fun _ h => h.elim⟩) (hs.fr.alloc (Nat.le_refl _) _) (gws _ _ hs.gw ((Below.refl _ w).alloc (by have := hs.ng; have := hs.fr.size; omega) _)) ?_ ?_ ?_ (fun x k h1 h2 => hs.old x k h1 (by
    simp only [G'] at h2
    rw [if_neg (by simp only [g]; have := hs.fr.size; omega)] at h2; exact h2)), ?_⟩
  · intro x q hx
    simp only [G'] at hx
    split at hx
    · rename_i e; subst e; exact ⟨by simp [g], .inl (by simp only [g]; exact hs.fr.size)⟩
    · have := hs.own x q hx; exact ⟨by simp; omega, this.2⟩
  · intro x k hx hk
    simp only [G'] at hx hk ⊢
    split
    · rename_i e; rw [if_pos e] at hk; exact hk
    · rename_i e; rw [if_neg e] at hk hx; exact hs.ownp x k hx hk
  · intro x k hk
    simp only [G'] at hk ⊢
    split
    · rename_i e; rw [if_pos e] at hk; exact hk
    · rename_i e; rw [if_neg e] at hk; exact hs.dv x k hk
  · refine ⟨ms, ⟨hl, .inr ⟨g, cap, cur, rfl, (by show G.B ≤ _; rw [hs.B]; exact hs.fr.size), heap_alloc_new w _, hc, hm, hcs, htk⟩⟩, hr.keep hd, hz, h1, Nat.le_trans hc hm, fun x hx => ?_⟩
    simp [Value.ownBlock] at hx
    subst hx
    exact ⟨if_pos rfl, fun k => by simp only [G', if_pos]; simp [g]⟩
theorem Sim.grow (hs : Sim NG GW io w0 pd0 G env a w) (gws : ∀ w w', GW w → Below NG w w' → GW w') {u : Nat} (p : Nat × Nat) {e : TypeId} {sz g cap : Nat} {xs ys : List VV} {ms ns : List Value} {cur : Array Value}
    (hu : ∃ ee zz, get env u = .ow ee zz xs ∨ (get env u = .nl ∧ xs = [])) (ha : OwnR G w (u, 0) e sz xs (.slice (some ⟨g, 0, none⟩) xs.length cap)) (hev : a.eval (.tmp u) = .slice (some ⟨g, 0, none⟩) xs.length cap)
    (hh : w.heap[g]? = some (.cells cur e (0, 0))) (hcs : cur.size = cap * sz) (htk : cur.toList.take (xs.length * sz) = ms) (hl : ms.length = xs.length * sz) (hln : ns.length = ys.length * sz)
    (hroom : xs.length + ys.length ≤ cap) (hm : cap ≤ maxLen) (hr : DRs G.pd w (ys.flatMap VV.cells) ns) (hz : ∀ x ∈ ys, x.cells.length = sz) (h1 : ∀ u ∈ ns, u.oneCell' = true) :
    ∃ G', Sim NG GW io w0 pd0 G' (env.set u (.sl xs)) a (w.setRow g (cur.toList.take (xs.length * sz) ++ ns ++ cur.toList.drop (xs.length * sz + ns.length)).toArray) ∧ OwnR G' (w.setRow g (cur.toList.take (xs.length * sz) ++ ns ++ cur.toList.drop (xs.length * sz + ns.length)).toArray) p e sz (xs ++ ys) (.slice (some ⟨g, 0, none⟩) (xs.length + ys.length) cap) := by
  obtain ⟨ms', ho, hr0, hz0, h10, hl0, hg0⟩ := ha
  have hog := hg0 g rfl
  have hms : ms' = ms := by
    rcases ho.2 with ⟨h, _⟩ | ⟨g', cap', cur', he, _, hh', _, _, _, ht'⟩
    · cases h
    · cases he
      rw [hh] at hh'
      cases hh'
      exact ht'.symm.trans htk
  subst hms
  let W := w.setRow g (cur.toList.take (xs.length * sz) ++ ns ++ cur.toList.drop (xs.length * sz + ns.length)).toArray
  let G' : Gh := ⟨fun x k => if x = g then k < (xs.length + ys.length) * sz else G.pd x k, fun x k => if x = g then k < (xs.length + ys.length) * sz else G.pv x k, G.bl, fun x => if x = g then some p else G.own x, G.B⟩
  have hmul : xs.length * sz ≤ (xs.length + ys.length) * sz := Nat.mul_le_mul_right _ (Nat.le_add_right _ _)
  have hW : W.heap[g]? = some (.cells (cur.toList.take (xs.length * sz) ++ ns ++ cur.toList.drop (xs.length * sz + ns.length)).toArray e (0, 0)) := setRow_heap w g _ _ _ _ hh
  have hfit : xs.length * sz + ns.length ≤ cur.toList.length := by
    rw [hln, ← Nat.add_mul]; simp only [Array.length_toList, hcs]; exact Nat.mul_le_mul_right _ hroom
  have hcell : ∀ x k m, (x = g → k < xs.length * sz) → w.cell? ⟨x, k, none⟩ = some m → W.cell? ⟨x, k, none⟩ = some m := by
    intro x k m hk hc
    by_cases hx : x = g
    · subst hx
      rw [box_cell hW]
      rw [cell_of_row w x k cur e (0, 0) hh] at hc
      have hk' := hk rfl
      rw [List.append_assoc, List.getElem?_append_left (by simp at hfit ⊢; omega), List.getElem?_take, if_pos hk']
      simpa using hc
    · rw [World.cell?_of_block (setRow_other w g x _ hx)]; exact hc
  have hd : ∀ x k m, G.pd x k → w.cell? ⟨x, k, none⟩ = some m → G'.pd x k ∧ W.cell? ⟨x, k, none⟩ = some m := by
    intro x k m h2 h3
    refine ⟨?_, hcell x k m (fun e => (hog.2 k).1 (e ▸ h2)) h3⟩
    simp only [G']
    split
    · rename_i e; have := (hog.2 k).1 (e ▸ h2); omega
    · exact h2
  have E : Evo G w G' W (fun t => t = u) (fun _ => False) := by
    refine ⟨hd, ?_, ?_, fun t ht => rfl, rfl⟩
    · intro x k m h2 h3
      have hp : x = g → k < xs.length * sz := fun e => (hog.2 k).1 (hs.ownp g k (by rw [hog.1]; simp) (e ▸ h2))
      refine ⟨?_, hcell x k m hp h3⟩
      simp only [G']
      split
      · rename_i e; have := hp e; omega
      · exact h2
    · intro x t j o h2 h3 h4
      have hne : x ≠ g := fun e => h4 (by rw [e, hog.1] at h2; exact (congrArg Prod.fst (Option.some.inj h2)).symm)
      exact ⟨(setRow_other w g x _ hne).trans h3, by simp only [G', if_neg hne]; exact h2, fun k => by simp only [G', if_neg hne]⟩
  obtain ⟨hgl, hge⟩ := hs.own g _ hog.1
  have hgB : G.B ≤ g := (ho.lt g rfl).1
  refine ⟨G', hs.evo E (by simp) ?_ ?_ ?_ ?_ ?_ ?_ (fun x k h1 h2 => hs.old x k h1 (by
    simp only [G'] at h2
    rw [if_neg (by rw [hs.B] at hgB; omega)] at h2; exact h2)), ?_⟩
  · intro t v m hv hm
    by_cases htu : u = t
    · subst htu
      rw [List.getElem?_set, if_pos rfl] at hv
      split at hv
      · cases hv
        have hq : a.eval (.tmp u) = m := by
          obtain ⟨hlt, rfl⟩ := Array.getElem?_eq_some_iff.1 hm
          simp [Act.eval, hlt]
        rw [← hq, hev]
        exact .inr (VR.slot (VR.of_dr ((OwnR.dr (p := (u, 0)) ⟨ms', ho, hr0, hz0, h10, hl0, hg0⟩).keep hd)) _)
      · cases hv
    · rw [List.getElem?_set, if_neg htu] at hv
      exact .inl ⟨v, hv, rfl, fun e => htu e.symm, id, fun _ h => h.elim⟩
  · refine ⟨hs.fr.os, hs.fr.tape, hs.fr.output, by rw [setRow_size]; exact hs.fr.size, fun k h1 h2 => ?_⟩
    rw [setRow_other w _ k _ (fun e => by
      rw [← e] at hge
      rcases hge with h | h
      · omega
      · exact h2 h)]
    exact hs.fr.block k h1 h2
  · refine gws _ _ hs.gw ⟨rfl, rfl, rfl, by rw [setRow_size]; exact Nat.le_refl _, fun k hk => setRow_other w _ k _ (fun e => ?_)⟩
    rw [← e] at hge
    rcases hge with h | h
    · have := hs.ng; omega
    · have := hs.ngio _ h; omega
  · intro x q hx
    simp only [G'] at hx
    rw [setRow_size]
    split at hx
    · rename_i e; subst e; exact ⟨hgl, hge⟩
    · exact hs.own x q hx
  · intro x k hx hk
    simp only [G'] at hx hk ⊢
    split
    · rename_i e; rw [if_pos e] at hk; exact hk
    · rename_i e; rw [if_neg e] at hk hx; exact hs.ownp x k hx hk
  · intro x k hk
    simp only [G'] at hk ⊢
    split
    · rename_i e; rw [if_pos e] at hk; exact hk
    · rename_i e; rw [if_neg e] at hk; exact hs.dv x k hk
  · refine ⟨ms' ++ ns, ⟨by rw [List.length_append, hl, hln, List.length_append, Nat.add_mul], .inr ⟨g, cap, _, by rw [List.length_append], hgB, hW, by rw [List.length_append]; exact hroom, hm, ?_, ?_⟩⟩, ?_, ?_, ?_, ?_, ?_⟩
    · simp only [List.size_toArray, List.length_append, List.length_take, List.length_drop, Array.length_toList] at hfit ⊢
      omega
    · rw [List.length_append, Nat.add_mul, ← hln]
      simp only
      rw [htk, ← hl, ← List.length_append]
      exact List.take_left
    · rw [List.flatMap_append]; exact (hr0.keep hd).app (hr.keep hd)
    · intro x hx
      rcases List.mem_append.1 hx with hx | hx
      · exact hz0 x hx
      · exact hz x hx
    · intro v hv
      rcases List.mem_append.1 hv with hv | hv
      · exact h10 v hv
      · exact h1 v hv
    · rw [List.length_append]; omega
    · intro x hx
      simp [Value.ownBlock] at hx
      subst hx
      exact ⟨if_pos rfl, fun k => by simp only [G', if_pos, List.length_append]⟩
theorem append_run (hti : TIok P ti) (hs : Sim NG GW io w0 pd0 G env a w) (gws : ∀ w w', GW w → Below NG w w' → GW w') {t ty e : TypeId} {i ie : TI} (hi : ti t = some i) (hk : i.k = .slice e) (hie : ti e = some ie) (h0 : 0 < ie.sz) (hb0 : 0 < ie.bytes)
    {u : Nat} (p : Nat × Nat) {xs ys : List VV} {my : Value} (hu : get env u = .ow e ie.sz xs ∨ (get env u = .nl ∧ xs = [])) (hy : DR G.pd w (.sl ys) my) (hz : ∀ x ∈ ys, x.cells.length = ie.sz) (hb : (xs.length + ys.length) * ie.bytes ≤ 140737488355328) :
    ∃ G' v' w', (Builtin.append_ #[t, t] ty #[a.eval (.tmp u), my]).run P w = .ok v' w' ∧ Sim NG GW io w0 pd0 G' (env.set u (.sl xs)) a w' ∧ OwnR G' w' p e ie.sz (xs ++ ys) v' := by
  have hut := hti.kind t i hi
  rw [hk] at hut
  simp only at hut
  obtain ⟨inf, z, hinf, hzz, hzc, hsz, hby, hzl, hz1, _⟩ := hti.info e ie hie
  have hcap : xs.length + ys.length ≤ 140737488355328 := Nat.le_trans (Nat.le_mul_of_pos_right _ hb0) hb
  have hO : OwnR G w (u, 0) e ie.sz xs (a.eval (.tmp u)) := by
    have := get_slot hs u
    rcases hu with hu | ⟨hu, rfl⟩
    · rw [hu] at this; exact this
    · rw [hu] at this
      have h : a.eval (.tmp u) = .slice none 0 0 := this
      rw [h]; exact OwnR.nil
  have hset : Sim NG GW io w0 pd0 G (env.set u (.sl xs)) a w := by
    have hp := hs.put (some u) (v := .sl xs) (m := a.eval (.tmp u)) (fun d hd => by cases hd; exact VR.slot (VR.of_dr hO.dr) _)
    have ha : a.put (some u) (a.eval (.tmp u)) = a := by
      simp only [Act.put, Act.eval]
      congr 1
      by_cases hlt : u < a.tmps.size
      · refine Array.ext (by simp) fun i h1 h2 => ?_
        rw [Array.getElem_setIfInBounds (by simpa using h1)]
        split
        · rename_i e; subst e; simp [hlt]
        · rfl
      · simp [Array.setIfInBounds, hlt]
    rw [ha] at hp
    exact hp
  have hsrc : (∃ A c, my = .slice A 0 c ∧ ys = []) ∨ ∃ g off c ns, my = .slice (some ⟨g, off, none⟩) ys.length c ∧ DRs G.pd w (ys.flatMap VV.cells) ns ∧ (∀ v ∈ ns, v.oneCell' = true) ∧ ∀ (k : Nat) m, ns[k]? = some m → w.cell? ⟨g, off + k, none⟩ = some m := by
    cases hy with
    | sl0 A c => exact .inl ⟨A, c, rfl, rfl⟩
    | sl _ g off c sz ns hc hm hz' hr h1 hw => exact .inr ⟨g, off, c, ns, rfl, hr, h1, fun k m h => (hw k m h).1⟩
  obtain ⟨ms, ho, hr, hzx, h1, hl, hg⟩ := hO
  rcases hsrc with ⟨A, c, rfl, rfl⟩ | ⟨g, off, c, ns, rfl, hrn, h1n, hcn⟩
  ·
    refine ⟨rehome G (a.eval (.tmp u)) p, a.eval (.tmp u), w, ?_, ?_, ?_⟩
    · have hfc : (Builtin.firstCells inf.size 0 (.slice A 0 c)).run P w = .ok #[] w := by
        cases A <;> simp [Builtin.firstCells, loadCells, loadCellsFrom]
      rcases ho.2 with ⟨hv, hn⟩ | ⟨g, cap, cur, hv, _, hh, hnc, _⟩
      · rw [hv]
        simp [Builtin.append_, run_underlying hut, sizeOf, typeInfo, hinf, Builtin.lenOf, hfc]
      · rw [hv]
        simp [Builtin.append_, run_underlying hut, sizeOf, typeInfo, hinf, Builtin.lenOf, hfc, hnc, storeCells]
    · have h : OwnR G w (u, 0) e ie.sz xs (a.eval (.tmp u)) := ⟨ms, ho, hr, hzx, h1, hl, hg⟩
      refine hs.evo h.evo (by simp) ?_ hs.fr hs.gw (h.owns hs) (h.ownsp hs) hs.dv hs.old
      intro t' v m hv hm
      by_cases hu' : u = t'
      · subst hu'
        rw [List.getElem?_set, if_pos rfl] at hv
        split at hv
        · cases hv
          have hq : a.eval (.tmp u) = m := by
            obtain ⟨hlt, rfl⟩ := Array.getElem?_eq_some_iff.1 hm
            simp [Act.eval, hlt]
          rw [← hq]
          exact .inr (VR.slot (VR.of_dr (OwnR.dr (h.home (p' := p)))) _)
        · cases hv
      · rw [List.getElem?_set, if_neg hu'] at hv
        exact .inl ⟨v, hv, rfl, fun e => hu' e.symm, id, fun _ h => h.elim⟩
    · rw [List.append_nil]; exact OwnR.home (p := (u, 0)) ⟨ms, ho, hr, hzx, h1, hl, hg⟩
  · have hln : ns.length = ys.length * ie.sz := by rw [← hrn.length, flat_len hz]
    have hcn' : ∀ j v, ns[j]? = some v → w.cell? ((⟨g, off, none⟩ : Addr).add j) = some v := fun j v h => by rw [Addr.add_lit]; exact hcn j v h
    have hzs : z.cells.size = ie.sz := by have : z.cells.toList.length = ie.zero.length := by rw [hzc]
                                          simp at this; omega
    rcases ho.2 with ⟨hv, hn⟩ | ⟨gx, cap, cur, hv, _, hh, hnc, hcm, hcs, htk⟩
    ·
      obtain rfl : xs = [] := List.eq_nil_of_length_eq_zero hn
      by_cases hys : ys.length = 0
      · obtain rfl : ys = [] := List.eq_nil_of_length_eq_zero hys
        refine ⟨G, .slice none 0 0, w, ?_, hset, OwnR.nil⟩
        rw [hv]
        have hfc : (Builtin.firstCells inf.size 0 (.slice (some ⟨g, off, none⟩) 0 c)).run P w = .ok #[] w := by
          simp [Builtin.firstCells, loadCells, loadCellsFrom]
        simp [Builtin.append_, run_underlying hut, sizeOf, typeInfo, hinf, Builtin.lenOf, hfc]
      · have hrun := run_append_nil (P := P) w t ty e inf z hut hinf hzz ⟨g, off, none⟩ ys.length c ns (by rw [hln, hsz]) hcn' (by omega) (by simp at hcap; omega) (by rw [hby]; simp at hb; omega)
        have hge := grownCap_ge w ys.length 0 e
        have hgm := grownCap_le_maxLen w ys.length 0 e (by simp at hcap; simp only [maxLen]; omega)
        obtain ⟨G', hs', hO'⟩ := (hset.drew gws).row gws p (e := e) (sz := ie.sz) (cap := grownCap w ys.length 0 e) (xs := ys) (ms := ns) (cur := ns.toArray ++ Builtin.zeroCells z.cells (grownCap w ys.length 0 e - ys.length))
          (by simp only [Array.size_append, List.size_toArray, size_zeroCells, hzs, hln, ← Nat.add_mul]; congr 1; omega) (by rw [← hln]; simp only [Array.toList_append]; exact List.take_left) hln hge hgm (DRs.drew hrn) hz h1n
        rw [hv]
        exact ⟨G', _, _, hrun, hs', hO'⟩
    · have hown : OwnR G w (u, 0) e ie.sz xs (a.eval (.tmp u)) := ⟨ms, ho, hr, hzx, h1, hl, hg⟩
      by_cases hroom : xs.length + ys.length ≤ cap
      · have hfit : xs.length * inf.size + ns.length ≤ cur.size := by rw [hsz, hln, hcs, ← Nat.add_mul]; exact Nat.mul_le_mul_right _ hroom
        have hrun := run_append_room (P := P) w t ty e inf hut hinf gx xs.length cap cur hh ⟨g, off, none⟩ ys.length c ns (by rw [hln, hsz]) hcn' h1n hroom hfit
        rw [hv] at hown
        obtain ⟨G', hs', hO'⟩ := hs.grow gws p (u := u) (ys := ys) (ns := ns) ⟨e, ie.sz, hu⟩ hown hv hh hcs htk ho.1 hln hroom hcm hrn hz h1n
        rw [hv]
        rw [hsz] at hrun
        exact ⟨G', _, _, hrun, hs', hO'⟩
      · have holds : ∀ j v, ms[j]? = some v → w.cell? ((⟨gx, 0, none⟩ : Addr).add j) = some v := ho.cells (g := gx) (by rw [hv]; rfl)
        have hrun := run_append_grow (P := P) w t ty e inf z hut hinf hzz ⟨gx, 0, none⟩ xs.length cap ms (by rw [ho.1, hsz]) holds ⟨g, off, none⟩ ys.length c ns (by rw [hln, hsz]) hcn' (by omega) (by omega) (growslice_fits (by omega) (by rw [hby]; exact hb))
        have hge := grownCap_ge w (xs.length + ys.length) cap e
        have hgm := grownCap_le_maxLen w (xs.length + ys.length) cap e (by simp only [maxLen]; omega)
        have hlen : (ms ++ ns).length = (xs.length + ys.length) * ie.sz := by rw [List.length_append, ho.1, hln, Nat.add_mul]
        obtain ⟨G', hs', hO'⟩ := (hset.drew gws).row gws p (e := e) (sz := ie.sz) (cap := grownCap w (xs.length + ys.length) cap e) (xs := xs ++ ys) (ms := ms ++ ns) (cur := ms.toArray ++ ns.toArray ++ Builtin.zeroCells z.cells (grownCap w (xs.length + ys.length) cap e - (xs.length + ys.length)))
          (by simp only [Array.size_append, List.size_toArray, size_zeroCells, hzs, ho.1, hln, ← Nat.add_mul]; congr 1; omega) (by rw [List.length_append, ← hlen]; simp only [Array.toList_append]; exact List.take_left) (by rw [hlen, List.length_append]) (by rw [List.length_append]; exact hge) hgm
          (by rw [List.flatMap_append]; exact DRs.drew (hr.app hrn))
          (fun x hx => by rcases List.mem_append.1 hx with hx | hx <;> first | exact hzx x hx | exact hz x hx)
          (fun v hv => by rcases List.mem_append.1 hv with hv | hv <;> first | exact h1 v hv | exact h1n v hv)
        rw [hv]
        rw [List.length_append] at hO'
        exact ⟨G', _, _, hrun, hs', hO'⟩
end
section
variable {P : Program} {NG : Nat} {GW : World → Prop} {io : List Nat} {w0 : World} {pd0 : Nat → Nat → Prop} {G G' : Gh} {env : Env} {a : Act} {w w' : World}
variable {R : Type} {K : Env → Option R} {r : R} {next : Act → World → Prop} {Q : Exit → Act → World → Prop} {o : Oper} {C : Cx} {ops : List Oper} {dr : Option (List Nat)}
theorem VR.sl_dr {xs : List VV} {m : Value} (h : VR G w (.sl xs) m) : DR G.pd w (.sl xs) m := h
theorem VR.ag_dr {xs : List VV} {m : Value} (h : VR G w (.ag xs) m) : DR G.pd w (.ag xs) m := h
theorem VR.tu_dr {xs : List VV} {m : Value} (h : VR G w (.tu xs) m) : DR G.pd w (.tu xs) m := h
theorem VR.pt_eq {t o : Nat} {m : Value} (h : VR G w (.pt t o) m) : m = .pointer (some ⟨G.bl t, o, none⟩) := h
theorem VR.vw_v {cs : List VV} {m : Value} (h : VR G w (.vw cs) m) : ViewR G w cs m := h
theorem VR.cells {v : VV} {m : Value} (h : VR G w v m) (hok : v.cells.all cellOk = true) : DRs G.pd w v.cells m.cells.toList ∧ ∀ u ∈ m.cells.toList, u.oneCell' = true := by
  cases v <;> first
    | exact DR.cells h hok
    | exact h.elim
    | (simp [VV.cells, cellOk] at hok; done)
theorem view_not {t : Nat} {v x : VV} (h : view t v = x) : (∀ e z xs, x ≠ .ow e z xs) ∧ x ≠ .nl := by
  subst h; cases v <;> simp [view]
theorem binop_sound {op : BinOp} {xt yt : TypeId} {x y : Operand} {b tb : Bool} {v : Value} (hb : b = true) (hop : o.op = .binOp op xt x y yt) (hs : Sim NG GW io w0 pd0 G env a w) (hv : vbin tb op (rdv env x) (rdv env y) = some (b, v)) (hbool : tb = true → P.underlying xt = some .bool) :
    (execOp a.eval o).run P w = .ok (.value v) w := by
  have hx := rdv_rel hs x
  have hy := rdv_rel hs y
  generalize rdv env x = vx at *
  generalize rdv env y = vy at *
  unfold vbin at hv
  split at hv
  · rename_i k n k' n'
    have ex := hx.sv
    have ey := hy.sv
    have hk : op = .shr ∨ k = k' := by
      split at hv
      · right; assumption
      · split at hv
        · left; rfl
        · cases hv
    have hv' : vint op k n n' = some (b, v) := by
      split at hv
      · exact hv
      · split at hv
        · exact hv
        · cases hv
    have := vint_run (P := P) (w := w) hv' hb xt k' hk
    unfold execOp
    rw [hop]
    simp only [ex, ey]
    have hg : (eqGuard op xt x y (.int k n) (.int k' n')).run P w = .ok () w := by
      unfold eqGuard
      cases op <;> simp
    simp [hg, this]
  · rename_i s s'
    have ex := hx.sv
    have ey := hy.sv
    have := vstr_run (P := P) (w := w) hv hb xt
    unfold execOp
    rw [hop]
    simp only [ex, ey]
    have hg : (eqGuard op xt x y (.string s) (.string s')).run P w = .ok () w := by
      unfold eqGuard
      cases op <;> simp
    simp [hg, this]
  · rename_i p q
    have ex := hx.sv
    have ey := hy.sv
    unfold execOp
    rw [hop]
    simp only [ex, ey]
    split at hv
    · cases hv
      have hu := hbool rfl
      simp [eqGuard, run_eql_bool w xt p q hu]
    · cases hv
      have hu := hbool rfl
      simp [eqGuard, run_neq_bool w xt p q hu]
    · cases hv
  · cases hv
end
end Go.Proofs.YtcfeihimmboghaaGreatDoor.VI

end
