/- A part of the proof that the law FnSort answers true at every input that its row speaks of. Conditions: the row's own. -/
import Derived.Test.YtcfeihimmboghaaGreatDoorMFnSort4
import Derived.Test.YtcfeihimmboghaaGreatDoorMFnSort3
import Derived.Test.YtcfeihimmboghaaGreatDoorVMore
section
namespace Go.Proofs.YtcfeihimmboghaaGreatDoor.VI
open Go Go.RowKit
set_option linter.unusedVariables false
set_option linter.unusedSimpArgs false
section
variable {P : Program} {NG : Nat} {GW : World → Prop} {io : List Nat} {w0 : World} {pd0 : Nat → Nat → Prop} {G G' : Gh} {env : Env} {a : Act} {w w' : World}
variable {R : Type} {K : Env → Option R} {r : R} {next : Act → World → Prop} {Q : Exit → Act → World → Prop} {o : Oper} {C : Cx} {ops : List Oper} {dr : Option (List Nat)}
theorem bite_none {α : Type} {b : Bool} {x : Option α} {r : α} (h : bite b x none = some r) : b = true ∧ x = some r := by
  cases b
  · cases h
  · exact ⟨rfl, h⟩
theorem isBool_ok (hti : TIok P C.ti) {t : TypeId} (h : isBool C t = true) : P.underlying t = some .bool := by
  unfold isBool at h
  split at h
  · rename_i i hi
    have := hti.kind t i hi
    split at h
    · rename_i hk; rw [hk] at this; exact this
    · cases h
  · cases h
theorem vnew_some {d : Nat} {b : VV} (h : vnew dr d b env K = some r) : K ((env.map (kill d)).set d b) = some r := by
  unfold vnew at h
  cases dr with
  | none => simpa [frcL_eq, vset_eq] using h
  | some l =>
    simp only at h
    split at h
    · rename_i hany
      rw [vset_eq] at h
      have hany := (Bool.or_eq_false_iff.1 hany).1
      have : env.map (kill d) = env := by
        rw [List.any_eq_false] at hany
        conv => rhs; rw [← List.map_id env]
        exact List.map_congr_left fun v hv => kill_none (by simpa using hany v hv)
      rw [this]; exact h
    · cases h
theorem box_sound (hs : Sim NG GW io w0 pd0 G env a w) (gws : ∀ w w', GW w → Below NG w w' → GW w') (hn : Nx NG GW io w0 pd0 K r next) {d : Nat} (hd : o.dst = some d) {cs : List VV} {ms : List Value} {ty : TypeId} (hl : cs.length = ms.length) (hc : ∀ (i : Nat) v u, cs[i]? = some v → ms[i]? = some u → ∀ (G : Gh) (w' : World) (p : Nat × Nat), (∀ v m, DR (G.pd) w v m → DR G.pd w' v m) → True) (hc' : ∀ (i : Nat) v u, cs[i]? = some v → ms[i]? = some u → (v = .nl ∧ u = .slice none 0 0) ∨ DR G.pd w v u) (h1 : ∀ u ∈ ms, u.oneCell' = true)
    (hrun : (execOp a.eval o).run P w = .ok (.value (.pointer (some ⟨w.heap.size, 0, none⟩))) (w.alloc (.cells ms.toArray ty))) (h : vnew dr d (.bx cs) env K = some r) : o.wp P a w next Q := by
  obtain ⟨G', hs'⟩ := hs.fresh gws d (.bx cs) ms ty (.pointer (some ⟨w.heap.size, 0, none⟩)) (fun G' _ hb ho hp hd => by
    refine ⟨ms, ty, by rw [hb], by rw [hb]; exact heap_alloc_new w _, by rw [hb]; exact ho, fun k hk => hp k (by rw [hb] at hk; exact hk), hl, fun i v u hv hu => ?_, h1⟩
    rcases hc' i v u hv hu with ⟨rfl, rfl⟩ | h
    · rfl
    · have h' := hd v u h
      cases v <;> first
        | exact h'
        | (cases h'))
  refine wp_value hrun (hn G' _ _ _ ?_ (vnew_some h))
  rw [hd]; exact hs'
theorem alloc_sound (hti : TIok P C.ti) (hs : Sim NG GW io w0 pd0 G env a w) (gws : ∀ w w', GW w → Below NG w w' → GW w') (hn : Nx NG GW io w0 pd0 K r next) {ty : TypeId} (hop : o.op = .alloc ty) {i : TI} {d : Nat} (hi : C.ti ty = some i) (hd : o.dst = some d) (h : vnew dr d (.bx (i.zero.map zcell)) env K = some r) : o.wp P a w next Q := by
  obtain ⟨inf, z, hinf, hzz, hzc, hsz, hby, hzl, hz1, _⟩ := hti.info ty i hi
  refine box_sound (ms := i.zero) (ty := ty) hs gws hn hd (by simp) (fun _ _ _ _ _ _ _ _ _ => trivial) ?_ hz1 ?_ h
  · intro k v u hv hu
    rw [List.getElem?_map, hu] at hv
    cases hv
    unfold zcell
    split
    · exact .inl ⟨rfl, rfl⟩
    · exact .inr (.s _)
  · have : i.zero.toArray = z.cells := by rw [← hzc]
    unfold execOp
    rw [hop]
    simp only [Instr.alloc, Sem.run_bind, zeroValue, typeInfo, run_program, Result.andThen_ok, hinf, Sem.run_pure, hzz, newVar, newRow, run_newObj]
    rw [this]
    rfl
theorem boxop_sound (hti : TIok P C.ti) (hs : Sim NG GW io w0 pd0 G env a w) (gws : ∀ w w', GW w → Below NG w w' → GW w') (hn : Nx NG GW io w0 pd0 K r next) {ty : TypeId} {x : Operand} (hop : o.op = .box ty x) {i : TI} {d : Nat} (hi : C.ti ty = some i) (hd : o.dst = some d) (hl : (rdv env x).cells.length = i.sz) (hok : (rdv env x).cells.all cellOk = true) (h : vnew dr d (.bx (rdv env x).cells) env K = some r) : o.wp P a w next Q := by
  obtain ⟨hr, h1⟩ := (rdv_rel hs x).cells hok
  refine box_sound (ms := (a.eval x).cells.toList) (ty := ty) hs gws hn hd hr.length (fun _ _ _ _ _ _ _ _ _ => trivial) (fun k v u hv hu => .inr (hr.at hv hu)) h1 ?_ h
  unfold execOp
  rw [hop]
  simp only [Instr.box, newVar, newRow, Sem.run_bind, run_newObj, Result.andThen_ok, Sem.run_pure]
  rfl
theorem getB_bx {t : Nat} {cs : List VV} (h : getB dr env t = .bx cs) : get env t = .bx cs := by
  unfold getB at h
  split at h
  · split at h
    · cases h
    · exact h
  · exact h
theorem load_sound (hti : TIok P C.ti) (hs : Sim NG GW io w0 pd0 G env a w) (hn : Nx NG GW io w0 pd0 K r next) {ty : TypeId} {x : Operand} (hop : o.op = .load ty x) (h : vop C ops dr o env K = some r) : o.wp P a w next Q := by
  have hx := rdv_rel hs x
  have hex : ∀ m, (Instr.loadAt ty (a.eval x)).run P w = .ok m w → (execOp a.eval o).run P w = .ok (.value m) w := by
    intro m hm
    unfold execOp
    rw [hop]
    simp [hm]
  simp only [vop, hop] at h
  split at h
  · cases h
  rename_i i hi
  split at h
  · rename_i cs hv
    rw [hv] at hx
    split at h
    · rename_i v hvl
      obtain ⟨g, off, hm, u, hrun, hu⟩ := vload_view hti hi hvl hx.vw_v
      rw [hm, ← Nat.add_zero off] at hex
      exact val_sound hs hn (hex _ hrun) (VR.of_dr hu) h
    · cases h
  · rename_i t off hv
    rw [hv] at hx
    have hpt := hx.pt_eq
    have hslot := get_slot hs t
    split at h
    · rename_i cs hcs
      have hcs := getB_bx hcs
      rw [hcs] at hslot
      have hbox : BoxR G w t cs (a.eval (.tmp t)) := hslot
      split at h
      ·
        split at h
        · rename_i e' e z xs hk hc
          rw [vset_eq] at h
          obtain ⟨ms, bty, hpm, hh, ho, hnp, hl, hcr, h1⟩ := hbox
          have hoff : off < ms.length := by rw [← hl]; exact (List.getElem?_eq_some_iff.1 hc).1
          have hm := List.getElem?_eq_getElem hoff
          have hO : OwnR G w (t, off + 1) e z xs ms[off] := hcr off _ _ hc hm
          have hsz : i.sz = 1 := by
            obtain ⟨_, _, _, _, _, _, _, _, _, h8⟩ := hti.info ty i hi
            rw [hk] at h8; exact h8
          have hrun := run_load' (P := P) (w := w) hti hi (g := G.bl t) (off := off) (ms := [ms[off]]) (by simp [hsz]) (fun k u hu => by
            cases k with
            | zero => cases hu; rw [box_cell hh]; exact hm
            | succ k => simp at hu)
          have hld : ldv i [ms[off]] = ms[off] := by simp [ldv, isAgg', hk]
          rw [hld, ← hpt] at hrun
          let d := o.dst.getD 0
          have hsim : Sim NG GW io w0 pd0 (rehome G ms[off] (d, 0)) (env.set t (.bx (cs.set off (.sl xs)))) a w := by
            refine hs.evo (hO.evo (p' := (d, 0))) (by simp) ?_ hs.fr hs.gw (hO.owns hs) (hO.ownsp hs) hs.dv hs.old
            intro u v m hv hm'
            by_cases hu : t = u
            · subst hu
              rw [List.getElem?_set, if_pos rfl] at hv
              split at hv
              · cases hv
                have hq : a.eval (.tmp t) = m := by
                  obtain ⟨hlt, rfl⟩ := Array.getElem?_eq_some_iff.1 hm'
                  simp [Act.eval, hlt]
                rw [← hq]
                refine .inr ⟨ms, bty, hpm, hh, ?_, hnp, by simp [hl], ?_, h1⟩
                · simp only [rehome]
                  by_cases hb : ms[off].ownBlock = some (G.bl t)
                  · obtain ⟨_, _, _, _, _, _, hg⟩ := hO
                    have := ho.symm.trans (hg _ hb).1
                    simp at this
                  · rw [if_neg hb]; exact ho
                · intro j v u' hj hj'
                  rw [List.getElem?_set] at hj
                  by_cases hjo : off = j
                  · subst hjo
                    rw [if_pos rfl] at hj
                    split at hj
                    · cases hj
                      rw [hm] at hj'
                      cases hj'
                      exact OwnR.dr (hO.home (p' := (d, 0)))
                    · cases hj
                  · rw [if_neg hjo] at hj
                    have h2 := hcr j v u' hj hj'
                    cases v <;> first
                      | exact OwnR.other hO h2 (by simp; omega)
                      | exact h2
              · cases hv
            · rw [List.getElem?_set, if_neg hu] at hv
              exact .inl ⟨v, hv, rfl, fun e => hu e.symm, id, fun _ h => h.elim⟩
          refine wp_value (hex _ hrun) (hn _ _ _ _ (hsim.put o.dst fun d' hd' => ?_) (vput_some h))
          have : d = d' := by simp [d, hd']
          subst this
          exact hO.home
        · rename_i e' hk hc
          obtain ⟨ms, bty, hpm, hh, ho, hnp, hl, hcr, h1⟩ := hbox
          have hoff : off < ms.length := by rw [← hl]; exact (List.getElem?_eq_some_iff.1 hc).1
          have hm := List.getElem?_eq_getElem hoff
          have hO : ms[off] = .slice none 0 0 := hcr off _ _ hc hm
          have hsz : i.sz = 1 := by
            obtain ⟨_, _, _, _, _, _, _, _, _, h8⟩ := hti.info ty i hi
            rw [hk] at h8; exact h8
          have hrun := run_load' (P := P) (w := w) hti hi (g := G.bl t) (off := off) (ms := [ms[off]]) (by simp [hsz]) (fun k u hu => by
            cases k with
            | zero => cases hu; rw [box_cell hh]; exact hm
            | succ k => simp at hu)
          have hld : ldv i [ms[off]] = ms[off] := by simp [ldv, isAgg', hk]
          rw [hld, ← hpt] at hrun
          exact wp_value (hex _ hrun) (hn _ _ _ _ (hs.put o.dst fun d _ => (show SlotR G w d .nl _ from hO)) (vput_some h))
        · cases h
      · split at h
        · rename_i v hvl
          obtain ⟨u, hrun, hu⟩ := vload_box hti hi hvl hbox
          rw [← hpt] at hrun
          exact val_sound hs hn (hex _ hrun) (VR.of_dr hu) h
        · cases h
    · cases h
  · cases h
theorem store_sound (hti : TIok P C.ti) (gws : ∀ w w', GW w → Below NG w w' → GW w') (hs : Sim NG GW io w0 pd0 G env a w) (hn : Nx NG GW io w0 pd0 K r next) {ty : TypeId} {x y : Operand} (hop : o.op = .store ty x y) (h : vop C ops dr o env K = some r) : o.wp P a w next Q := by
  have hx := rdv_rel hs x
  have hy := rdv_rel hs y
  have hex : ∀ w', (Instr.storeAt ty (a.eval x) (a.eval y)).run P w = .ok () w' → (execOp a.eval o).run P w = .ok .skip w' := by
    intro w' hm
    unfold execOp
    rw [hop]
    simp [hm]
  simp only [vop, hop] at h
  split at h
  case h_2 => cases h
  rename_i i hdst hi
  have hput : ∀ a : Act, a.put o.dst undef = a := fun a => by rw [hdst]; rfl
  split at h
  · rename_i t off hv
    rw [hv] at hx
    have hpt := hx.pt_eq
    have hslot := get_slot hs t
    split at h
    case h_2 => cases h
    rename_i cs hcs
    rw [hcs] at hslot
    obtain ⟨ms, bty, hpm, hh, ho, hnp, hl, hcr, h1⟩ := (hslot : BoxR G w t cs (a.eval (.tmp t)))
    split at h
    case isFalse => cases h
    rename_i hcond
    obtain ⟨hlen, hfit, hok⟩ := hcond
    obtain ⟨hr, hr1⟩ := hy.cells hok
    have hrl := hr.length
    have hrun := run_store' (P := P) (w := w) hti hi (g := G.bl t) (off := off) (ms := ms) (ty := bty) (v := a.eval y) hh (by rw [← hrl]; exact hlen) (by rw [← hl]; exact hfit) hr1
    rw [← hpt] at hrun
    have hms' : ∀ u ∈ setCells ms off (a.eval y).cells.toList, u.oneCell' = true := setCells_all (p := fun u : Value => u.oneCell' = true) _ _ _ hr1 h1
    have plain_store : ∀ (env' : Env) (G' : Gh) (hs' : Sim NG GW io w0 pd0 G' env' a w) (hbl : G'.bl = G.bl) (hcr' : ∀ (i : Nat) v u, cs[i]? = some v → ms[i]? = some u → CellR G' w (t, i + 1) v u) (ho' : G'.own (G.bl t) = some (t, 0)) (hnp' : ∀ k, ¬ G'.pd (G.bl t) k) (cs' : List VV) (hl' : cs'.length = cs.length)
        (hc' : ∀ (j : Nat) v u, cs'[j]? = some v → (setCells ms off (a.eval y).cells.toList)[j]? = some u → ∀ w' : World, (∀ v m, DR G'.pd w v m → DR G'.pd w' v m) → (∀ p v m, p ≠ (t, 0) → CellR G' w p v m → CellR G' w' p v m) → CellR G' w' (t, j + 1) v u) (hK : K (env'.set t (.bx cs')) = some r), o.wp P a w next Q := by
      intro env' G' hs' hbl hcr' ho' hnp' cs' hl' hc' hK
      have hw := hs'.write gws (t := t) (ms := ms) (ms' := setCells ms off (a.eval y).cells.toList) (ty := bty) (by rw [hbl]; exact hh) (by rw [hbl]; exact ho') (by rw [hbl]; exact hnp') (.bx cs') (fun w' hh' hd hcell => by
        refine ⟨setCells ms off (a.eval y).cells.toList, bty, by rw [hbl]; exact hpm, hh', by rw [hbl]; exact ho', by rw [hbl]; exact hnp', by rw [hl', setCells_len]; exact hl, fun j v u hv hu => hc' j v u hv hu w' hd hcell, hms'⟩)
      refine wp_skip' (hex _ hrun) (hn G' _ _ _ ?_ hK)
      rw [hput, ← hbl]; exact hw
    have hdata : K (env.set t (.bx (setCells cs off (rdv env y).cells))) = some r → o.wp P a w next Q := by
      intro hK
      refine plain_store env G hs rfl hcr ho hnp _ (setCells_len _ _ _) (fun j v u hv hu w' hd hcell => ?_) hK
      rw [setCells_eq _ _ _ (by omega)] at hv
      rw [setCells_eq _ _ _ (by omega)] at hu
      have hto : (cs.take off).length = off := by simp; omega
      have hto' : (ms.take off).length = off := by simp; omega
      by_cases hj : j < off
      · rw [List.append_assoc, List.getElem?_append_left (by omega), List.getElem?_take, if_pos hj] at hv
        rw [List.append_assoc, List.getElem?_append_left (by omega), List.getElem?_take, if_pos hj] at hu
        exact hcell _ _ _ (by simp) (hcr j v u hv hu)
      · by_cases hj2 : j < off + (rdv env y).cells.length
        · rw [List.append_assoc, List.getElem?_append_right (by omega), List.getElem?_append_left (by omega), hto] at hv
          rw [List.append_assoc, List.getElem?_append_right (by omega), List.getElem?_append_left (by omega), hto'] at hu
          have hdr := hr.at hv hu
          have h3 := hd _ _ hdr
          cases v <;> first
            | exact h3
            | (cases h3)
        · rw [List.getElem?_append_right (by simp; omega), List.getElem?_drop] at hv
          rw [List.getElem?_append_right (by simp at *; omega), List.getElem?_drop] at hu
          simp only [List.length_append, hto, hto'] at hv hu
          rw [show off + (rdv env y).cells.length + (j - (off + (rdv env y).cells.length)) = j by omega] at hv
          rw [show off + (a.eval y).cells.toList.length + (j - (off + (a.eval y).cells.toList.length)) = j by omega] at hu
          exact hcell _ _ _ (by simp) (hcr j v u hv hu)
    split at h
    · rename_i u
      split at h
      · rename_i e z xs hgu
        rw [vset_eq, vset_eq] at h
        have hut : u ≠ t := fun e => by rw [e, hcs] at hgu; cases hgu
        obtain ⟨hs', hO⟩ := hs.away hgu (t, off + 1)
        have hO0 : OwnR G w (u, 0) e z xs (a.eval (.tmp u)) := by have := get_slot hs u; rw [hgu] at this; exact this
        have hcells : (rdv env (.tmp u)).cells = [.sl xs] := by simp [rdv, hgu, view, VV.cells]
        rw [hcells] at hrl hlen
        simp at hlen
        have hmc : (a.eval (.tmp u)).cells.toList = [a.eval (.tmp u)] := by
          obtain ⟨_, ho2, _⟩ := hO0
          rcases ho2.2 with ⟨hv, _⟩ | ⟨g, cap, cur, hv, _⟩ <;> rw [hv] <;> rfl
        refine plain_store _ _ hs' rfl ?_ ?_ hnp (cs.set off (.ow e z xs)) (by simp) ?_ h
        · intro j v m hv hm
          have h2 := hcr j v m hv hm
          cases v <;> first
            | exact OwnR.other hO0 h2 (fun e => by simp at e)
            | exact h2
        · simp only [rehome]
          by_cases hb : (a.eval (.tmp u)).ownBlock = some (G.bl t)
          · obtain ⟨_, _, _, _, _, _, hg⟩ := hO0
            have := ho.symm.trans (hg _ hb).1
            simp at this; exact absurd this.symm hut
          · rw [if_neg hb]; exact ho
        · intro j v m hv hm w' hd hcell
          rw [hmc] at hm
          simp only [setCells] at hm
          rw [List.getElem?_set] at hv hm
          by_cases hj : off = j
          · subst hj
            rw [if_pos rfl] at hv hm
            split at hv
            case isFalse => cases hv
            split at hm
            case isFalse => cases hm
            cases hv; cases hm
            exact hcell (t, off + 1) (.ow e z xs) _ (by simp) hO
          · rw [if_neg hj] at hv hm
            have h2 := hcr j v m hv hm
            refine hcell _ _ _ (by simp) ?_
            cases v <;> first
              | exact OwnR.other hO0 h2 (fun e => by simp at e)
              | exact h2
      · rename_i hgu
        rw [vset_eq] at h
        have hnil : a.eval (.tmp u) = .slice none 0 0 := by have := get_slot hs u; rw [hgu] at this; exact this
        refine plain_store env G hs rfl hcr ho hnp (cs.set off .nl) (by simp) ?_ h
        intro j v m hv hm w' hd hcell
        rw [hnil] at hm
        simp only [Value.cells, setCells] at hm
        rw [List.getElem?_set] at hv hm
        by_cases hj : off = j
        · subst hj
          rw [if_pos rfl] at hv hm
          split at hv
          case isFalse => cases hv
          split at hm
          case isFalse => cases hm
          cases hv; cases hm
          rfl
        · rw [if_neg hj] at hv hm
          exact hcell _ _ _ (by simp) (hcr j v m hv hm)
      · rw [vset_eq] at h; exact hdata h
    · rw [vset_eq] at h; exact hdata h
  · rename_i t j sz hv
    rw [hv] at hx
    have hpt : a.eval x = .pointer (some ⟨G.bl t, j.toNat * sz, none⟩) := hx
    have hslot := get_slot hs t
    split at h
    case h_2 => cases h
    rename_i e sz' xs hcs
    rw [hcs] at hslot
    obtain ⟨ms, hpm, hh, ho, hnp, hr0, hz, h1, hlx, h0, hB⟩ := (hslot : MadeR G w t e sz' xs (a.eval (.tmp t)))
    split at h
    case isFalse => cases h
    rename_i hcond
    obtain ⟨hlen, hsz, hsz', hok⟩ := hcond
    obtain ⟨hjb, h⟩ := bite_none h
    rw [frc_eq, vset_eq] at h
    obtain ⟨hr, hr1⟩ := hy.cells hok
    have hrl := hr.length
    subst hsz'
    have hj : j.toNat < xs.length := by
      simp at hjb; omega
    · have hms : ms.length = xs.length * sz := by rw [← hr0.length, flat_len hz]
      have hfit : j.toNat * sz + sz ≤ ms.length := by
        rw [hms, ← Nat.succ_mul]; exact Nat.mul_le_mul_right _ hj
      have hrun := run_store' (P := P) (w := w) hti hi (g := G.bl t) (off := j.toNat * sz) (ms := ms) (ty := e) (v := a.eval y) hh (by rw [← hrl]; exact hlen) (by rw [hsz]; exact hfit) hr1
      rw [← hpt] at hrun
      have hw := hs.write gws (t := t) (ms := ms) (ms' := setCells ms (j.toNat * sz) (a.eval y).cells.toList) (ty := e) hh ho hnp (.mr e sz (xs.set j.toNat (rdv env y))) (fun w' hh' hd hcell => by
        refine ⟨setCells ms (j.toNat * sz) (a.eval y).cells.toList, by rw [List.length_set]; exact hpm, hh', ho, hnp, ?_, widths_set hz (hlen.trans hsz), setCells_all (p := fun u : Value => u.oneCell' = true) _ _ _ hr1 h1, by rw [List.length_set]; exact hlx, h0, hB⟩
        rw [flat_set hz hj (hlen.trans hsz)]
        have hk : ∀ {vs : List VV} {us : List Value}, DRs G.pd w vs us → DRs G.pd w' vs us := fun {vs us} h => .of h.length fun i v m hv hm => hd _ _ (h.at hv hm)
        exact (hk hr).setCells _ (hk hr0))
      refine wp_skip' (hex _ hrun) (hn G _ _ _ ?_ h)
      rw [hput]; exact hw
  · cases h
end
section
variable {P : Program} {NG : Nat} {GW : World → Prop} {io : List Nat} {w0 : World} {pd0 : Nat → Nat → Prop} {G G' : Gh} {env : Env} {a : Act} {w w' : World}
variable {R : Type} {K : Env → Option R} {r : R} {next : Act → World → Prop} {Q : Exit → Act → World → Prop} {o : Oper} {C : Cx} {ops : List Oper} {dr : Option (List Nat)}
theorem vget_some {β : Type} {xs : List VV} {i : Int} {f : VV → Option β} {r : β} (h : vget xs i f = some r) : ∃ v, xs[i.toNat]? = some v ∧ f v = some r := by
  unfold vget at h
  split at h
  · exact ⟨_, by assumption, h⟩
  · cases h
theorem DR.sl_inv {pd : Nat → Nat → Prop} {xs : List VV} {m : Value} (h : DR pd w (.sl xs) m) : (xs = [] ∧ ∃ A c, m = .slice A 0 c) ∨ ∃ (g off c sz : Nat) (ms : List Value), m = .slice (some ⟨g, off, none⟩) xs.length c ∧ xs.length ≤ c ∧ xs.length ≤ maxLen ∧ (∀ x ∈ xs, x.cells.length = sz) ∧ DRs pd w (xs.flatMap VV.cells) ms ∧ (∀ m ∈ ms, m.oneCell' = true) ∧ ∀ (k : Nat) m, ms[k]? = some m → w.cell? ⟨g, off + k, none⟩ = some m ∧ pd g (off + k) := by
  cases h with
  | sl0 A c => exact .inl ⟨rfl, A, c, rfl⟩
  | sl _ g off c sz ms hc hm hz hr h1 hw => exact .inr ⟨g, off, c, sz, ms, rfl, hc, hm, hz, hr, h1, hw⟩
theorem fieldAddr_sound (hti : TIok P C.ti) (hs : Sim NG GW io w0 pd0 G env a w) (hn : Nx NG GW io w0 pd0 K r next) {st : TypeId} {x : Operand} {f : Nat} (hop : o.op = .fieldAddr st x f) (h : vop C ops dr o env K = some r) : o.wp P a w next Q := by
  have hx := rdv_rel hs x
  simp only [vop, hop] at h
  split at h
  case h_2 => cases h
  rename_i i hi
  split at h
  case h_2 => cases h
  rename_i fs hk
  split at h
  case h_2 => cases h
  rename_i off sz hf
  split at h
  case isTrue => cases h
  rename_i hz
  have hkd := hti.kind st i hi
  rw [hk] at hkd
  obtain ⟨fields, hu, _, hfs⟩ := hkd
  obtain ⟨fd, inf, hfd, hoff, hinf, hsz⟩ := hfs f off sz hf
  have hrun : ∀ g o', a.eval x = .pointer (some ⟨g, o', none⟩) → (execOp a.eval o).run P w = .ok (.value (.pointer (some ⟨g, o' + off, none⟩))) w := by
    intro g o' he
    unfold execOp
    rw [hop]
    simp only [he]
    simp [Instr.fieldAt, run_underlying hu, hfd, Instr.sureAddr, fieldPlace, sizeOf, typeInfo, hinf, hsz, hz, Addr.add_lit, hoff]
  split at h
  · rename_i t o' hv
    rw [hv] at hx
    exact val_sound (v := .pt t (o' + off)) hs hn (hrun _ _ hx.pt_eq) (show _ = _ from rfl) h
  · rename_i cs hv
    rw [hv] at hx
    obtain ⟨g, o', ms, hm, hr, h1, hc⟩ := hx.vw_v
    have hV : ViewR G w (cs.drop off) (.pointer (some ⟨g, o' + off, none⟩)) := ⟨g, o' + off, ms.drop off, rfl, hr.drop off, fun u hu => h1 u (List.mem_of_mem_drop hu), fun k u hu => by
      rw [List.getElem?_drop] at hu
      rw [Nat.add_assoc]; exact hc _ u hu⟩
    exact val_sound (v := .vw (cs.drop off)) hs hn (hrun _ _ hm) hV h
  · cases h
theorem indexAddr_sound (hti : TIok P C.ti) (hs : Sim NG GW io w0 pd0 G env a w) (hn : Nx NG GW io w0 pd0 K r next) {t : TypeId} {x ix : Operand} (hop : o.op = .indexAddr t x ix) (h : vop C ops dr o env K = some r) : o.wp P a w next Q := by
  have hx := rdv_rel hs x
  have hix := rdv_rel hs ix
  simp only [vop, hop] at h
  split at h
  case h_2 => cases h
  rename_i i hi
  split at h
  case h_2 => cases h
  rename_i e hk
  split at h
  case h_2 => cases h
  rename_i ie hie
  have hu := hti.kind t i hi
  rw [hk] at hu
  simp only at hu
  obtain ⟨inf, z, hinf, hzz, hzc, hsz, hby, hzl, hz1, _⟩ := hti.info e ie hie
  have hrun : ∀ g off len cap k (j : Int), a.eval x = .slice (some ⟨g, off, none⟩) len cap → a.eval ix = .int k j → 0 ≤ j → j < (len : Int) → (execOp a.eval o).run P w = .ok (.value (.pointer (some ⟨g, off + j.toNat * ie.sz, none⟩))) w := by
    intro g off len cap k j he1 he2 h0 h1
    unfold execOp
    rw [hop]
    simp only [he1, he2]
    simp [Instr.indexAt, run_underlying hu, asIntOf, h0, h1, sizeOf, typeInfo, hinf, hsz, Addr.add_lit]
  split at h
  · rename_i xs k j hvx hvi
    rw [hvx] at hx
    rw [hvi] at hix
    have hj := hix.sv
    obtain ⟨hb, h⟩ := bite_none h
    simp at hb
    obtain ⟨v, hv, h⟩ := vget_some h
    split at h
    case isFalse => cases h
    rename_i hvl
    rcases hx.sl_dr.sl_inv with ⟨rfl, _⟩ | ⟨g, off, c, sz, ms, hm, hc, hml, hz, hr, h1, hw⟩
    · simp at hv
    · have hsz' : sz = ie.sz := by rw [← hz v (List.mem_of_getElem? hv)]; exact hvl
      subst hsz'
      have hel := flat_elem hz hv
      have hV : ViewR G w v.cells (.pointer (some ⟨g, off + j.toNat * ie.sz, none⟩)) := by
        refine ⟨g, _, (ms.drop (j.toNat * ie.sz)).take ie.sz, rfl, hel ▸ (hr.drop _).take _, fun u hu => h1 u (List.mem_of_mem_drop (List.mem_of_mem_take hu)), fun q u hu => ?_⟩
        have h2 := hw _ _ (drop_take_get hu)
        rw [Nat.add_assoc]
        exact ⟨h2.1, hs.dv _ _ h2.2⟩
      exact val_sound (v := .vw v.cells) hs hn (hrun _ _ _ _ _ _ hm hj hb.1 hb.2) hV h
  · rename_i u n k j hvx hvi
    rw [hvx] at hx
    rw [hvi] at hix
    obtain ⟨hb, h⟩ := bite_none h
    simp at hb
    have hm : a.eval x = .slice (some ⟨G.bl u, 0, none⟩) n n := hx
    refine val_sound (v := .pe u j ie.sz) hs hn (hrun _ _ _ _ _ _ hm hix.sv hb.1 hb.2) ?_ h
    show _ = _
    rw [Nat.zero_add]
  · cases h
theorem append_sound (hti : TIok P C.ti) (gws : ∀ w w', GW w → Below NG w w' → GW w') (hs : Sim NG GW io w0 pd0 G env a w) (hn : Nx NG GW io w0 pd0 K r next) {c : Call} (hop : o.op = .call c) (hc : c.callee = .builtin .append) (h : vop C ops dr o env K = some r) : o.wp P a w next Q := by
  simp only [vop, hop, hc] at h
  split at h
  case h_2 => cases h
  rename_i u y t t' hargs hts
  split at h
  case isFalse => cases h
  rename_i htt
  have htt := Nat.eq_of_beq_eq_true htt
  subst htt
  split at h
  case h_2 => cases h
  rename_i i hi
  split at h
  case h_2 => cases h
  rename_i e hk
  split at h
  case h_2 => cases h
  rename_i ie hie
  split at h
  case isFalse => cases h
  rename_i hpos
  have hy := rdv_rel hs y
  have hca : c.args = #[.tmp u, y] := by rw [← Array.toArray_toList (xs := c.args), hargs]
  have hct : c.argTypes = #[t, t] := by rw [← Array.toArray_toList (xs := c.argTypes), hts]
  have key : ∀ xs ys, (get env u = .ow e ie.sz xs ∨ (get env u = .nl ∧ xs = [])) → rdv env y = .sl ys → (∀ x ∈ ys, x.cells.length = ie.sz) → (xs.length + ys.length) * ie.bytes ≤ 140737488355328 → vset u (.sl xs) env (fun env' => vput dr o.dst (.ow e ie.sz (xs ++ ys)) env' K) = some r → o.wp P a w next Q := by
    intro xs ys hu hvy hz hb hK
    rw [hvy] at hy
    rw [vset_eq] at hK
    obtain ⟨G', v', w', hrun, hs', hO⟩ := append_run (ty := o.type) hti hs gws hi hk hie hpos.1 hpos.2 (o.dst.getD 0, 0) hu hy.sl_dr hz hb
    have hex : (execOp a.eval o).run P w = .ok (.value v') w' := by
      unfold execOp
      rw [hop]
      simp only [resolve, hc, hca, hct, List.map_toArray, List.map_cons, List.map_nil]
      simp [invoke, builtin, hrun]
    refine wp_value hex (hn G' _ _ _ (hs'.put o.dst fun d hd => ?_) (vput_some hK))
    rw [hd] at hO
    exact hO
  split at h
  · rename_i e' z xs ys hgu hvy
    split at h
    case isFalse => cases h
    rename_i hez
    simp at hez
    obtain ⟨rfl, rfl⟩ := hez
    obtain ⟨hb, h⟩ := bite_none h
    simp at hb
    exact key xs ys (.inl hgu) hvy (fun x hx => by have := hb.2 x hx; simpa using this) hb.1 h
  · rename_i ys hgu hvy
    obtain ⟨hb, h⟩ := bite_none h
    simp at hb
    exact key [] ys (.inr ⟨hgu, rfl⟩) hvy (fun x hx => by have := hb.2 x hx; simpa using this) (by simpa using hb.1) (by simpa using h)
  · cases h
end
section
variable {P : Program} {NG : Nat} {GW : World → Prop} {io : List Nat} {w0 : World} {pd0 : Nat → Nat → Prop} {G G' : Gh} {env : Env} {a : Act} {w w' : World}
variable {R : Type} {K : Env → Option R} {r : R} {next : Act → World → Prop} {Q : Exit → Act → World → Prop} {o : Oper} {C : Cx} {ops : List Oper} {dr : Option (List Nat)}
theorem fill_cons (place : Nat → Option (Nat × Nat)) (cells : Array Value) (i off sz : Nat) (v : Value) (rest : List (Nat × Value)) (hp : place i = some (off, sz)) (hv : v.cells.size = sz) (hf : off + sz ≤ cells.size) :
    Instr.fill place cells ((i, v) :: rest) = Instr.fill place (setCells cells.toList off v.cells.toList).toArray rest := by
  rw [Instr.fill]
  simp only [hp]
  rw [if_neg (by simp; omega)]
  congr 1
  have := fold_setCells v.cells.toList cells off 0
  simp only [Nat.add_zero] at this
  rw [← this]
  simp only [Array.toArray_toList]
  rw [← Array.foldl_toList, Array.toList_zipIdx]
theorem fillv_sound (hs : Sim NG GW io w0 pd0 G env a w) {i : TI} {fs : List (Nat × Nat)} (hk : i.k = .agg fs) {place : Nat → Option (Nat × Nat)} (hp : ∀ j o z, fs[j]? = some (o, z) → place j = some (o, z)) : ∀ (parts : List (Nat × Operand)) (cs : List VV) (ms : List Value) (cs' : List VV), DRs G.pd w cs ms → (∀ u ∈ ms, u.oneCell' = true) → fillv i cs (parts.map fun p => (p.1, rdv env p.2)) = some cs' →
    ∃ ms', Instr.fill place ms.toArray (parts.map fun p => (p.1, a.eval p.2)) = some ms'.toArray ∧ DRs G.pd w cs' ms' ∧ ∀ u ∈ ms', u.oneCell' = true
  | [], cs, ms, cs', hr, h1, h => by
    cases h; exact ⟨ms, rfl, hr, h1⟩
  | (j, x) :: rest, cs, ms, cs', hr, h1, h => by
    simp only [List.map_cons, fillv, hk] at h
    split at h
    case h_2 => cases h
    rename_i off sz hf
    split at h
    case isFalse => cases h
    rename_i hc
    obtain ⟨hl, hfit, hok⟩ := hc
    obtain ⟨hr', h1'⟩ := (rdv_rel hs x).cells hok
    have hl' : (rdv env x).cells.length = (a.eval x).cells.toList.length := hr'.length
    have hlc := hr.length
    have hl : (rdv env x).cells.length = sz := hl
    have hes : (a.eval x).cells.size = sz := (Array.length_toList (xs := (a.eval x).cells)).symm.trans (hl'.symm.trans hl)
    obtain ⟨ms', hm', hr2, h2⟩ := fillv_sound hs hk hp rest _ _ cs' (hr'.setCells off hr) (setCells_all (p := fun u : Value => u.oneCell' = true) _ _ _ h1' h1) h
    refine ⟨ms', ?_, hr2, h2⟩
    rw [List.map_cons, fill_cons place _ j off sz _ _ (hp _ _ _ hf) hes (by rw [List.size_toArray]; omega)]
    exact hm'
theorem build_sound (hti : TIok P C.ti) (hs : Sim NG GW io w0 pd0 G env a w) (hn : Nx NG GW io w0 pd0 K r next) {t : TypeId} {parts : Array (Nat × Operand)} (hop : o.op = .build t parts) (h : vop C ops dr o env K = some r) : o.wp P a w next Q := by
  simp only [vop, hop] at h
  split at h
  case h_2 => cases h
  rename_i i hi
  split at h
  case h_2 => cases h
  rename_i fs hk
  split at h
  case h_2 => cases h
  rename_i cs hf
  obtain ⟨inf, z, hinf, hzz, hzc, hsz, hby, hzl, hz1, hagg⟩ := hti.info t i hi
  have hkd := hti.kind t i hi
  · rw [hk] at hkd hagg
    obtain ⟨fields, hu, hfl, hfs⟩ := hkd
    have hpl : fields.toList.mapM (fun f => (P.info? f.type).map fun i => (f.offset, i.size)) = some fs := by
      have : ∀ (l : List Field) (q : List (Nat × Nat)), l.length = q.length → (∀ (j : Nat) o z, q[j]? = some (o, z) → ∃ f inf, l[j]? = some f ∧ f.offset = o ∧ P.info? f.type = some inf ∧ inf.size = z) → l.mapM (fun f => (P.info? f.type).map fun i => (f.offset, i.size)) = some q := by
        intro l
        induction l with
        | nil => intro q hl _; cases q with
          | nil => rfl
          | cons _ _ => simp at hl
        | cons f l ih => intro q hl hq; cases q with
          | nil => simp at hl
          | cons p q =>
            obtain ⟨f', inf', e1, e2, e3, e4⟩ := hq 0 p.1 p.2 rfl
            cases e1
            have := ih q (by simpa using hl) fun j o z hj => hq (j + 1) o z (by simpa using hj)
            simp [List.mapM_cons, e3, this, e2, e4]
      refine this _ _ (by simpa using hfl) fun j o z hj => ?_
      obtain ⟨f, inf', e1, e2⟩ := hfs j o z hj
      exact ⟨f, inf', by simpa using e1, e2⟩
    obtain ⟨ms', hm', hr, h1⟩ := fillv_sound (place := (fs.toArray[·]?)) hs hk (fun j o z hj => by simpa using hj) parts.toList _ i.zero cs (liftcs_rel i.zero) hz1 hf
    have hb : P.built t (parts.map fun x => (x.1, a.eval x.2)).toList = some ms'.toArray := by
      unfold Program.built
      simp only [hinf, hu, hzz, hpl, Array.toList_map]
      have : z.cells = i.zero.toArray := by rw [← hzc]
      rw [this]
      exact hm'
    have hrun := run_build (P := P) w t _ _ hb
    refine val_sound (v := .ag cs) hs hn (m := .agg ms'.toArray) ?_ (VR.of_dr (.ag _ _ hr h1)) h
    unfold execOp
    rw [hop]
    simp only [Sem.run_bind]
    rw [hrun]
    rfl
end
section
variable {P : Program} {NG : Nat} {GW : World → Prop} {io : List Nat} {w0 : World} {pd0 : Nat → Nat → Prop} {G G' : Gh} {env : Env} {a : Act} {w w' : World}
variable {R : Type} {K : Env → Option R} {r : R} {next : Act → World → Prop} {Q : Exit → Act → World → Prop} {o : Oper} {C : Cx} {ops : List Oper} {dr : Option (List Nat)}
theorem fills_sound (hs : Sim NG GW io w0 pd0 G env a w) {z : Nat} : ∀ (parts : List (Nat × Operand)) (xs : List VV) (ms : List Value) (xs' : List VV), DRs G.pd w (xs.flatMap VV.cells) ms → (∀ x ∈ xs, x.cells.length = z) → (∀ u ∈ ms, u.oneCell' = true) → fills z xs (parts.map fun p => (p.1, rdv env p.2)) = some xs' →
    ∃ ms', Instr.fill (fun i => some (i * z, z)) ms.toArray (parts.map fun p => (p.1, a.eval p.2)) = some ms'.toArray ∧ DRs G.pd w (xs'.flatMap VV.cells) ms' ∧ (∀ x ∈ xs', x.cells.length = z) ∧ (∀ u ∈ ms', u.oneCell' = true) ∧ xs'.length = xs.length
  | [], xs, ms, xs', hr, hz, h1, h => by
    cases h; exact ⟨ms, rfl, hr, hz, h1, rfl⟩
  | (j, x) :: rest, xs, ms, xs', hr, hz, h1, h => by
    simp only [List.map_cons, fills] at h
    split at h
    case isFalse => cases h
    rename_i hc
    obtain ⟨hl, hj, hok⟩ := hc
    have hl : (rdv env x).cells.length = z := hl
    obtain ⟨hr', h1'⟩ := (rdv_rel hs x).cells hok
    have hl' : (rdv env x).cells.length = (a.eval x).cells.toList.length := hr'.length
    have hlc := hr.length
    rw [flat_len hz] at hlc
    have hes : (a.eval x).cells.size = z := (Array.length_toList (xs := (a.eval x).cells)).symm.trans (hl'.symm.trans hl)
    have hset := hr'.setCells (j * z) hr
    rw [← flat_set hz hj hl] at hset
    obtain ⟨ms', hm', hr2, hz2, h2, hl2⟩ := fills_sound hs rest _ _ xs' hset (widths_set hz hl) (setCells_all (p := fun u : Value => u.oneCell' = true) _ _ _ h1' h1) h
    refine ⟨ms', ?_, hr2, hz2, h2, by rw [hl2, List.length_set]⟩
    have hfit : j * z + z ≤ ms.length := by rw [← hlc, ← Nat.succ_mul]; exact Nat.mul_le_mul_right _ hj
    rw [List.map_cons, fill_cons _ _ j (j * z) z _ _ rfl hes (by rw [List.size_toArray]; exact hfit)]
    exact hm'
theorem buildSlice_sound (hti : TIok P C.ti) (gws : ∀ w w', GW w → Below NG w w' → GW w') (hs : Sim NG GW io w0 pd0 G env a w) (hn : Nx NG GW io w0 pd0 K r next) {t : TypeId} {len : Nat} {parts : Array (Nat × Operand)} (hop : o.op = .buildSlice t len parts) (h : vop C ops dr o env K = some r) : o.wp P a w next Q := by
  simp only [vop, hop] at h
  split at h
  case h_2 => cases h
  rename_i i hi
  split at h
  case h_2 => cases h
  rename_i e hk
  split at h
  case h_2 => cases h
  rename_i ie hie
  split at h
  case isFalse => cases h
  rename_i hpos
  split at h
  case h_2 => cases h
  rename_i xs hf
  rw [frcL_eq] at h
  have hu := hti.kind t i hi
  rw [hk] at hu
  simp only at hu
  obtain ⟨inf, z, hinf, hzz, hzc, hsz, hby, hzl, hz1, _⟩ := hti.info e ie hie
  have hzcells := zeroV_cells hti hie
  have hzs : z.cells.size = ie.sz := by rw [← hzl, ← hzc, Array.length_toList]
  have hr0 : DRs G.pd w ((List.replicate len (zeroV ie)).flatMap VV.cells) ((List.replicate len ie.zero).flatten) := by
    rw [repl_flat, hzcells]; exact (liftcs_rel ie.zero).repl len
  have hw0 : ∀ x ∈ List.replicate len (zeroV ie), x.cells.length = ie.sz := by
    intro x hx
    rw [List.eq_of_mem_replicate hx, hzcells]; simpa using hzl
  have h10 : ∀ u ∈ (List.replicate len ie.zero).flatten, u.oneCell' = true := by
    intro u hu
    obtain ⟨l, hl, hu⟩ := List.mem_flatten.1 hu
    rw [List.eq_of_mem_replicate hl] at hu
    exact hz1 u hu
  obtain ⟨ms, hm, hr, hz, h1, hxl⟩ := fills_sound hs parts.toList _ _ xs hr0 hw0 h10 hf
  have hxl : xs.length = len := by simpa using hxl
  have hml : ms.length = xs.length * ie.sz := by rw [← hr.length, flat_len hz]
  have hcur : ((Array.range (len * ie.sz)).map (z.cells[· % z.cells.size]!)) = ((List.replicate len ie.zero).flatten).toArray := by
    rw [← hzs]
    have := made_list z.cells (by rw [hzs]; exact hpos.1) len
    rw [← hzc, ← this]
  have hrun : (Instr.buildSlice t len (parts.map fun (i, x) => (i, a.eval x))).run P w = .ok (.slice (some ⟨w.heap.size, 0, none⟩) len len) (w.alloc (.cells ms.toArray e)) := by
    by_cases hl0 : len = 0
    · subst hl0
      have hp : parts.toList = [] := by
        cases hp : parts.toList with
        | nil => rfl
        | cons p q => simp [hp, fills] at hf
      have hpe : parts = #[] := by rw [← Array.toArray_toList (xs := parts), hp]
      subst hpe
      have hx : xs = [] := List.eq_nil_of_length_eq_zero hxl
      subst hx
      have hm0 : ms = [] := List.eq_nil_of_length_eq_zero (by simpa using hml)
      subst hm0
      simp [Instr.buildSlice, run_underlying hu, sizeOf, typeInfo, hinf, Instr.fill, newRow]
      rw [show Array.map (fun _ : Nat => (default : Value)) (Array.range 0) = #[] from by
        apply Array.eq_empty_of_size_eq_zero; simp]
    · refine run_buildSlice w t e len _ _ inf z hu hinf hzz (by rw [hsz]; have := hpos.2; omega) (by rw [hsz]; have := Nat.mul_pos (Nat.pos_of_ne_zero hl0) hpos.1; omega) ?_
      rw [hsz, hcur, Array.toList_map]
      exact hm
  obtain ⟨G', hs', hO⟩ := hs.row gws (o.dst.getD 0, 0) (e := e) (sz := ie.sz) (cap := len) (xs := xs) (ms := ms) (cur := ms.toArray) (by rw [List.size_toArray, hml, hxl]) (by rw [← hml]; exact List.take_length) hml (by omega) (by have h1 := hpos.1; have h2 := hpos.2; have : len ≤ len * ie.sz := Nat.le_mul_of_pos_right _ h1; simp only [maxLen]; omega) hr hz h1
  have hex : (execOp a.eval o).run P w = .ok (.value (.slice (some ⟨w.heap.size, 0, none⟩) len len)) (w.alloc (.cells ms.toArray e)) := by
    unfold execOp
    rw [hop]
    simp only [Sem.run_bind]
    rw [hrun]
    rfl
  refine wp_value hex (hn G' _ _ _ (hs'.put o.dst fun d hd => ?_) (vput_some h))
  rw [hd] at hO
  rw [hxl] at hO
  exact hO
theorem makeSlice_sound (hti : TIok P C.ti) (gws : ∀ w w', GW w → Below NG w w' → GW w') (hs : Sim NG GW io w0 pd0 G env a w) (hn : Nx NG GW io w0 pd0 K r next) {t : TypeId} {l c : Operand} (hop : o.op = .makeSlice t l c) (h : vop C ops dr o env K = some r) : o.wp P a w next Q := by
  have hl := rdv_rel hs l
  have hc := rdv_rel hs c
  simp only [vop, hop] at h
  split at h
  case h_2 => cases h
  rename_i i hi
  split at h
  case h_2 => cases h
  rename_i e hk
  split at h
  case h_2 => cases h
  rename_i ie hie
  split at h
  case h_2 => cases h
  rename_i n n' d hvl hvc hd
  split at h
  case isFalse => cases h
  rename_i hpos
  obtain ⟨hb, h⟩ := bite_none h
  simp at hb
  obtain ⟨hnn, h0, hb⟩ := hb
  rw [hvl] at hl
  rw [hvc] at hc
  have hl := hl.sv
  have hc := hc.sv
  subst hnn
  have hu := hti.kind t i hi
  rw [hk] at hu
  simp only at hu
  obtain ⟨inf, z, hinf, hzz, hzc, hsz, hby, hzl, hz1, _⟩ := hti.info e ie hie
  have hzs : z.cells.size = ie.sz := by rw [← hzl, ← hzc, Array.length_toList]
  have hzcells := zeroV_cells hti hie
  have hn1 : n'.toNat ≤ n'.toNat * ie.bytes := Nat.le_mul_of_pos_right _ hpos.2
  have hrun := run_make (P := P) w t e inf z hu hinf hzz .i64 .i64 n' n' h0 (Int.le_refl _) (by
    rw [hby]
    have h3 : ((n'.toNat * ie.bytes : Nat) : Int) ≤ 281474976710656 := by omega
    have h4 : (n'.toNat : Int) = n' := Int.toNat_of_nonneg h0
    have h5 : ((n'.toNat * ie.bytes : Nat) : Int) = (ie.bytes : Int) * n' := by
      rw [Int.natCast_mul, h4, Int.mul_comm]
    omega) (by omega)
  have hcur : madeCells z.cells (n'.toNat * inf.size) = ((List.replicate n'.toNat ie.zero).flatten).toArray := by
    unfold madeCells
    rw [hsz, ← hzs]
    have := made_list z.cells (by rw [hzs]; exact hpos.1) n'.toNat
    rw [← hzc, ← this]
  rw [hcur] at hrun
  have hr0 : DRs G.pd w ((List.replicate n'.toNat (zeroV ie)).flatMap VV.cells) ((List.replicate n'.toNat ie.zero).flatten) := by
    rw [repl_flat, hzcells]; exact (liftcs_rel ie.zero).repl _
  have hw0 : ∀ x ∈ List.replicate n'.toNat (zeroV ie), x.cells.length = ie.sz := by
    intro x hx
    rw [List.eq_of_mem_replicate hx, hzcells]; simpa using hzl
  have h10 : ∀ u ∈ (List.replicate n'.toNat ie.zero).flatten, u.oneCell' = true := by
    intro u hu
    obtain ⟨l, hl, hu⟩ := List.mem_flatten.1 hu
    rw [List.eq_of_mem_replicate hl] at hu
    exact hz1 u hu
  obtain ⟨G', hs'⟩ := hs.fresh gws d (.mr e ie.sz (List.replicate n'.toNat (zeroV ie))) ((List.replicate n'.toNat ie.zero).flatten) e (.slice (some ⟨w.heap.size, 0, none⟩) n'.toNat n'.toNat) (fun G' hB hb ho hp hd => by
    refine ⟨_, by rw [hb, List.length_replicate], by rw [hb]; exact heap_alloc_new w _, by rw [hb]; exact ho, fun k hk => hp k (by rw [hb] at hk; exact hk), .of hr0.length fun i v m hv hm => hd _ _ (hr0.at hv hm), hw0, h10, by rw [List.length_replicate]; simp only [maxLen]; omega, hpos.1, by rw [hb]; exact hB⟩)
  have hex : (execOp a.eval o).run P w = .ok (.value (.slice (some ⟨w.heap.size, 0, none⟩) n'.toNat n'.toNat)) (w.alloc (.cells ((List.replicate n'.toNat ie.zero).flatten).toArray e)) := by
    unfold execOp
    rw [hop]
    simp only [Sem.run_bind, hl, hc]
    rw [hrun]
    rfl
  refine wp_value hex (hn G' _ _ _ ?_ (vnew_some h))
  rw [hd]; exact hs'
end
end Go.Proofs.YtcfeihimmboghaaGreatDoor.VI

end
section
namespace Go.Proofs.YtcfeihimmboghaaGreatDoor.VI
open Go Go.RowKit Go.Proofs.YtcfeihimmboghaaGreatDoorW.PrintWords
set_option linter.unusedVariables false
set_option linter.unusedSimpArgs false
theorem drs_s : ∀ {pd : Nat → Nat → Prop} {w : World} (ls : List Value) {ms : List Value}, DRs pd w (ls.map VV.s) ms → ms = ls
  | _, _, [], _, h => by cases h; rfl
  | _, _, a :: ls, _, h => by
    cases h with
    | cons _ m _ ms h1 h2 =>
      cases h1
      rw [drs_s ls h2]
theorem c_of_dr {α : Type} {mk : α → Value} {h1 : ∀ x, (mk x).oneCell' = true} {pd : Nat → Nat → Prop} {w : World} {xs : List α} {m : Value} (h : DR pd w (.sl (xs.map fun x => .s (mk x))) m) : ∃ A c, m = .slice A xs.length c ∧ xs.length ≤ c ∧ Kd.C (Kd.scalar mk h1) w A xs.length xs := by
  generalize hl : (xs.map fun x => VV.s (mk x)) = l at h
  have hn : l.length = xs.length := by rw [← hl, List.length_map]
  cases h with
  | sl0 A c =>
    obtain rfl := List.eq_nil_of_length_eq_zero hn.symm
    exact ⟨A, c, rfl, Nat.zero_le _, rfl, Nat.zero_le _, fun h => absurd h (Nat.lt_irrefl _)⟩
  | sl _ g off c sz ms hc hm hz hr h1' hw =>
    subst hl
    have e : (List.map (fun x => VV.s (mk x)) xs).flatMap VV.cells = (xs.map mk).map VV.s := by
      clear hn hc hm hz hr h1' hw
      induction xs with
      | nil => rfl
      | cons x xs ih => rw [List.map_cons, List.flatMap_cons, ih]; rfl
    rw [e] at hr
    obtain rfl := drs_s _ hr
    rw [hn] at hc hm ⊢
    refine ⟨_, c, rfl, hc, rfl, by simpa [maxLen] using hm, fun _ => ⟨_, rfl, fun j p hj => ⟨[mk p], rfl, rfl, fun i u hu => ?_⟩⟩⟩
    cases i with
    | zero =>
      have hu' : mk p = u := by simpa using hu
      subst hu'
      have := (hw j (mk p) (by rw [List.getElem?_map, hj]; rfl)).1
      have e2 : (⟨g, off, none⟩ : Addr).add (j * 1 + 0) = ⟨g, off + j, none⟩ := by unfold Addr.add; simp
      show w.cell? ((⟨g, off, none⟩ : Addr).add (j * 1 + 0)) = _
      rw [e2]; exact this
    | succ i => simp at hu
theorem byL_map : ∀ (xs : List VV) (l : List Int), byL xs = some l → xs = l.map VV.byte
  | [], l, h => by cases h; rfl
  | v :: r, l, h => by
    cases v with
    | s x =>
      cases x with
      | int k n =>
        cases k with
        | u8 =>
          have h2 : obind (byL r) (fun l => some (n :: l)) = some l := h
          cases hr : byL r with
          | none => rw [hr] at h2; cases h2
          | some l' =>
            rw [hr] at h2
            have h' : some (n :: l') = some l := h2
            cases h'
            rw [byL_map r l' hr]
            rfl
        | _ => cases h
      | _ => cases h
    | _ => cases h
theorem bytes_run {P : Program} {pd : Nat → Nat → Prop} {w : World} {src dst e : TypeId} {xs : List VV} {l : List Int} {m : Value} (hs : P.underlying src = some (.slice e)) (he : P.underlying e = some (.int .u8)) (hd : P.underlying dst = some .string) (hl : byL xs = some l) (h : DR pd w (.sl xs) m) : (convert src dst m).run P w = .ok (.string (strOfNums l)) w := by
  obtain rfl := byL_map xs l hl
  obtain ⟨A, c, rfl, _, hC⟩ := c_of_dr (mk := Value.int .u8) (h1 := fun _ => rfl) h
  exact Kd.C_string hs he hd hC
end Go.Proofs.YtcfeihimmboghaaGreatDoor.VI

end
section
namespace Go.Proofs.YtcfeihimmboghaaGreatDoor.VI
open Go Go.RowKit
set_option linter.unusedVariables false
set_option linter.unusedSimpArgs false
section
variable {P : Program} {NG : Nat} {GW : World → Prop} {io : List Nat} {w0 : World} {pd0 : Nat → Nat → Prop} {G G' : Gh} {env : Env} {a : Act} {w w' : World}
variable {R : Type} {K : Env → Option R} {r : R} {next : Act → World → Prop} {Q : Exit → Act → World → Prop} {o : Oper} {C : Cx} {ops : List Oper} {dr : Option (List Nat)}
theorem part_dr {pd : Nat → Nat → Prop} {xs : List VV} {A : Option Addr} {len cap l h : Nat} {sz : Nat} (hd : DR pd w (.sl xs) (.slice A len cap)) (hz : ∀ x ∈ xs, x.cells.length = sz) (hlh : l ≤ h) (hh : h ≤ xs.length) : DR pd w (.sl ((xs.take h).drop l)) (.slice (if cap = l then A else A.map (·.add (l * sz))) (h - l) (cap - l)) := by
  have hlen : ((xs.take h).drop l).length = h - l := by simp; omega
  by_cases he : h - l = 0
  · have : (xs.take h).drop l = [] := List.eq_nil_of_length_eq_zero (by omega)
    rw [this, he]; exact .sl0 _ _
  · rcases hd.sl_inv with ⟨rfl, _⟩ | ⟨g, off, c, sz', ms, hm, hc, hml, hz', hr, h1, hw⟩
    · simp at hh; omega
    · cases hm
      rw [if_neg (by omega)]
      simp only [Option.map_some, Addr.add_lit]
      have e := flat_take h hz
      have hr2 := (hr.take (h * sz)).drop (l * sz)
      rw [e, flat_drop l (fun x hx => hz x (List.mem_of_mem_take hx))] at hr2
      have := DR.sl (pd := pd) (w := w) ((xs.take h).drop l) g (off + l * sz) (cap - l) sz ((ms.take (h * sz)).drop (l * sz)) (by rw [hlen]; omega) (by rw [hlen]; omega) (fun x hx => hz x (List.mem_of_mem_take (List.mem_of_mem_drop hx))) hr2 (fun u hu => h1 u (List.mem_of_mem_take (List.mem_of_mem_drop hu))) (fun k u hu => by
        rw [List.getElem?_drop, List.getElem?_take] at hu
        split at hu
        · have := hw _ _ hu; rw [Nat.add_assoc]; exact this
        · cases hu)
      rw [hlen] at this
      exact this
theorem sv_int {x : Operand} {k : IntKind} {n : Int} (hs : Sim NG GW io w0 pd0 G env a w) (h : rdv env x = .s (.int k n)) : a.eval x = .int k n := by
  have := rdv_rel hs x; rw [h] at this; exact this.sv
theorem bounds_run (hs : Sim NG GW io w0 pd0 G env a w) {lo hi : Option Operand} {l h : Option Int} {len cap : Nat} (sl : Bool) (hc : len ≤ cap) (hl : vbnd (lo.map (rdv env)) = some l) (hh : vbnd (hi.map (rdv env)) = some h) (hb : bndOk len (l.getD 0) (h.getD len) = true) :
    (Instr.sliceBounds sl len cap (lo.map a.eval) (hi.map a.eval) none).run P w = .ok ((l.getD 0).toNat, (h.getD len).toNat, cap) w := by
  have one : ∀ (x : Option Operand) (q : Option Int), vbnd (x.map (rdv env)) = some q → (x = none ∧ q = none) ∨ ∃ y k n, x = some y ∧ a.eval y = .int k n ∧ q = some n := by
    intro x q hx
    cases x with
    | none => simp [vbnd] at hx; exact .inl ⟨rfl, hx.symm⟩
    | some y =>
      simp only [Option.map_some] at hx
      generalize hy : rdv env y = v at hx
      unfold vbnd at hx
      split at hx
      · rename_i e; cases e
      · rename_i k n e; cases e; cases hx; exact .inr ⟨y, k, n, rfl, sv_int hs hy, rfl⟩
      · cases hx
  rcases one lo l hl with ⟨rfl, rfl⟩ | ⟨x, kx, nx, rfl, hx, rfl⟩ <;> rcases one hi h hh with ⟨rfl, rfl⟩ | ⟨y, ky, ny, rfl, hy, rfl⟩ <;> simp [bndOk] at hb <;> simp [Instr.sliceBounds, *]
  · have h1 : ny ≤ (cap : Int) := by omega
    rw [run_sliceBound _ _ _ _ _ hb.1.1 h1]
    simp
  · rw [run_sliceBound _ _ _ _ _ hb.1 hb.2]; rfl
  · have h1 : ny ≤ (cap : Int) := by omega
    rw [run_sliceBound _ _ _ _ _ hb.1.1 h1]
    simp only [Result.andThen_ok, Sem.run_bind]
    rw [run_sliceBound _ _ _ _ _ hb.2.1 (by have := Int.toNat_of_nonneg hb.1.1; omega)]
    rfl
theorem slice_sound (hti : TIok P C.ti) (hs : Sim NG GW io w0 pd0 G env a w) (hn : Nx NG GW io w0 pd0 K r next) {t : TypeId} {x : Operand} {lo hi mx : Option Operand} (hop : o.op = .slice t x lo hi mx) (h : vop C ops dr o env K = some r) : o.wp P a w next Q := by
  have hx := rdv_rel hs x
  simp only [vop, hop] at h
  split at h
  case h_2 => cases h
  rename_i i hi
  split at h
  · rename_i s hk hv
    rw [hv] at hx
    split at h
    case h_2 => cases h
    rename_i l q hl hq
    obtain ⟨hb, h⟩ := bite_none h
    have hu := hti.kind t i hi
    rw [hk] at hu
    simp only at hu
    have hrun := bounds_run (P := P) hs (cap := s.size) false (Nat.le_refl _) hl hq hb
    refine val_sound hs hn (m := .string (s.extract (l.getD 0).toNat (q.getD s.size).toNat)) ?_ (VR.of_dr (.s _)) h
    unfold execOp
    rw [hop]
    simp only [hx.sv]
    simp [run_sliceAt_string (h := hu), Instr.slice, run_underlying hu, hrun]
  · rename_i e xs hk hv
    rw [hv] at hx
    split at h
    case h_2 => cases h
    rename_i ie l q hie hl hq
    obtain ⟨hb, h⟩ := bite_none h
    rw [Bool.and_eq_true] at hb
    obtain ⟨hb, hw⟩ := hb
    have hz : ∀ x ∈ xs, x.cells.length = ie.sz := fun x hx => by
      rw [List.all_eq_true] at hw; exact Nat.eq_of_beq_eq_true (hw x hx)
    have hu := hti.kind t i hi
    rw [hk] at hu
    simp only at hu
    obtain ⟨A, c, hm, hc⟩ : ∃ A c, a.eval x = .slice A xs.length c ∧ xs.length ≤ c := by
      rcases hx.sl_dr.sl_inv with ⟨rfl, A, c, hm⟩ | ⟨g, off, c, sz, ms, hm, hc, _⟩
      · exact ⟨A, c, hm, Nat.zero_le _⟩
      · exact ⟨_, c, hm, hc⟩
    have hrun := bounds_run (P := P) hs (cap := c) true hc hl hq hb
    have hd : DR G.pd w (.sl xs) (.slice A xs.length c) := hm ▸ hx.sl_dr
    have hb' := hb
    simp [bndOk] at hb'
    have hpart := part_dr (l := (l.getD 0).toNat) (h := (q.getD xs.length).toNat) hd hz (by omega) (by omega)
    refine val_sound hs hn ?_ (VR.of_dr hpart) h
    unfold execOp
    rw [hop]
    simp only [hm]
    simp [Instr.sliceAt, Instr.slice, run_underlying hu, hrun, run_sizeOf' hti hie]
  · cases h
theorem small_sound (hti : TIok P C.ti) (hs : Sim NG GW io w0 pd0 G env a w) (hn : Nx NG GW io w0 pd0 K r next)
    (hop : (∃ c x y, o.op = .pick c x y) ∨ (∃ op t x, o.op = .unOp op t x) ∨ (∃ op t x y u, o.op = .binOp op t x y u) ∨ (∃ x, o.op = .nilCheck x) ∨ (∃ t x y, o.op = .index t x y) ∨ (∃ x n, o.op = .extract x n) ∨ (∃ f x y, o.op = .makeFunc (.func f) x y) ∨ (∃ s d x, o.op = .convert s d x)) (h : vop C ops dr o env K = some r) : o.wp P a w next Q := by
  rcases hop with ⟨c, x, y, hop⟩ | ⟨op, t, x, hop⟩ | ⟨op, t, x, y, u, hop⟩ | ⟨x, hop⟩ | ⟨t, x, y, hop⟩ | ⟨x, n, hop⟩ | ⟨f, x, y, hop⟩ | ⟨s, d, x, hop⟩ <;> simp only [vop, hop] at h
  · have hc := rdv_rel hs c
    split at h
    case h_2 => cases h
    rename_i t ht
    rw [ht] at hc
    rcases bite_some h with ⟨rfl, h⟩ | ⟨rfl, h⟩
    · refine val_sound hs hn ?_ (rdv_rel hs x) h
      unfold execOp; rw [hop]; simp [hc.sv, asBool]
    · refine val_sound hs hn ?_ (rdv_rel hs y) h
      unfold execOp; rw [hop]; simp [hc.sv, asBool]
  · have hx := rdv_rel hs x
    split at h
    case h_2 => cases h
    rename_i v hv
    refine val_sound hs hn (m := v) ?_ (VR.of_dr (.s _)) h
    unfold execOp; rw [hop]
    unfold vun at hv
    split at hv <;> first | (cases hv; done) | skip
    · rename_i b hb; rw [hb] at hx; cases hv; simp [hx.sv, Op.unary]
    · rename_i k n hb; rw [hb] at hx; cases hv; simp [hx.sv, Op.unary, Op.intArith, wr_eq]
  · split at h
    · rename_i b v hv
      obtain ⟨hb, h⟩ := must_some h
      exact val_sound hs hn (binop_sound hb hop hs hv (isBool_ok hti)) (VR.of_dr (.s _)) h
    · cases h
  · have hx := rdv_rel hs x
    split at h
    case h_2 => cases h
    rename_i t off hv
    rw [hv] at hx
    refine val_sound (v := .pt t off) hs hn (m := .pointer (some ⟨G.bl t, off, none⟩)) ?_ (show _ = _ from rfl) h
    unfold execOp; rw [hop]; simp [hx.pt_eq]
  · have hx := rdv_rel hs x
    split at h
    case h_2 => cases h
    rename_i i hi
    split at h
    case h_2 => cases h
    rename_i b k j hk hvx hvy
    rw [hvx] at hx
    have hy := sv_int hs hvy
    obtain ⟨hb, h⟩ := bite_none h
    simp at hb
    have hu := hti.kind t i hi
    rw [hk] at hu
    simp only at hu
    refine val_sound hs hn (m := .int .u8 (bt b j)) ?_ (VR.of_dr (.s _)) h
    unfold execOp; rw [hop]
    have hj : j.toNat < b.size := by omega
    simp [hx.sv, hy, Instr.index, run_underlying hu, asIntOf, hb.1, hj, bt]
  · have hx := rdv_rel hs x
    split at h
    case h_2 => cases h
    rename_i vs hv
    split at h
    case h_2 => cases h
    rename_i v hvn
    rw [hv] at hx
    cases hm : a.eval x with
    | tuple ms =>
      rw [hm] at hx
      have hd := hx.tu_dr
      generalize hms : Value.tuple ms = q at hd
      cases hd with
      | tu _ us hr =>
        cases hms
        obtain ⟨m, h1, h2⟩ := hr.get hvn
        refine val_sound hs hn (m := m) ?_ (VR.of_dr h2) h
        unfold execOp; rw [hop]; simp [hm, Instr.extract, h1]
    | _ => rw [hm] at hx; exact absurd hx.tu_dr (by intro h; cases h)
  · split at h
    case isFalse => cases h
    rename_i hz
    split at h
    case h_2 => cases h
    rename_i hcap
    refine val_sound (v := .cl f (y.toList.map (rdv env))) hs hn (m := .func (.func f) #[] (y.map a.eval)) ?_ ?_ h
    · unfold execOp; rw [hop]
      have : x = #[] := by simpa using hz
      simp [Instr.makeFunc, this]
    · refine ⟨(y.map a.eval).toList, by rw [Array.toArray_toList], by simp, fun i v u hv hu => ?_⟩
      rw [List.getElem?_map] at hv
      obtain ⟨x', hx', rfl⟩ := Option.map_eq_some_iff.1 hv
      have hu : y.toList[i]?.map a.eval = some u := by simpa using hu
      rw [hx'] at hu
      cases hu
      have h1 := rdv_rel hs x'
      rw [List.all_eq_true] at hcap
      have h2 := hcap _ (List.mem_map.2 ⟨x', List.mem_of_getElem? hx', rfl⟩)
      generalize rdv env x' = q at h1 h2
      cases q <;> first
        | exact h1
        | (simp [isCap] at h2; done)
  · have hx := rdv_rel hs x
    split at h
    case h_2 => cases h
    rename_i i j hi hj
    have hu := hti.kind s i hi
    have hd := hti.kind d j hj
    split at h
    · rename_i k k' k'' n hki hkj hv
      rw [hv] at hx
      rw [hki] at hu
      rw [hkj] at hd
      simp only at hu hd
      refine val_sound hs hn (m := .int k' (k'.wrap n)) ?_ (wr_eq k' n ▸ VR.of_dr (.s _)) h
      unfold execOp; rw [hop]; simp [hx.sv, convert, run_underlying hu, run_underlying hd, Conv.intToInt]
    · rename_i b hki hkj hv
      rw [hv] at hx
      rw [hki] at hu
      rw [hkj] at hd
      simp only at hu hd
      refine val_sound hs hn (m := .string b) ?_ (VR.of_dr (.s _)) h
      unfold execOp; rw [hop]; simp [hx.sv, convert, run_underlying hu, run_underlying hd]
    · rename_i e xs hki hkj hv
      rw [hv] at hx
      rw [hki] at hu
      rw [hkj] at hd
      simp only at hu hd
      split at h
      case h_2 => cases h
      rename_i ie hie
      have he := hti.kind e ie hie
      split at h
      · rename_i hk
        rw [hk] at he
        cases hl : byL xs with
        | none => rw [hl] at h; cases h
        | some l =>
          rw [hl] at h
          have hr := bytes_run (P := P) hu he hd hl hx.sl_dr
          refine val_sound hs hn (m := .string (strOfNums l)) ?_ (VR.of_dr (.s _)) h
          unfold execOp
          rw [hop]
          simp [hr]
      · cases h
    · cases h
theorem len_sound (hti : TIok P C.ti) (hs : Sim NG GW io w0 pd0 G env a w) (hn : Nx NG GW io w0 pd0 K r next) {c : Call} (hop : o.op = .call c) (hc : c.callee = .builtin .len ∨ c.callee = .builtin .min) (h : vop C ops dr o env K = some r) : o.wp P a w next Q := by
  rcases hc with hc | hc <;> simp only [vop, hop, hc] at h
  · split at h
    case h_2 => cases h
    rename_i x t hargs hts
    have hx := rdv_rel hs x
    have hca : c.args = #[x] := by rw [← Array.toArray_toList (xs := c.args), hargs]
    have hct : c.argTypes = #[t] := by rw [← Array.toArray_toList (xs := c.argTypes), hts]
    split at h
    case h_2 => cases h
    rename_i i hi
    have hu := hti.kind t i hi
    split at h
    · rename_i b hk hv
      rw [hv] at hx
      rw [hk] at hu
      simp only at hu
      refine val_sound hs hn (m := .int .i64 b.size) ?_ (VR.of_dr (.s _)) h
      unfold execOp; rw [hop]
      simp [resolve, hc, hca, hct, invoke, builtin, Builtin.len_, run_underlying hu, hx.sv, goInt]
    · rename_i e xs hk hv
      rw [hv] at hx
      rw [hk] at hu
      simp only at hu
      obtain ⟨A, q, hm⟩ : ∃ A q, a.eval x = .slice A xs.length q := by
        rcases hx.sl_dr.sl_inv with ⟨rfl, A, c, hm⟩ | ⟨g, off, c, sz, ms, hm, hc, _⟩
        · exact ⟨A, c, hm⟩
        · exact ⟨_, c, hm⟩
      refine val_sound hs hn (m := .int .i64 xs.length) ?_ (VR.of_dr (.s _)) h
      unfold execOp; rw [hop]
      simp [resolve, hc, hca, hct, invoke, builtin, Builtin.len_, run_underlying hu, hm, goInt]
    · rename_i e u n hk hv
      rw [hv] at hx
      rw [hk] at hu
      simp only at hu
      have hm : a.eval x = .slice (some ⟨G.bl u, 0, none⟩) n n := hx
      refine val_sound hs hn (m := .int .i64 n) ?_ (VR.of_dr (.s _)) h
      unfold execOp; rw [hop]
      simp [resolve, hc, hca, hct, invoke, builtin, Builtin.len_, run_underlying hu, hm, goInt]
    · cases h
  · split at h
    case h_2 => cases h
    rename_i x y hargs
    have hx := rdv_rel hs x
    have hy := rdv_rel hs y
    have hca : c.args = #[x, y] := by rw [← Array.toArray_toList (xs := c.args), hargs]
    split at h
    case h_2 => cases h
    rename_i k n k' n' hvx hvy
    rw [hvx] at hx
    rw [hvy] at hy
    refine val_sound hs hn (m := .int k (if n' < n then n' else n)) ?_ (VR.of_dr (.s _)) h
    unfold execOp; rw [hop]
    simp [resolve, hc, hca, invoke, builtin, hx.sv, hy.sv, run_min_int2]
end
end Go.Proofs.YtcfeihimmboghaaGreatDoor.VI

end
