/- A part of the proof that the law FnExactOrder answers true at every input that its row speaks of. Conditions: the row's own. -/
import Derived.Test.YtieohddolkeegaaGreatDoorMFnExactOrder2
import Derived.Test.YtieohddolkeegaaGreatDoorVMore
import Derived.Tactics
section
namespace Go.Proofs.YtieohddolkeegaaGreatDoor.VI
open Go Go.RowKit
set_option linter.unusedVariables false
set_option linter.unusedSimpArgs false
section
variable {P : Program} {NG : Nat} {GW : World → Prop} {io : List Nat} {w0 : World} {pd0 : Nat → Nat → Prop} {G G' : Gh} {env : Env} {a : Act} {w w' : World}
variable {R : Type} {K : Env → Option R} {r : R} {next : Act → World → Prop} {Q : Exit → Act → World → Prop} {o : Oper} {C : Cx} {ops : List Oper} {dr : Option (List Nat)}
theorem bite_none {α : Type} {b : Bool} {x : Option α} {r : α} (h : bite b x none = some r) : b = true ∧ x = some r := by
 cases b
 ·cases h
 ·exact ⟨rfl, h⟩
theorem isBool_ok (hti : TIok P C.ti) {t : TypeId} (h : isBool C t = true) : P.underlying t = some .bool := by
 unfold isBool at h
 split at h
 ·rename_i i hi
  have := hti.kind t i hi
  split at h
  ·rename_i hk; rw [hk] at this; exact this
  ·cases h
 ·cases h
theorem vnew_some {d : Nat} {b : VV} (h : vnew dr d b env K = some r) : K ((env.map (kill d)).set d b) = some r := by
 unfold vnew at h
 cases dr with
 | none => simpa [frcL_eq, vset_eq] using h
 | some l =>
  simp only at h
  split at h
  ·rename_i hany
   rw [vset_eq] at h
   have hany := (Bool.or_eq_false_iff.1 hany).1
   have : env.map (kill d) = env := by
    rw [List.any_eq_false] at hany
    conv => rhs; rw [← List.map_id env]
    exact List.map_congr_left fun v hv => kill_none (by simpa using hany v hv)
   rw [this]; exact h
  ·cases h
theorem box_sound (hs : Sim NG GW io w0 pd0 G env a w) (gws : ∀ w w', GW w → Below NG w w' → GW w') (hn : Nx NG GW io w0 pd0 K r next) {d : Nat} (hd : o.dst = some d) {cs : List VV} {ms : List Value} {ty : TypeId} (hl : cs.length = ms.length) (hc : ∀ (i : Nat) v u, cs[i]? = some v → ms[i]? = some u → ∀ (G : Gh) (w' : World) (p : Nat × Nat), (∀ v m, DR (G.pd) w v m → DR G.pd w' v m) → True) (hc' : ∀ (i : Nat) v u, cs[i]? = some v → ms[i]? = some u → (v = .nl ∧ u = .slice none 0 0) ∨ DR G.pd w v u) (h1 : ∀ u ∈ ms, u.oneCell' = true)
  (hrun : (execOp a.eval o).run P w = .ok (.value (.pointer (some ⟨w.heap.size, 0, none⟩))) (w.alloc (.cells ms.toArray ty))) (h : vnew dr d (.bx cs) env K = some r) : o.wp P a w next Q := by
 obtain ⟨G', hs'⟩ := hs.fresh gws d (.bx cs) ms ty (.pointer (some ⟨w.heap.size, 0, none⟩)) (fun G' _ hb ho hp hd => by
  refine ⟨ms, ty, by rw [hb], by rw [hb]; exact heap_alloc_new w _, by rw [hb]; exact ho, fun k hk => hp k (by rw [hb] at hk; exact hk), hl, fun i v u hv hu => ?_, h1⟩
  rcases hc' i v u hv hu with ⟨rfl, rfl⟩ | h
  ·rfl
  ·have h' := hd v u h
   cases v <;> first
    | exact h'
    | (cases h'))
 refine wp_value hrun (hn G' _ _ _ ?_ (vnew_some h))
 rw [hd]; exact hs'
theorem alloc_sound (hti : TIok P C.ti) (hs : Sim NG GW io w0 pd0 G env a w) (gws : ∀ w w', GW w → Below NG w w' → GW w') (hn : Nx NG GW io w0 pd0 K r next) {ty : TypeId} (hop : o.op = .alloc ty) {i : TI} {d : Nat} (hi : C.ti ty = some i) (hd : o.dst = some d) (h : vnew dr d (.bx (i.zero.map zcell)) env K = some r) : o.wp P a w next Q := by
 obtain ⟨inf, z, hinf, hzz, hzc, hsz, hby, hzl, hz1, _⟩ := hti.info ty i hi
 refine box_sound (ms := i.zero) (ty := ty) hs gws hn hd (by simp) (fun _ _ _ _ _ _ _ _ _ => trivial) ?_ hz1 ?_ h
 ·intro k v u hv hu
  rw [List.getElem?_map, hu] at hv
  cases hv
  unfold zcell
  split
  ·exact .inl ⟨rfl, rfl⟩
  ·exact .inr (.s _)
 ·have : i.zero.toArray = z.cells := by rw [← hzc]
  unfold execOp
  rw [hop]
  simp only [Instr.alloc, Sem.run_bind, zeroValue, typeInfo, run_program, Result.andThen_ok, hinf, Sem.run_pure, hzz, newVar, newRow, run_newObj]
  rw [this]
  rfl
theorem boxop_sound (hti : TIok P C.ti) (hs : Sim NG GW io w0 pd0 G env a w) (gws : ∀ w w', GW w → Below NG w w' → GW w') (hn : Nx NG GW io w0 pd0 K r next) {ty : TypeId} {x : Operand} (hop : o.op = .box ty x) {i : TI} {d : Nat} (hi : C.ti ty = some i) (hd : o.dst = some d) (hl : (rdv env x).cells.length = i.sz) (hok : (rdv env x).cells.all cellOk = true) (h : vnew dr d (.bx (rdv env x).cells) env K = some r) : o.wp P a w next Q := by
 obtain ⟨hr, h1⟩ := (rdv_rel hs x).cells hok
 refine box_sound (ms := (a.eval x).cells.toList) (ty := ty) hs gws hn hd hr.length (fun _ _ _ _ _ _ _ _ _ => trivial) (fun k v u hv hu => .inr (hr.at hv hu)) h1 ?_ h
 unfold execOp
 rw [hop]
 simp only [Instr.box, newVar, newRow, Sem.run_bind, run_newObj, Result.andThen_ok, Sem.run_pure]
 rfl
theorem getB_bx {t : Nat} {cs : List VV} (h : getB dr env t = .bx cs) : get env t = .bx cs := by
 unfold getB at h
 split at h
 ·split at h
  ·cases h
  ·exact h
 ·exact h
theorem getL_bx {t : Nat} {cs : List VV} {fdd : Bool} {x : Operand} (h : getL dr fdd env x t = .bx cs) : get env t = .bx cs := by
 unfold getL at h
 split at h
 ·split at h
  ·split at h
   ·exact h
   ·cases h
  ·cases h
 ·exact getB_bx h
theorem load_sound (hti : TIok P C.ti) (hs : Sim NG GW io w0 pd0 G env a w) (hn : Nx NG GW io w0 pd0 K r next) {ty : TypeId} {x : Operand} (hop : o.op = .load ty x) (h : vop C ops dr o env K = some r) : o.wp P a w next Q := by
 have hx := rdv_rel hs x
 have hex : ∀ m, (Instr.loadAt ty (a.eval x)).run P w = .ok m w → (execOp a.eval o).run P w = .ok (.value m) w := by
  intro m hm
  unfold execOp
  rw [hop]
  simp [hm]
 simp only [vop, hop] at h
 split at h
 ·cases h
 rename_i i hi
 split at h
 ·rename_i cs hv
  rw [hv] at hx
  split at h
  ·rename_i v hvl
   obtain ⟨g, off, hm, u, hrun, hu⟩ := vload_view hti hi hvl hx.vw_v
   rw [hm, ← Nat.add_zero off] at hex
   exact val_sound hs hn (hex _ hrun) (VR.of_dr hu) h
  ·cases h
 ·rename_i t off hv
  rw [hv] at hx
  have hpt := hx.pt_eq
  have hslot := get_slot hs t
  split at h
  ·rename_i cs hcs
   have hcs := getL_bx hcs
   rw [hcs] at hslot
   have hbox : BoxR G w t cs (a.eval (.tmp t)) := hslot
   split at h
   ·-- ownership goes along
    split at h
    ·rename_i e' e z xs hk hc
     rw [vset_eq] at h
     obtain ⟨ms, bty, hpm, hh, ho, hnp, hl, hcr, h1⟩ := hbox
     have hoff : off < ms.length := by rw [← hl]; exact (List.getElem?_eq_some_iff.1 hc).1
     have hm := List.getElem?_eq_getElem hoff
     have hO : OwnR G w (t, off + 1) e z xs ms[off] := hcr off _ _ hc hm
     have hsz : i.sz = 1 := by
      obtain ⟨_, _, _, _, _, _, _, _, _, h8⟩ := hti.info ty i hi
      rw [hk] at h8; exact h8
     have hrun := run_load' (P := P) (w := w) hti hi (g := G.bl t) (off := off) (ms := [ms[off]]) (by simp [hsz]) (fun k u hu => by
      cases k with
      | zero => cases hu; rw [box_cell hh]; exact hm
      | succ k => simp at hu)
     have hld : ldv i [ms[off]] = ms[off] := by simp [ldv, isAgg', hk]
     rw [hld, ← hpt] at hrun
     let d := o.dst.getD 0
     have hsim : Sim NG GW io w0 pd0 (rehome G ms[off] (d, 0)) (env.set t (.bx (cs.set off (.sl xs)))) a w := by
      refine hs.evo (hO.evo (p' := (d, 0))) (by simp) ?_ hs.fr hs.gw (hO.owns hs) (hO.ownsp hs) hs.dv hs.old
      intro u v m hv hm'
      by_cases hu : t = u
      ·subst hu
       rw [List.getElem?_set, if_pos rfl] at hv
       split at hv
       ·cases hv
        have hq : a.eval (.tmp t) = m := by
         obtain ⟨hlt, rfl⟩ := Array.getElem?_eq_some_iff.1 hm'
         simp [Act.eval, hlt]
        rw [← hq]
        refine .inr ⟨ms, bty, hpm, hh, ?_, hnp, by simp [hl], ?_, h1⟩
        ·simp only [rehome]
         by_cases hb : ms[off].ownBlock = some (G.bl t)
         ·obtain ⟨_, _, _, _, _, _, hg⟩ := hO
          have := ho.symm.trans (hg _ hb).1
          simp at this
         ·rw [if_neg hb]; exact ho
        ·intro j v u' hj hj'
         rw [List.getElem?_set] at hj
         by_cases hjo : off = j
         ·subst hjo
          rw [if_pos rfl] at hj
          split at hj
          ·cases hj
           rw [hm] at hj'
           cases hj'
           exact OwnR.dr (hO.home (p' := (d, 0)))
          ·cases hj
         ·rw [if_neg hjo] at hj
          have h2 := hcr j v u' hj hj'
          cases v <;> first
           | exact OwnR.other hO h2 (by simp; omega) | exact h2
       ·cases hv
      ·rw [List.getElem?_set, if_neg hu] at hv
       exact .inl ⟨v, hv, rfl, fun e => hu e.symm, id, fun _ h => h.elim⟩
     refine wp_value (hex _ hrun) (hn _ _ _ _ (hsim.put o.dst fun d' hd' => ?_) (vput_some h))
     have : d = d' := by simp [d, hd']
     subst this
     exact hO.home
    ·rename_i e' hk hc
     obtain ⟨ms, bty, hpm, hh, ho, hnp, hl, hcr, h1⟩ := hbox
     have hoff : off < ms.length := by rw [← hl]; exact (List.getElem?_eq_some_iff.1 hc).1
     have hm := List.getElem?_eq_getElem hoff
     have hO : ms[off] = .slice none 0 0 := hcr off _ _ hc hm
     have hsz : i.sz = 1 := by
      obtain ⟨_, _, _, _, _, _, _, _, _, h8⟩ := hti.info ty i hi
      rw [hk] at h8; exact h8
     have hrun := run_load' (P := P) (w := w) hti hi (g := G.bl t) (off := off) (ms := [ms[off]]) (by simp [hsz]) (fun k u hu => by
      cases k with
      | zero => cases hu; rw [box_cell hh]; exact hm
      | succ k => simp at hu)
     have hld : ldv i [ms[off]] = ms[off] := by simp [ldv, isAgg', hk]
     rw [hld, ← hpt] at hrun
     exact wp_value (hex _ hrun) (hn _ _ _ _ (hs.put o.dst fun d _ => (show SlotR G w d .nl _ from hO)) (vput_some h))
    ·cases h
   ·split at h
    ·rename_i v hvl
     obtain ⟨u, hrun, hu⟩ := vload_box hti hi hvl hbox
     rw [← hpt] at hrun
     exact val_sound hs hn (hex _ hrun) (VR.of_dr hu) h
    ·cases h
  ·cases h
 ·cases h
theorem store_sound (hti : TIok P C.ti) (gws : ∀ w w', GW w → Below NG w w' → GW w') (hs : Sim NG GW io w0 pd0 G env a w) (hn : Nx NG GW io w0 pd0 K r next) {ty : TypeId} {x y : Operand} (hop : o.op = .store ty x y) (h : vop C ops dr o env K = some r) : o.wp P a w next Q := by
 have hx := rdv_rel hs x
 have hy := rdv_rel hs y
 have hex : ∀ w', (Instr.storeAt ty (a.eval x) (a.eval y)).run P w = .ok () w' → (execOp a.eval o).run P w = .ok .skip w' := by
  intro w' hm
  unfold execOp
  rw [hop]
  simp [hm]
 simp only [vop, hop] at h
 split at h
 case h_2 => cases h
 rename_i i hdst hi
 have hput : ∀ a : Act, a.put o.dst undef = a := fun a => by rw [hdst]; rfl
 split at h
 ·rename_i t off hv
  rw [hv] at hx
  have hpt := hx.pt_eq
  have hslot := get_slot hs t
  split at h
  case h_2 => cases h
  rename_i cs hcs
  rw [hcs] at hslot
  obtain ⟨ms, bty, hpm, hh, ho, hnp, hl, hcr, h1⟩ := (hslot : BoxR G w t cs (a.eval (.tmp t)))
  split at h
  case isFalse => cases h
  rename_i hcond
  obtain ⟨hlen, hfit, hok⟩ := hcond
  obtain ⟨hr, hr1⟩ := hy.cells hok
  have hrl := hr.length
  have hrun := run_store' (P := P) (w := w) hti hi (g := G.bl t) (off := off) (ms := ms) (ty := bty) (v := a.eval y) hh (by rw [← hrl]; exact hlen) (by rw [← hl]; exact hfit) hr1
  rw [← hpt] at hrun
  have hms' : ∀ u ∈ setCells ms off (a.eval y).cells.toList, u.oneCell' = true := setCells_all (p := fun u : Value => u.oneCell' = true) _ _ _ hr1 h1
  have plain_store : ∀ (env' : Env) (G' : Gh) (hs' : Sim NG GW io w0 pd0 G' env' a w) (hbl : G'.bl = G.bl) (hcr' : ∀ (i : Nat) v u, cs[i]? = some v → ms[i]? = some u → CellR G' w (t, i + 1) v u) (ho' : G'.own (G.bl t) = some (t, 0)) (hnp' : ∀ k, ¬ G'.pd (G.bl t) k) (cs' : List VV) (hl' : cs'.length = cs.length)
    (hc' : ∀ (j : Nat) v u, cs'[j]? = some v → (setCells ms off (a.eval y).cells.toList)[j]? = some u → ∀ w' : World, (∀ v m, DR G'.pd w v m → DR G'.pd w' v m) → (∀ p v m, p ≠ (t, 0) → CellR G' w p v m → CellR G' w' p v m) → CellR G' w' (t, j + 1) v u) (hK : K (env'.set t (.bx cs')) = some r), o.wp P a w next Q := by
   intro env' G' hs' hbl hcr' ho' hnp' cs' hl' hc' hK
   have hw := hs'.write gws (t := t) (ms := ms) (ms' := setCells ms off (a.eval y).cells.toList) (ty := bty) (by rw [hbl]; exact hh) (by rw [hbl]; exact ho') (by rw [hbl]; exact hnp') (.bx cs') (fun w' hh' hd hcell => by
    refine ⟨setCells ms off (a.eval y).cells.toList, bty, by rw [hbl]; exact hpm, hh', by rw [hbl]; exact ho', by rw [hbl]; exact hnp', by rw [hl', setCells_len]; exact hl, fun j v u hv hu => hc' j v u hv hu w' hd hcell, hms'⟩)
   refine wp_skip' (hex _ hrun) (hn G' _ _ _ ?_ hK)
   rw [hput, ← hbl]; exact hw
  have hdata : K (env.set t (.bx (setCells cs off (rdv env y).cells))) = some r → o.wp P a w next Q := by
   intro hK
   refine plain_store env G hs rfl hcr ho hnp _ (setCells_len _ _ _) (fun j v u hv hu w' hd hcell => ?_) hK
   rw [setCells_eq _ _ _ (by omega)] at hv
   rw [setCells_eq _ _ _ (by omega)] at hu
   have hto : (cs.take off).length = off := by simp; omega
   have hto' : (ms.take off).length = off := by simp; omega
   by_cases hj : j < off
   ·rw [List.append_assoc, List.getElem?_append_left (by omega), List.getElem?_take, if_pos hj] at hv
    rw [List.append_assoc, List.getElem?_append_left (by omega), List.getElem?_take, if_pos hj] at hu
    exact hcell _ _ _ (by simp) (hcr j v u hv hu)
   ·by_cases hj2 : j < off + (rdv env y).cells.length
    ·rw [List.append_assoc, List.getElem?_append_right (by omega), List.getElem?_append_left (by omega), hto] at hv
     rw [List.append_assoc, List.getElem?_append_right (by omega), List.getElem?_append_left (by omega), hto'] at hu
     have hdr := hr.at hv hu
     have h3 := hd _ _ hdr
     cases v <;> first
      | exact h3 | (cases h3)
    ·rw [List.getElem?_append_right (by simp; omega), List.getElem?_drop] at hv
     rw [List.getElem?_append_right (by simp at *; omega), List.getElem?_drop] at hu
     simp only [List.length_append, hto, hto'] at hv hu
     rw [show off + (rdv env y).cells.length + (j - (off + (rdv env y).cells.length)) = j by omega] at hv
     rw [show off + (a.eval y).cells.toList.length + (j - (off + (a.eval y).cells.toList.length)) = j by omega] at hu
     exact hcell _ _ _ (by simp) (hcr j v u hv hu)
  split at h
  ·rename_i u
   split at h
   ·rename_i e z xs hgu
    rw [vset_eq, vset_eq] at h
    have hut : u ≠ t := fun e => by rw [e, hcs] at hgu; cases hgu
    obtain ⟨hs', hO⟩ := hs.away hgu (t, off + 1)
    have hO0 : OwnR G w (u, 0) e z xs (a.eval (.tmp u)) := by have := get_slot hs u; rw [hgu] at this; exact this
    have hcells : (rdv env (.tmp u)).cells = [.sl xs] := by simp [rdv, hgu, view, VV.cells]
    rw [hcells] at hrl hlen
    simp at hlen
    have hmc : (a.eval (.tmp u)).cells.toList = [a.eval (.tmp u)] := by
     obtain ⟨_, ho2, _⟩ := hO0
     rcases ho2.2 with ⟨hv, _⟩ | ⟨g, cap, cur, hv, _⟩ <;> rw [hv] <;> rfl
    refine plain_store _ _ hs' rfl ?_ ?_ hnp (cs.set off (.ow e z xs)) (by simp) ?_ h
    ·intro j v m hv hm
     have h2 := hcr j v m hv hm
     cases v <;> first
      | exact OwnR.other hO0 h2 (fun e => by simp at e) | exact h2
    ·simp only [rehome]
     by_cases hb : (a.eval (.tmp u)).ownBlock = some (G.bl t)
     ·obtain ⟨_, _, _, _, _, _, hg⟩ := hO0
      have := ho.symm.trans (hg _ hb).1
      simp at this; exact absurd this.symm hut
     ·rw [if_neg hb]; exact ho
    ·intro j v m hv hm w' hd hcell
     rw [hmc] at hm
     simp only [setCells] at hm
     rw [List.getElem?_set] at hv hm
     by_cases hj : off = j
     ·subst hj
      rw [if_pos rfl] at hv hm
      split at hv
      case isFalse => cases hv
      split at hm
      case isFalse => cases hm
      cases hv; cases hm
      exact hcell (t, off + 1) (.ow e z xs) _ (by simp) hO
     ·rw [if_neg hj] at hv hm
      have h2 := hcr j v m hv hm
      refine hcell _ _ _ (by simp) ?_
      cases v <;> first
       | exact OwnR.other hO0 h2 (fun e => by simp at e) | exact h2
   ·rename_i hgu
    rw [vset_eq] at h
    have hnil : a.eval (.tmp u) = .slice none 0 0 := by have := get_slot hs u; rw [hgu] at this; exact this
    refine plain_store env G hs rfl hcr ho hnp (cs.set off .nl) (by simp) ?_ h
    intro j v m hv hm w' hd hcell
    rw [hnil] at hm
    simp only [Value.cells, setCells] at hm
    rw [List.getElem?_set] at hv hm
    by_cases hj : off = j
    ·subst hj
     rw [if_pos rfl] at hv hm
     split at hv
     case isFalse => cases hv
     split at hm
     case isFalse => cases hm
     cases hv; cases hm
     rfl
    ·rw [if_neg hj] at hv hm
     exact hcell _ _ _ (by simp) (hcr j v m hv hm)
   ·rw [vset_eq] at h; exact hdata h
  ·rw [vset_eq] at h; exact hdata h
 ·rename_i t j sz hv
  rw [hv] at hx
  have hpt : a.eval x = .pointer (some ⟨G.bl t, j.toNat * sz, none⟩) := hx
  have hslot := get_slot hs t
  split at h
  case h_2 => cases h
  rename_i e sz' xs hcs
  rw [hcs] at hslot
  obtain ⟨ms, hpm, hh, ho, hnp, hr0, hz, h1, hlx, h0, hB⟩ := (hslot : MadeR G w t e sz' xs (a.eval (.tmp t)))
  split at h
  case isFalse => cases h
  rename_i hcond
  obtain ⟨hlen, hsz, hsz', hok⟩ := hcond
  obtain ⟨hjb, h⟩ := bite_none h
  rw [frc_eq, vset_eq] at h
  obtain ⟨hr, hr1⟩ := hy.cells hok
  have hrl := hr.length
  subst hsz'
  have hj : j.toNat < xs.length := by
   simp at hjb; omega
  ·have hms : ms.length = xs.length * sz := by rw [← hr0.length, flat_len hz]
   have hfit : j.toNat * sz + sz ≤ ms.length := by
    rw [hms, ← Nat.succ_mul]; exact Nat.mul_le_mul_right _ hj
   have hrun := run_store' (P := P) (w := w) hti hi (g := G.bl t) (off := j.toNat * sz) (ms := ms) (ty := e) (v := a.eval y) hh (by rw [← hrl]; exact hlen) (by rw [hsz]; exact hfit) hr1
   rw [← hpt] at hrun
   have hw := hs.write gws (t := t) (ms := ms) (ms' := setCells ms (j.toNat * sz) (a.eval y).cells.toList) (ty := e) hh ho hnp (.mr e sz (xs.set j.toNat (rdv env y))) (fun w' hh' hd hcell => by
    refine ⟨setCells ms (j.toNat * sz) (a.eval y).cells.toList, by rw [List.length_set]; exact hpm, hh', ho, hnp, ?_, widths_set hz (hlen.trans hsz), setCells_all (p := fun u : Value => u.oneCell' = true) _ _ _ hr1 h1, by rw [List.length_set]; exact hlx, h0, hB⟩
    rw [flat_set hz hj (hlen.trans hsz)]
    have hk : ∀ {vs : List VV} {us : List Value}, DRs G.pd w vs us → DRs G.pd w' vs us := fun {vs us} h => .of h.length fun i v m hv hm => hd _ _ (h.at hv hm)
    exact (hk hr).setCells _ (hk hr0))
   refine wp_skip' (hex _ hrun) (hn G _ _ _ ?_ h)
   rw [hput]; exact hw
 ·cases h
end
section
variable {P : Program} {NG : Nat} {GW : World → Prop} {io : List Nat} {w0 : World} {pd0 : Nat → Nat → Prop} {G G' : Gh} {env : Env} {a : Act} {w w' : World}
variable {R : Type} {K : Env → Option R} {r : R} {next : Act → World → Prop} {Q : Exit → Act → World → Prop} {o : Oper} {C : Cx} {ops : List Oper} {dr : Option (List Nat)}
theorem vget_some {β : Type} {xs : List VV} {i : Int} {f : VV → Option β} {r : β} (h : vget xs i f = some r) : ∃ v, xs[i.toNat]? = some v ∧ f v = some r := by
 unfold vget at h
 split at h
 ·exact ⟨_, by assumption, h⟩
 ·cases h
theorem DR.sl_inv {pd : Nat → Nat → Prop} {xs : List VV} {m : Value} (h : DR pd w (.sl xs) m) : (xs = [] ∧ ∃ A c, m = .slice A 0 c) ∨ ∃ (g off c sz : Nat) (ms : List Value), m = .slice (some ⟨g, off, none⟩) xs.length c ∧ xs.length ≤ c ∧ xs.length ≤ maxLen ∧ (∀ x ∈ xs, x.cells.length = sz) ∧ DRs pd w (xs.flatMap VV.cells) ms ∧ (∀ m ∈ ms, m.oneCell' = true) ∧ ∀ (k : Nat) m, ms[k]? = some m → w.cell? ⟨g, off + k, none⟩ = some m ∧ pd g (off + k) := by
 cases h with
 | sl0 A c => exact .inl ⟨rfl, A, c, rfl⟩
 | sl _ g off c sz ms hc hm hz hr h1 hw => exact .inr ⟨g, off, c, sz, ms, rfl, hc, hm, hz, hr, h1, hw⟩
theorem fieldAddr_sound (hti : TIok P C.ti) (hs : Sim NG GW io w0 pd0 G env a w) (hn : Nx NG GW io w0 pd0 K r next) {st : TypeId} {x : Operand} {f : Nat} (hop : o.op = .fieldAddr st x f) (h : vop C ops dr o env K = some r) : o.wp P a w next Q := by
 have hx := rdv_rel hs x
 simp only [vop, hop] at h
 split at h
 case h_2 => cases h
 rename_i i hi
 split at h
 case h_2 => cases h
 rename_i fs hk
 split at h
 case h_2 => cases h
 rename_i off sz hf
 split at h
 case isTrue => cases h
 rename_i hz
 have hkd := hti.kind st i hi
 rw [hk] at hkd
 obtain ⟨fields, hu, _, hfs⟩ := hkd
 obtain ⟨fd, inf, hfd, hoff, hinf, hsz⟩ := hfs f off sz hf
 have hrun : ∀ g o', a.eval x = .pointer (some ⟨g, o', none⟩) → (execOp a.eval o).run P w = .ok (.value (.pointer (some ⟨g, o' + off, none⟩))) w := by
  intro g o' he
  unfold execOp
  rw [hop]
  simp only [he]
  simp [Instr.fieldAt, run_underlying hu, hfd, Instr.sureAddr, fieldPlace, sizeOf, typeInfo, hinf, hsz, hz, Addr.add_lit, hoff]
 split at h
 ·rename_i t o' hv
  rw [hv] at hx
  exact val_sound (v := .pt t (o' + off)) hs hn (hrun _ _ hx.pt_eq) (show _ = _ from rfl) h
 ·rename_i cs hv
  rw [hv] at hx
  obtain ⟨g, o', ms, hm, hr, h1, hc⟩ := hx.vw_v
  have hV : ViewR G w (cs.drop off) (.pointer (some ⟨g, o' + off, none⟩)) := ⟨g, o' + off, ms.drop off, rfl, hr.drop off, fun u hu => h1 u (List.mem_of_mem_drop hu), fun k u hu => by
   rw [List.getElem?_drop] at hu
   rw [Nat.add_assoc]; exact hc _ u hu⟩
  exact val_sound (v := .vw (cs.drop off)) hs hn (hrun _ _ hm) hV h
 ·cases h
theorem indexAddr_sound (hti : TIok P C.ti) (hs : Sim NG GW io w0 pd0 G env a w) (hn : Nx NG GW io w0 pd0 K r next) {t : TypeId} {x ix : Operand} (hop : o.op = .indexAddr t x ix) (h : vop C ops dr o env K = some r) : o.wp P a w next Q := by
 have hx := rdv_rel hs x
 have hix := rdv_rel hs ix
 simp only [vop, hop] at h
 split at h
 case h_2 => cases h
 rename_i i hi
 split at h
 case h_2 => cases h
 rename_i e hk
 split at h
 case h_2 => cases h
 rename_i ie hie
 have hu := hti.kind t i hi
 rw [hk] at hu
 simp only at hu
 obtain ⟨inf, z, hinf, hzz, hzc, hsz, hby, hzl, hz1, _⟩ := hti.info e ie hie
 have hrun : ∀ g off len cap k (j : Int), a.eval x = .slice (some ⟨g, off, none⟩) len cap → a.eval ix = .int k j → 0 ≤ j → j < (len : Int) → (execOp a.eval o).run P w = .ok (.value (.pointer (some ⟨g, off + j.toNat * ie.sz, none⟩))) w := by
  intro g off len cap k j he1 he2 h0 h1
  unfold execOp
  rw [hop]
  simp only [he1, he2]
  simp [Instr.indexAt, run_underlying hu, asIntOf, h0, h1, sizeOf, typeInfo, hinf, hsz, Addr.add_lit]
 split at h
 ·rename_i xs k j hvx hvi
  rw [hvx] at hx
  rw [hvi] at hix
  have hj := hix.sv
  obtain ⟨hb, h⟩ := bite_none h
  simp at hb
  obtain ⟨v, hv, h⟩ := vget_some h
  split at h
  case isFalse => cases h
  rename_i hvl
  rcases hx.sl_dr.sl_inv with ⟨rfl, _⟩ | ⟨g, off, c, sz, ms, hm, hc, hml, hz, hr, h1, hw⟩
  ·simp at hv
  ·have hsz' : sz = ie.sz := by rw [← hz v (List.mem_of_getElem? hv)]; exact hvl
   subst hsz'
   have hel := flat_elem hz hv
   have hV : ViewR G w v.cells (.pointer (some ⟨g, off + j.toNat * ie.sz, none⟩)) := by
    refine ⟨g, _, (ms.drop (j.toNat * ie.sz)).take ie.sz, rfl, hel ▸ (hr.drop _).take _, fun u hu => h1 u (List.mem_of_mem_drop (List.mem_of_mem_take hu)), fun q u hu => ?_⟩
    have h2 := hw _ _ (drop_take_get hu)
    rw [Nat.add_assoc]
    exact ⟨h2.1, hs.dv _ _ h2.2⟩
   exact val_sound (v := .vw v.cells) hs hn (hrun _ _ _ _ _ _ hm hj hb.1 hb.2) hV h
 ·rename_i u n k j hvx hvi
  rw [hvx] at hx
  rw [hvi] at hix
  obtain ⟨hb, h⟩ := bite_none h
  simp at hb
  have hm : a.eval x = .slice (some ⟨G.bl u, 0, none⟩) n n := hx
  refine val_sound (v := .pe u j ie.sz) hs hn (hrun _ _ _ _ _ _ hm hix.sv hb.1 hb.2) ?_ h
  show _ = _
  rw [Nat.zero_add]
 ·cases h
theorem append_sound (hti : TIok P C.ti) (gws : ∀ w w', GW w → Below NG w w' → GW w') (hs : Sim NG GW io w0 pd0 G env a w) (hn : Nx NG GW io w0 pd0 K r next) {c : Call} (hop : o.op = .call c) (hc : c.callee = .builtin .append) (h : vop C ops dr o env K = some r) : o.wp P a w next Q := by
 simp only [vop, hop, hc] at h
 split at h
 case h_2 => cases h
 rename_i u y t t' hargs hts
 split at h
 case isFalse => cases h
 rename_i htt
 have htt := Nat.eq_of_beq_eq_true htt
 subst htt
 split at h
 case h_2 => cases h
 rename_i i hi
 split at h
 case h_2 => cases h
 rename_i e hk
 split at h
 case h_2 => cases h
 rename_i ie hie
 split at h
 case isFalse => cases h
 rename_i hpos
 have hy := rdv_rel hs y
 have hca : c.args = #[.tmp u, y] := by rw [← Array.toArray_toList (xs := c.args), hargs]
 have hct : c.argTypes = #[t, t] := by rw [← Array.toArray_toList (xs := c.argTypes), hts]
 have key : ∀ xs ys, (get env u = .ow e ie.sz xs ∨ (get env u = .nl ∧ xs = [])) → rdv env y = .sl ys → (∀ x ∈ ys, x.cells.length = ie.sz) → (xs.length + ys.length) * ie.bytes ≤ 140737488355328 → vset u (.sl xs) env (fun env' => vput dr o.dst (.ow e ie.sz (xs ++ ys)) env' K) = some r → o.wp P a w next Q := by
  intro xs ys hu hvy hz hb hK
  rw [hvy] at hy
  rw [vset_eq] at hK
  obtain ⟨G', v', w', hrun, hs', hO⟩ := append_run (ty := o.type) hti hs gws hi hk hie hpos.1 hpos.2 (o.dst.getD 0, 0) hu hy.sl_dr hz hb
  have hex : (execOp a.eval o).run P w = .ok (.value v') w' := by
   unfold execOp
   rw [hop]
   simp only [resolve, hc, hca, hct, List.map_toArray, List.map_cons, List.map_nil]
   simp [invoke, builtin, hrun]
  refine wp_value hex (hn G' _ _ _ (hs'.put o.dst fun d hd => ?_) (vput_some hK))
  rw [hd] at hO
  exact hO
 split at h
 ·rename_i e' z xs ys hgu hvy
  split at h
  case isFalse => cases h
  rename_i hez
  simp at hez
  obtain ⟨rfl, rfl⟩ := hez
  obtain ⟨hb, h⟩ := bite_none h
  simp at hb
  exact key xs ys (.inl hgu) hvy (fun x hx => by have := hb.2 x hx; simpa using this) hb.1 h
 ·rename_i ys hgu hvy
  obtain ⟨hb, h⟩ := bite_none h
  simp at hb
  exact key [] ys (.inr ⟨hgu, rfl⟩) hvy (fun x hx => by have := hb.2 x hx; simpa using this) (by simpa using hb.1) (by simpa using h)
 ·cases h
end
section
variable {P : Program} {NG : Nat} {GW : World → Prop} {io : List Nat} {w0 : World} {pd0 : Nat → Nat → Prop} {G G' : Gh} {env : Env} {a : Act} {w w' : World}
variable {R : Type} {K : Env → Option R} {r : R} {next : Act → World → Prop} {Q : Exit → Act → World → Prop} {o : Oper} {C : Cx} {ops : List Oper} {dr : Option (List Nat)}
theorem fill_cons (place : Nat → Option (Nat × Nat)) (cells : Array Value) (i off sz : Nat) (v : Value) (rest : List (Nat × Value)) (hp : place i = some (off, sz)) (hv : v.cells.size = sz) (hf : off + sz ≤ cells.size) :
  Instr.fill place cells ((i, v) :: rest) = Instr.fill place (setCells cells.toList off v.cells.toList).toArray rest := by
 rw [Instr.fill]
 simp only [hp]
 rw [if_neg (by simp; omega)]
 congr 1
 have := fold_setCells v.cells.toList cells off 0
 simp only [Nat.add_zero] at this
 rw [← this]
 simp only [Array.toArray_toList]
 rw [← Array.foldl_toList, Array.toList_zipIdx]
theorem fillv_sound (hs : Sim NG GW io w0 pd0 G env a w) {i : TI} {fs : List (Nat × Nat)} (hk : i.k = .agg fs) {place : Nat → Option (Nat × Nat)} (hp : ∀ j o z, fs[j]? = some (o, z) → place j = some (o, z)) : ∀ (parts : List (Nat × Operand)) (cs : List VV) (ms : List Value) (cs' : List VV), DRs G.pd w cs ms → (∀ u ∈ ms, u.oneCell' = true) → fillv i cs (parts.map fun p => (p.1, rdv env p.2)) = some cs' →
  ∃ ms', Instr.fill place ms.toArray (parts.map fun p => (p.1, a.eval p.2)) = some ms'.toArray ∧ DRs G.pd w cs' ms' ∧ ∀ u ∈ ms', u.oneCell' = true
 | [], cs, ms, cs', hr, h1, h => by
  cases h; exact ⟨ms, rfl, hr, h1⟩
 | (j, x) :: rest, cs, ms, cs', hr, h1, h => by
  simp only [List.map_cons, fillv, hk] at h
  split at h
  case h_2 => cases h
  rename_i off sz hf
  split at h
  case isFalse => cases h
  rename_i hc
  obtain ⟨hl, hfit, hok⟩ := hc
  obtain ⟨hr', h1'⟩ := (rdv_rel hs x).cells hok
  have hl' : (rdv env x).cells.length = (a.eval x).cells.toList.length := hr'.length
  have hlc := hr.length
  have hl : (rdv env x).cells.length = sz := hl
  have hes : (a.eval x).cells.size = sz := (Array.length_toList (xs := (a.eval x).cells)).symm.trans (hl'.symm.trans hl)
  obtain ⟨ms', hm', hr2, h2⟩ := fillv_sound hs hk hp rest _ _ cs' (hr'.setCells off hr) (setCells_all (p := fun u : Value => u.oneCell' = true) _ _ _ h1' h1) h
  refine ⟨ms', ?_, hr2, h2⟩
  rw [List.map_cons, fill_cons place _ j off sz _ _ (hp _ _ _ hf) hes (by rw [List.size_toArray]; omega)]
  exact hm'
theorem build_sound (hti : TIok P C.ti) (hs : Sim NG GW io w0 pd0 G env a w) (hn : Nx NG GW io w0 pd0 K r next) {t : TypeId} {parts : Array (Nat × Operand)} (hop : o.op = .build t parts) (h : vop C ops dr o env K = some r) : o.wp P a w next Q := by
 simp only [vop, hop] at h
 split at h
 case h_2 => cases h
 rename_i i hi
 split at h
 case h_2 => cases h
 rename_i fs hk
 split at h
 case h_2 => cases h
 rename_i cs hf
 obtain ⟨inf, z, hinf, hzz, hzc, hsz, hby, hzl, hz1, hagg⟩ := hti.info t i hi
 have hkd := hti.kind t i hi
 ·rw [hk] at hkd hagg
  obtain ⟨fields, hu, hfl, hfs⟩ := hkd
  have hpl : fields.toList.mapM (fun f => (P.info? f.type).map fun i => (f.offset, i.size)) = some fs := by
   have : ∀ (l : List Field) (q : List (Nat × Nat)), l.length = q.length → (∀ (j : Nat) o z, q[j]? = some (o, z) → ∃ f inf, l[j]? = some f ∧ f.offset = o ∧ P.info? f.type = some inf ∧ inf.size = z) → l.mapM (fun f => (P.info? f.type).map fun i => (f.offset, i.size)) = some q := by
    intro l
    induction l with
    | nil => intro q hl _; cases q with
     | nil => rfl
     | cons _ _ => simp at hl
    | cons f l ih => intro q hl hq; cases q with
     | nil => simp at hl
     | cons p q =>
      obtain ⟨f', inf', e1, e2, e3, e4⟩ := hq 0 p.1 p.2 rfl
      cases e1
      have := ih q (by simpa using hl) fun j o z hj => hq (j + 1) o z (by simpa using hj)
      simp [List.mapM_cons, e3, this, e2, e4]
   refine this _ _ (by simpa using hfl) fun j o z hj => ?_
   obtain ⟨f, inf', e1, e2⟩ := hfs j o z hj
   exact ⟨f, inf', by simpa using e1, e2⟩
  obtain ⟨ms', hm', hr, h1⟩ := fillv_sound (place := (fs.toArray[·]?)) hs hk (fun j o z hj => by simpa using hj) parts.toList _ i.zero cs (liftcs_rel i.zero) hz1 hf
  have hb : P.built t (parts.map fun x => (x.1, a.eval x.2)).toList = some ms'.toArray := by
   unfold Program.built
   simp only [hinf, hu, hzz, hpl, Array.toList_map]
   have : z.cells = i.zero.toArray := by rw [← hzc]
   rw [this]
   exact hm'
  have hrun := run_build (P := P) w t _ _ hb
  refine val_sound (v := .ag cs) hs hn (m := .agg ms'.toArray) ?_ (VR.of_dr (.ag _ _ hr h1)) h
  unfold execOp
  rw [hop]
  simp only [Sem.run_bind]
  rw [hrun]
  rfl
end
section
variable {P : Program} {NG : Nat} {GW : World → Prop} {io : List Nat} {w0 : World} {pd0 : Nat → Nat → Prop} {G G' : Gh} {env : Env} {a : Act} {w w' : World}
variable {R : Type} {K : Env → Option R} {r : R} {next : Act → World → Prop} {Q : Exit → Act → World → Prop} {o : Oper} {C : Cx} {ops : List Oper} {dr : Option (List Nat)}
theorem fills_sound (hs : Sim NG GW io w0 pd0 G env a w) {z : Nat} : ∀ (parts : List (Nat × Operand)) (xs : List VV) (ms : List Value) (xs' : List VV), DRs G.pd w (xs.flatMap VV.cells) ms → (∀ x ∈ xs, x.cells.length = z) → (∀ u ∈ ms, u.oneCell' = true) → fills z xs (parts.map fun p => (p.1, rdv env p.2)) = some xs' →
  ∃ ms', Instr.fill (fun i => some (i * z, z)) ms.toArray (parts.map fun p => (p.1, a.eval p.2)) = some ms'.toArray ∧ DRs G.pd w (xs'.flatMap VV.cells) ms' ∧ (∀ x ∈ xs', x.cells.length = z) ∧ (∀ u ∈ ms', u.oneCell' = true) ∧ xs'.length = xs.length
 | [], xs, ms, xs', hr, hz, h1, h => by
  cases h; exact ⟨ms, rfl, hr, hz, h1, rfl⟩
 | (j, x) :: rest, xs, ms, xs', hr, hz, h1, h => by
  simp only [List.map_cons, fills] at h
  split at h
  case isFalse => cases h
  rename_i hc
  obtain ⟨hl, hj, hok⟩ := hc
  have hl : (rdv env x).cells.length = z := hl
  obtain ⟨hr', h1'⟩ := (rdv_rel hs x).cells hok
  have hl' : (rdv env x).cells.length = (a.eval x).cells.toList.length := hr'.length
  have hlc := hr.length
  rw [flat_len hz] at hlc
  have hes : (a.eval x).cells.size = z := (Array.length_toList (xs := (a.eval x).cells)).symm.trans (hl'.symm.trans hl)
  have hset := hr'.setCells (j * z) hr
  rw [← flat_set hz hj hl] at hset
  obtain ⟨ms', hm', hr2, hz2, h2, hl2⟩ := fills_sound hs rest _ _ xs' hset (widths_set hz hl) (setCells_all (p := fun u : Value => u.oneCell' = true) _ _ _ h1' h1) h
  refine ⟨ms', ?_, hr2, hz2, h2, by rw [hl2, List.length_set]⟩
  have hfit : j * z + z ≤ ms.length := by rw [← hlc, ← Nat.succ_mul]; exact Nat.mul_le_mul_right _ hj
  rw [List.map_cons, fill_cons _ _ j (j * z) z _ _ rfl hes (by rw [List.size_toArray]; exact hfit)]
  exact hm'
theorem buildSlice_sound (hti : TIok P C.ti) (gws : ∀ w w', GW w → Below NG w w' → GW w') (hs : Sim NG GW io w0 pd0 G env a w) (hn : Nx NG GW io w0 pd0 K r next) {t : TypeId} {len : Nat} {parts : Array (Nat × Operand)} (hop : o.op = .buildSlice t len parts) (h : vop C ops dr o env K = some r) : o.wp P a w next Q := by
 simp only [vop, hop] at h
 split at h
 case h_2 => cases h
 rename_i i hi
 split at h
 case h_2 => cases h
 rename_i e hk
 split at h
 case h_2 => cases h
 rename_i ie hie
 split at h
 case isFalse => cases h
 rename_i hpos
 split at h
 case h_2 => cases h
 rename_i xs hf
 rw [frcL_eq] at h
 have hu := hti.kind t i hi
 rw [hk] at hu
 simp only at hu
 obtain ⟨inf, z, hinf, hzz, hzc, hsz, hby, hzl, hz1, _⟩ := hti.info e ie hie
 have hzcells := zeroV_cells hti hie
 have hzs : z.cells.size = ie.sz := by rw [← hzl, ← hzc, Array.length_toList]
 have hr0 : DRs G.pd w ((List.replicate len (zeroV ie)).flatMap VV.cells) ((List.replicate len ie.zero).flatten) := by
  rw [repl_flat, hzcells]; exact (liftcs_rel ie.zero).repl len
 have hw0 : ∀ x ∈ List.replicate len (zeroV ie), x.cells.length = ie.sz := by
  intro x hx
  rw [List.eq_of_mem_replicate hx, hzcells]; simpa using hzl
 have h10 : ∀ u ∈ (List.replicate len ie.zero).flatten, u.oneCell' = true := by
  intro u hu
  obtain ⟨l, hl, hu⟩ := List.mem_flatten.1 hu
  rw [List.eq_of_mem_replicate hl] at hu
  exact hz1 u hu
 obtain ⟨ms, hm, hr, hz, h1, hxl⟩ := fills_sound hs parts.toList _ _ xs hr0 hw0 h10 hf
 have hxl : xs.length = len := by simpa using hxl
 have hml : ms.length = xs.length * ie.sz := by rw [← hr.length, flat_len hz]
 have hcur : ((Array.range (len * ie.sz)).map (z.cells[· % z.cells.size]!)) = ((List.replicate len ie.zero).flatten).toArray := by
  rw [← hzs]
  have := made_list z.cells (by rw [hzs]; exact hpos.1) len
  rw [← hzc, ← this]
 have hrun : (Instr.buildSlice t len (parts.map fun (i, x) => (i, a.eval x))).run P w = .ok (.slice (some ⟨w.heap.size, 0, none⟩) len len) (w.alloc (.cells ms.toArray e)) := by
  by_cases hl0 : len = 0
  ·subst hl0
   have hp : parts.toList = [] := by
    cases hp : parts.toList with
    | nil => rfl
    | cons p q => simp [hp, fills] at hf
   have hpe : parts = #[] := by rw [← Array.toArray_toList (xs := parts), hp]
   subst hpe
   have hx : xs = [] := List.eq_nil_of_length_eq_zero hxl
   subst hx
   have hm0 : ms = [] := List.eq_nil_of_length_eq_zero (by simpa using hml)
   subst hm0
   simp [Instr.buildSlice, run_underlying hu, sizeOf, typeInfo, hinf, Instr.fill, newRow]
   rw [show Array.map (fun _ : Nat => (default : Value)) (Array.range 0) = #[] from by
    apply Array.eq_empty_of_size_eq_zero; simp]
  ·refine run_buildSlice w t e len _ _ inf z hu hinf hzz (by rw [hsz]; have := hpos.2; omega) (by rw [hsz]; have := Nat.mul_pos (Nat.pos_of_ne_zero hl0) hpos.1; omega) ?_
   rw [hsz, hcur, Array.toList_map]
   exact hm
 obtain ⟨G', hs', hO⟩ := hs.row gws (o.dst.getD 0, 0) (e := e) (sz := ie.sz) (cap := len) (xs := xs) (ms := ms) (cur := ms.toArray) (by rw [List.size_toArray, hml, hxl]) (by rw [← hml]; exact List.take_length) hml (by omega) (by have h1 := hpos.1; have h2 := hpos.2; have : len ≤ len * ie.sz := Nat.le_mul_of_pos_right _ h1; simp only [maxLen]; omega) hr hz h1
 have hex : (execOp a.eval o).run P w = .ok (.value (.slice (some ⟨w.heap.size, 0, none⟩) len len)) (w.alloc (.cells ms.toArray e)) := by
  unfold execOp
  rw [hop]
  simp only [Sem.run_bind]
  rw [hrun]
  rfl
 refine wp_value hex (hn G' _ _ _ (hs'.put o.dst fun d hd => ?_) (vput_some h))
 rw [hd] at hO
 rw [hxl] at hO
 exact hO
theorem makeSlice_sound (hti : TIok P C.ti) (gws : ∀ w w', GW w → Below NG w w' → GW w') (hs : Sim NG GW io w0 pd0 G env a w) (hn : Nx NG GW io w0 pd0 K r next) {t : TypeId} {l c : Operand} (hop : o.op = .makeSlice t l c) (h : vop C ops dr o env K = some r) : o.wp P a w next Q := by
 have hl := rdv_rel hs l
 have hc := rdv_rel hs c
 simp only [vop, hop] at h
 split at h
 case h_2 => cases h
 rename_i i hi
 split at h
 case h_2 => cases h
 rename_i e hk
 split at h
 case h_2 => cases h
 rename_i ie hie
 split at h
 case h_2 => cases h
 rename_i n n' d hvl hvc hd
 split at h
 case isFalse => cases h
 rename_i hpos
 obtain ⟨hb, h⟩ := bite_none h
 simp at hb
 obtain ⟨hnn, h0, hb⟩ := hb
 rw [hvl] at hl
 rw [hvc] at hc
 have hl := hl.sv
 have hc := hc.sv
 subst hnn
 have hu := hti.kind t i hi
 rw [hk] at hu
 simp only at hu
 obtain ⟨inf, z, hinf, hzz, hzc, hsz, hby, hzl, hz1, _⟩ := hti.info e ie hie
 have hzs : z.cells.size = ie.sz := by rw [← hzl, ← hzc, Array.length_toList]
 have hzcells := zeroV_cells hti hie
 have hn1 : n'.toNat ≤ n'.toNat * ie.bytes := Nat.le_mul_of_pos_right _ hpos.2
 have hrun := run_make (P := P) w t e inf z hu hinf hzz .i64 .i64 n' n' h0 (Int.le_refl _) (by
  rw [hby]
  have h3 : ((n'.toNat * ie.bytes : Nat) : Int) ≤ 281474976710656 := by omega
  have h4 : (n'.toNat : Int) = n' := Int.toNat_of_nonneg h0
  have h5 : ((n'.toNat * ie.bytes : Nat) : Int) = (ie.bytes : Int) * n' := by
   rw [Int.natCast_mul, h4, Int.mul_comm]
  omega) (by omega)
 have hcur : madeCells z.cells (n'.toNat * inf.size) = ((List.replicate n'.toNat ie.zero).flatten).toArray := by
  unfold madeCells
  rw [hsz, ← hzs]
  have := made_list z.cells (by rw [hzs]; exact hpos.1) n'.toNat
  rw [← hzc, ← this]
 rw [hcur] at hrun
 have hr0 : DRs G.pd w ((List.replicate n'.toNat (zeroV ie)).flatMap VV.cells) ((List.replicate n'.toNat ie.zero).flatten) := by
  rw [repl_flat, hzcells]; exact (liftcs_rel ie.zero).repl _
 have hw0 : ∀ x ∈ List.replicate n'.toNat (zeroV ie), x.cells.length = ie.sz := by
  intro x hx
  rw [List.eq_of_mem_replicate hx, hzcells]; simpa using hzl
 have h10 : ∀ u ∈ (List.replicate n'.toNat ie.zero).flatten, u.oneCell' = true := by
  intro u hu
  obtain ⟨l, hl, hu⟩ := List.mem_flatten.1 hu
  rw [List.eq_of_mem_replicate hl] at hu
  exact hz1 u hu
 obtain ⟨G', hs'⟩ := hs.fresh gws d (.mr e ie.sz (List.replicate n'.toNat (zeroV ie))) ((List.replicate n'.toNat ie.zero).flatten) e (.slice (some ⟨w.heap.size, 0, none⟩) n'.toNat n'.toNat) (fun G' hB hb ho hp hd => by
  refine ⟨_, by rw [hb, List.length_replicate], by rw [hb]; exact heap_alloc_new w _, by rw [hb]; exact ho, fun k hk => hp k (by rw [hb] at hk; exact hk), .of hr0.length fun i v m hv hm => hd _ _ (hr0.at hv hm), hw0, h10, by rw [List.length_replicate]; simp only [maxLen]; omega, hpos.1, by rw [hb]; exact hB⟩)
 have hex : (execOp a.eval o).run P w = .ok (.value (.slice (some ⟨w.heap.size, 0, none⟩) n'.toNat n'.toNat)) (w.alloc (.cells ((List.replicate n'.toNat ie.zero).flatten).toArray e)) := by
  unfold execOp
  rw [hop]
  simp only [Sem.run_bind, hl, hc]
  rw [hrun]
  rfl
 refine wp_value hex (hn G' _ _ _ ?_ (vnew_some h))
 rw [hd]; exact hs'
end
def kindB : IntKind → IntKind → Bool
 | a, b => decide (a = b)
def zB : Value → Value → Bool
 | .int k 0, .int k' 0 => kindB k k'
 | .bool false, .bool false => true
 | .string ⟨⟨[]⟩⟩, .string ⟨⟨[]⟩⟩ => true
 | .slice none 0 0, .slice none 0 0 => true
 | .pointer none, .pointer none => true
 | _, _ => false
theorem zB_eq {a b : Value} (h : zB a b = true) : a = b ∧ b.oneCell' = true := by
 unfold zB at h
 split at h <;> first
  | (cases h; done) | (simp only [kindB, decide_eq_true_eq] at h; subst h; exact ⟨rfl, rfl⟩) | exact ⟨rfl, rfl⟩
def zsB : List Value → List Value → Bool
 | [], [] => true
 | a :: r, b :: s => zB a b && zsB r s
 | _, _ => false
theorem zsB_eq : ∀ {a b : List Value}, zsB a b = true → a = b ∧ ∀ v ∈ b, v.oneCell' = true
 | [], [], _ => ⟨rfl, by simp⟩
 | a :: r, b :: s, h => by
  rw [zsB, Bool.and_eq_true] at h
  obtain ⟨rfl, h1⟩ := zB_eq h.1
  obtain ⟨rfl, h2⟩ := zsB_eq h.2
  exact ⟨rfl, by intro v hv; rcases List.mem_cons.1 hv with rfl | hv; exact h1; exact h2 v hv⟩
 | [], _ :: _, h => by simp [zsB] at h
 | _ :: _, [], h => by simp [zsB] at h
def fsB (P : Program) : List Field → List (Nat × Nat) → Bool
 | [], [] => true
 | f :: r, (o, z) :: s => Nat.beq f.offset o && ((match P.info? f.type with
  | some inf => Nat.beq inf.size z
  | none => false) && fsB P r s)
 | _, _ => false
theorem fsB_ok {P : Program} : ∀ {l : List Field} {fs : List (Nat × Nat)}, fsB P l fs = true → l.length = fs.length ∧ ∀ (j : Nat) o z, fs[j]? = some (o, z) → ∃ f inf, l[j]? = some f ∧ f.offset = o ∧ P.info? f.type = some inf ∧ inf.size = z
 | [], [], _ => ⟨rfl, by simp⟩
 | f :: r, (o, z) :: s, h => by
  rw [fsB, Bool.and_eq_true, Bool.and_eq_true] at h
  obtain ⟨h1, h2, h3⟩ := h
  obtain ⟨hl, h4⟩ := fsB_ok h3
  refine ⟨by simp [hl], fun j o' z' hj => ?_⟩
  cases j with
  | zero =>
   simp at hj
   obtain ⟨rfl, rfl⟩ := hj
   split at h2
   ·rename_i inf hi
    exact ⟨f, inf, rfl, Nat.eq_of_beq_eq_true h1, hi, Nat.eq_of_beq_eq_true h2⟩
   ·cases h2
  | succ j => exact h4 j o' z' (by simpa using hj)
 | [], _ :: _, h => by simp [fsB] at h
 | _ :: _, [], h => by simp [fsB] at h
def infoB (P : Program) (t : TypeId) (i : TI) : Bool := match P.info? t with
 | some inf => (match inf.zero with
  | some z => zsB z.cells.toList i.zero && (Nat.beq inf.size i.sz && (Nat.beq inf.bytes i.bytes && (Nat.beq i.zero.length i.sz && (match i.k with
   | .agg _ => (match z with
    | .agg _ => true
    | _ => false)
   | _ => Nat.beq i.sz 1))))
  | none => false)
 | none => false
def undB (P : Program) (t : TypeId) : TK → Bool
 | .agg fs => (match P.underlying t with
  | some (.struct fields) => fsB P fields.toList fs
  | _ => false)
 | .slice e => (match P.underlying t with
  | some (.slice e') => Nat.beq e' e
  | _ => false)
 | .str => (match P.underlying t with
  | some .string => true
  | _ => false)
 | .bool => (match P.underlying t with
  | some .bool => true
  | _ => false)
 | .int k => (match P.underlying t with
  | some (.int k') => kindB k' k
  | _ => false)
 | .ptr => (match P.underlying t with
  | some (.pointer _) => true
  | _ => false)
def look : List (TypeId × TI) → TypeId → Option TI
 | [], _ => none
 | (u, i) :: r, t => match Nat.beq u t with
  | true => some i
  | false => look r t
theorem look_all {q : TypeId × TI → Bool} : ∀ {l : List (TypeId × TI)} {t : TypeId} {i : TI}, l.all q = true → look l t = some i → q (t, i) = true
 | [], t, i, _, h => by cases h
 | (u, j) :: r, t, i, ha, h => by
  rw [List.all_cons, Bool.and_eq_true] at ha
  rw [look] at h
  split at h
  ·rename_i hb
   cases h
   have := Nat.eq_of_beq_eq_true hb
   subst this
   exact ha.1
  ·exact look_all ha.2 h
theorem TIok.of {P : Program} {l : List (TypeId × TI)} (h1 : l.all (fun p => infoB P p.1 p.2) = true) (h2 : l.all (fun p => undB P p.1 p.2.k) = true) : TIok P (look l) := by
  refine ⟨fun t i h => ?_, fun t i h => ?_⟩
  · have := look_all h1 h
    simp only [infoB] at this
    split at this
    case h_2 => cases this
    rename_i inf hinf
    split at this
    case h_2 => cases this
    rename_i z hz
    simp only [Bool.and_eq_true] at this
    obtain ⟨a, b, c, d, e⟩ := this
    obtain ⟨a1, a2⟩ := zsB_eq a
    refine ⟨inf, z, hinf, hz, a1, Nat.eq_of_beq_eq_true b, Nat.eq_of_beq_eq_true c, Nat.eq_of_beq_eq_true d, a2, ?_⟩
    cases hk : i.k <;> simp only [hk] at e ⊢ <;> first
      | exact Nat.eq_of_beq_eq_true e
      | (split at e
         · exact ⟨_, rfl⟩
         · cases e)
  · have := look_all h2 h
    simp only at this
    cases hk : i.k <;> simp only [hk, undB] at this ⊢ <;> split at this <;> first
      | (cases this; done) | (rename_i h3; exact h3) | (rename_i h3; exact ⟨_, h3⟩) | (rename_i h3; simp only [kindB, decide_eq_true_eq] at this; rw [h3, this]) | (rename_i h3; rw [h3, Nat.eq_of_beq_eq_true this])
      | (rename_i h3
         obtain ⟨h4, h5⟩ := fsB_ok this
         exact ⟨_, h3, by simpa using h4, fun j o z hj => by
          obtain ⟨f, inf, h6, h7⟩ := h5 j o z hj
          exact ⟨f, inf, by simpa using h6, h7⟩⟩)
end Go.Proofs.YtieohddolkeegaaGreatDoor.VI

end
section
namespace Go.Proofs.YtieohddolkeegaaGreatDoor.VI
open Go Go.RowKit Go.Proofs.YtieohddolkeegaaGreatDoorW.PrintWords
set_option linter.unusedVariables false
set_option linter.unusedSimpArgs false
theorem drs_s : ∀ {pd : Nat → Nat → Prop} {w : World} (ls : List Value) {ms : List Value}, DRs pd w (ls.map VV.s) ms → ms = ls
 | _, _, [], _, h => by cases h; rfl
 | _, _, a :: ls, _, h => by
  cases h with
  | cons _ m _ ms h1 h2 =>
   cases h1
   rw [drs_s ls h2]
theorem c_of_dr {α : Type} {mk : α → Value} {h1 : ∀ x, (mk x).oneCell' = true} {pd : Nat → Nat → Prop} {w : World} {xs : List α} {m : Value} (h : DR pd w (.sl (xs.map fun x => .s (mk x))) m) : ∃ A c, m = .slice A xs.length c ∧ xs.length ≤ c ∧ Kd.C (Kd.scalar mk h1) w A xs.length xs := by
 generalize hl : (xs.map fun x => VV.s (mk x)) = l at h
 have hn : l.length = xs.length := by rw [← hl, List.length_map]
 cases h with
 | sl0 A c =>
  obtain rfl := List.eq_nil_of_length_eq_zero hn.symm
  exact ⟨A, c, rfl, Nat.zero_le _, rfl, Nat.zero_le _, fun h => absurd h (Nat.lt_irrefl _)⟩
 | sl _ g off c sz ms hc hm hz hr h1' hw =>
  subst hl
  have e : (List.map (fun x => VV.s (mk x)) xs).flatMap VV.cells = (xs.map mk).map VV.s := by
   clear hn hc hm hz hr h1' hw
   induction xs with
   | nil => rfl
   | cons x xs ih => rw [List.map_cons, List.flatMap_cons, ih]; rfl
  rw [e] at hr
  obtain rfl := drs_s _ hr
  rw [hn] at hc hm ⊢
  refine ⟨_, c, rfl, hc, rfl, by simpa [maxLen] using hm, fun _ => ⟨_, rfl, fun j p hj => ⟨[mk p], rfl, rfl, fun i u hu => ?_⟩⟩⟩
  cases i with
  | zero =>
   have hu' : mk p = u := by simpa using hu
   subst hu'
   have := (hw j (mk p) (by rw [List.getElem?_map, hj]; rfl)).1
   have e2 : (⟨g, off, none⟩ : Addr).add (j * 1 + 0) = ⟨g, off + j, none⟩ := by unfold Addr.add; simp
   show w.cell? ((⟨g, off, none⟩ : Addr).add (j * 1 + 0)) = _
   rw [e2]; exact this
  | succ i => simp at hu
theorem byL_map : ∀ (xs : List VV) (l : List Int), byL xs = some l → xs = l.map VV.byte
 | [], l, h => by cases h; rfl
 | v :: r, l, h => by
  cases v with
  | s x =>
   cases x with
   | int k n =>
    cases k with
    | u8 =>
     have h2 : obind (byL r) (fun l => some (n :: l)) = some l := h
     cases hr : byL r with
     | none => rw [hr] at h2; cases h2
     | some l' =>
      rw [hr] at h2
      have h' : some (n :: l') = some l := h2
      cases h'
      rw [byL_map r l' hr]
      rfl
    | _ => cases h
   | _ => cases h
  | _ => cases h
theorem bytes_run {P : Program} {pd : Nat → Nat → Prop} {w : World} {src dst e : TypeId} {xs : List VV} {l : List Int} {m : Value} (hs : P.underlying src = some (.slice e)) (he : P.underlying e = some (.int .u8)) (hd : P.underlying dst = some .string) (hl : byL xs = some l) (h : DR pd w (.sl xs) m) : (convert src dst m).run P w = .ok (.string (strOfNums l)) w := by
 obtain rfl := byL_map xs l hl
 obtain ⟨A, c, rfl, _, hC⟩ := c_of_dr (mk := Value.int .u8) (h1 := fun _ => rfl) h
 exact Kd.C_string hs he hd hC
end Go.Proofs.YtieohddolkeegaaGreatDoor.VI

end
section
namespace Go.Proofs.YtieohddolkeegaaGreatDoor.VI
open Go Go.RowKit
set_option linter.unusedVariables false
set_option linter.unusedSimpArgs false
section
variable {P : Program} {NG : Nat} {GW : World → Prop} {io : List Nat} {w0 : World} {pd0 : Nat → Nat → Prop} {G G' : Gh} {env : Env} {a : Act} {w w' : World}
variable {R : Type} {K : Env → Option R} {r : R} {next : Act → World → Prop} {Q : Exit → Act → World → Prop} {o : Oper} {C : Cx} {ops : List Oper} {dr : Option (List Nat)}
theorem part_dr {pd : Nat → Nat → Prop} {xs : List VV} {A : Option Addr} {len cap l h : Nat} {sz : Nat} (hd : DR pd w (.sl xs) (.slice A len cap)) (hz : ∀ x ∈ xs, x.cells.length = sz) (hlh : l ≤ h) (hh : h ≤ xs.length) : DR pd w (.sl ((xs.take h).drop l)) (.slice (if cap = l then A else A.map (·.add (l * sz))) (h - l) (cap - l)) := by
 have hlen : ((xs.take h).drop l).length = h - l := by simp; omega
 by_cases he : h - l = 0
 ·have : (xs.take h).drop l = [] := List.eq_nil_of_length_eq_zero (by omega)
  rw [this, he]; exact .sl0 _ _
 ·rcases hd.sl_inv with ⟨rfl, _⟩ | ⟨g, off, c, sz', ms, hm, hc, hml, hz', hr, h1, hw⟩
  ·simp at hh; omega
  ·cases hm
   rw [if_neg (by omega)]
   simp only [Option.map_some, Addr.add_lit]
   have e := flat_take h hz
   have hr2 := (hr.take (h * sz)).drop (l * sz)
   rw [e, flat_drop l (fun x hx => hz x (List.mem_of_mem_take hx))] at hr2
   have := DR.sl (pd := pd) (w := w) ((xs.take h).drop l) g (off + l * sz) (cap - l) sz ((ms.take (h * sz)).drop (l * sz)) (by rw [hlen]; omega) (by rw [hlen]; omega) (fun x hx => hz x (List.mem_of_mem_take (List.mem_of_mem_drop hx))) hr2 (fun u hu => h1 u (List.mem_of_mem_take (List.mem_of_mem_drop hu))) (fun k u hu => by
    rw [List.getElem?_drop, List.getElem?_take] at hu
    split at hu
    ·have := hw _ _ hu; rw [Nat.add_assoc]; exact this
    ·cases hu)
   rw [hlen] at this
   exact this
theorem sv_int {x : Operand} {k : IntKind} {n : Int} (hs : Sim NG GW io w0 pd0 G env a w) (h : rdv env x = .s (.int k n)) : a.eval x = .int k n := by
 have := rdv_rel hs x; rw [h] at this; exact this.sv
theorem bounds_run (hs : Sim NG GW io w0 pd0 G env a w) {lo hi : Option Operand} {l h : Option Int} {len cap : Nat} (sl : Bool) (hc : len ≤ cap) (hl : vbnd (lo.map (rdv env)) = some l) (hh : vbnd (hi.map (rdv env)) = some h) (hb : bndOk len (l.getD 0) (h.getD len) = true) :
  (Instr.sliceBounds sl len cap (lo.map a.eval) (hi.map a.eval) none).run P w = .ok ((l.getD 0).toNat, (h.getD len).toNat, cap) w := by
 have one : ∀ (x : Option Operand) (q : Option Int), vbnd (x.map (rdv env)) = some q → (x = none ∧ q = none) ∨ ∃ y k n, x = some y ∧ a.eval y = .int k n ∧ q = some n := by
  intro x q hx
  cases x with
  | none => simp [vbnd] at hx; exact .inl ⟨rfl, hx.symm⟩
  | some y =>
   simp only [Option.map_some] at hx
   generalize hy : rdv env y = v at hx
   unfold vbnd at hx
   split at hx
   ·rename_i e; cases e
   ·rename_i k n e; cases e; cases hx; exact .inr ⟨y, k, n, rfl, sv_int hs hy, rfl⟩
   ·cases hx
 rcases one lo l hl with ⟨rfl, rfl⟩ | ⟨x, kx, nx, rfl, hx, rfl⟩ <;> rcases one hi h hh with ⟨rfl, rfl⟩ | ⟨y, ky, ny, rfl, hy, rfl⟩ <;> simp [bndOk] at hb <;> simp [Instr.sliceBounds, *]
 ·have h1 : ny ≤ (cap : Int) := by omega
  rw [run_sliceBound _ _ _ _ _ hb.1.1 h1]
  simp
 ·rw [run_sliceBound _ _ _ _ _ hb.1 hb.2]; rfl
 ·have h1 : ny ≤ (cap : Int) := by omega
  rw [run_sliceBound _ _ _ _ _ hb.1.1 h1]
  simp only [Result.andThen_ok, Sem.run_bind]
  rw [run_sliceBound _ _ _ _ _ hb.2.1 (by have := Int.toNat_of_nonneg hb.1.1; omega)]
  rfl
theorem slice_sound (hti : TIok P C.ti) (hs : Sim NG GW io w0 pd0 G env a w) (hn : Nx NG GW io w0 pd0 K r next) {t : TypeId} {x : Operand} {lo hi mx : Option Operand} (hop : o.op = .slice t x lo hi mx) (h : vop C ops dr o env K = some r) : o.wp P a w next Q := by
 have hx := rdv_rel hs x
 simp only [vop, hop] at h
 split at h
 case h_2 => cases h
 rename_i i hi
 split at h
 ·rename_i s hk hv
  rw [hv] at hx
  split at h
  case h_2 => cases h
  rename_i l q hl hq
  obtain ⟨hb, h⟩ := bite_none h
  have hu := hti.kind t i hi
  rw [hk] at hu
  simp only at hu
  have hrun := bounds_run (P := P) hs (cap := s.size) false (Nat.le_refl _) hl hq hb
  refine val_sound hs hn (m := .string (s.extract (l.getD 0).toNat (q.getD s.size).toNat)) ?_ (VR.of_dr (.s _)) h
  unfold execOp
  rw [hop]
  simp only [hx.sv]
  simp [run_sliceAt_string (h := hu), Instr.slice, run_underlying hu, hrun]
 ·rename_i e xs hk hv
  rw [hv] at hx
  split at h
  case h_2 => cases h
  rename_i ie l q hie hl hq
  obtain ⟨hb, h⟩ := bite_none h
  rw [Bool.and_eq_true] at hb
  obtain ⟨hb, hw⟩ := hb
  have hz : ∀ x ∈ xs, x.cells.length = ie.sz := fun x hx => by
   rw [List.all_eq_true] at hw; exact Nat.eq_of_beq_eq_true (hw x hx)
  have hu := hti.kind t i hi
  rw [hk] at hu
  simp only at hu
  obtain ⟨A, c, hm, hc⟩ : ∃ A c, a.eval x = .slice A xs.length c ∧ xs.length ≤ c := by
   rcases hx.sl_dr.sl_inv with ⟨rfl, A, c, hm⟩ | ⟨g, off, c, sz, ms, hm, hc, _⟩
   ·exact ⟨A, c, hm, Nat.zero_le _⟩
   ·exact ⟨_, c, hm, hc⟩
  have hrun := bounds_run (P := P) hs (cap := c) true hc hl hq hb
  have hd : DR G.pd w (.sl xs) (.slice A xs.length c) := hm ▸ hx.sl_dr
  have hb' := hb
  simp [bndOk] at hb'
  have hpart := part_dr (l := (l.getD 0).toNat) (h := (q.getD xs.length).toNat) hd hz (by omega) (by omega)
  refine val_sound hs hn ?_ (VR.of_dr hpart) h
  unfold execOp
  rw [hop]
  simp only [hm]
  simp [Instr.sliceAt, Instr.slice, run_underlying hu, hrun, run_sizeOf' hti hie]
 ·cases h
theorem small_sound (hti : TIok P C.ti) (hs : Sim NG GW io w0 pd0 G env a w) (hn : Nx NG GW io w0 pd0 K r next)
  (hop : (∃ c x y, o.op = .pick c x y) ∨ (∃ op t x, o.op = .unOp op t x) ∨ (∃ op t x y u, o.op = .binOp op t x y u) ∨ (∃ x, o.op = .nilCheck x) ∨ (∃ t x y, o.op = .index t x y) ∨ (∃ x n, o.op = .extract x n) ∨ (∃ f x y, o.op = .makeFunc (.func f) x y) ∨ (∃ s d x, o.op = .convert s d x)) (h : vop C ops dr o env K = some r) : o.wp P a w next Q := by
 rcases hop with ⟨c, x, y, hop⟩ | ⟨op, t, x, hop⟩ | ⟨op, t, x, y, u, hop⟩ | ⟨x, hop⟩ | ⟨t, x, y, hop⟩ | ⟨x, n, hop⟩ | ⟨f, x, y, hop⟩ | ⟨s, d, x, hop⟩ <;> simp only [vop, hop] at h
 ·have hc := rdv_rel hs c
  split at h
  case h_2 => cases h
  rename_i t ht
  rw [ht] at hc
  rcases bite_some h with ⟨rfl, h⟩ | ⟨rfl, h⟩
  ·refine val_sound hs hn ?_ (rdv_rel hs x) h
   unfold execOp; rw [hop]; simp [hc.sv, asBool]
  ·refine val_sound hs hn ?_ (rdv_rel hs y) h
   unfold execOp; rw [hop]; simp [hc.sv, asBool]
 ·have hx := rdv_rel hs x
  split at h
  case h_2 => cases h
  rename_i v hv
  refine val_sound hs hn (m := v) ?_ (VR.of_dr (.s _)) h
  unfold execOp; rw [hop]
  unfold vun at hv
  split at hv <;> first | (cases hv; done) | skip
  ·rename_i b hb; rw [hb] at hx; cases hv; simp [hx.sv, Op.unary]
  ·rename_i k n hb; rw [hb] at hx; cases hv; simp [hx.sv, Op.unary, Op.intArith, wr_eq]
 ·split at h
  ·rename_i b v hv
   obtain ⟨hb, h⟩ := must_some h
   exact val_sound hs hn (binop_sound hb hop hs hv (isBool_ok hti)) (VR.of_dr (.s _)) h
  ·cases h
 ·have hx := rdv_rel hs x
  split at h
  case h_2 => cases h
  rename_i t off hv
  rw [hv] at hx
  refine val_sound (v := .pt t off) hs hn (m := .pointer (some ⟨G.bl t, off, none⟩)) ?_ (show _ = _ from rfl) h
  unfold execOp; rw [hop]; simp [hx.pt_eq]
 ·have hx := rdv_rel hs x
  split at h
  case h_2 => cases h
  rename_i i hi
  split at h
  case h_2 => cases h
  rename_i b k j hk hvx hvy
  rw [hvx] at hx
  have hy := sv_int hs hvy
  obtain ⟨hb, h⟩ := bite_none h
  simp at hb
  have hu := hti.kind t i hi
  rw [hk] at hu
  simp only at hu
  refine val_sound hs hn (m := .int .u8 (bt b j)) ?_ (VR.of_dr (.s _)) h
  unfold execOp; rw [hop]
  have hj : j.toNat < b.size := by omega
  simp [hx.sv, hy, Instr.index, run_underlying hu, asIntOf, hb.1, hj, bt]
 ·have hx := rdv_rel hs x
  split at h
  case h_2 => cases h
  rename_i vs hv
  split at h
  case h_2 => cases h
  rename_i v hvn
  rw [hv] at hx
  cases hm : a.eval x with
  | tuple ms =>
   rw [hm] at hx
   have hd := hx.tu_dr
   generalize hms : Value.tuple ms = q at hd
   cases hd with
   | tu _ us hr =>
    cases hms
    obtain ⟨m, h1, h2⟩ := hr.get hvn
    refine val_sound hs hn (m := m) ?_ (VR.of_dr h2) h
    unfold execOp; rw [hop]; simp [hm, Instr.extract, h1]
  | _ => rw [hm] at hx; exact absurd hx.tu_dr (by intro h; cases h)
 ·split at h
  case isFalse => cases h
  rename_i hz
  split at h
  case h_2 => cases h
  rename_i hcap
  refine val_sound (v := .cl f (y.toList.map (rdv env))) hs hn (m := .func (.func f) #[] (y.map a.eval)) ?_ ?_ h
  ·unfold execOp; rw [hop]
   have : x = #[] := by simpa using hz
   simp [Instr.makeFunc, this]
  ·refine ⟨(y.map a.eval).toList, by rw [Array.toArray_toList], by simp, fun i v u hv hu => ?_⟩
   rw [List.getElem?_map] at hv
   obtain ⟨x', hx', rfl⟩ := Option.map_eq_some_iff.1 hv
   have hu : y.toList[i]?.map a.eval = some u := by simpa using hu
   rw [hx'] at hu
   cases hu
   have h1 := rdv_rel hs x'
   rw [List.all_eq_true] at hcap
   have h2 := hcap _ (List.mem_map.2 ⟨x', List.mem_of_getElem? hx', rfl⟩)
   generalize rdv env x' = q at h1 h2
   cases q <;> first
    | exact h1 | (simp [isCap] at h2; done)
 ·have hx := rdv_rel hs x
  split at h
  case h_2 => cases h
  rename_i i j hi hj
  have hu := hti.kind s i hi
  have hd := hti.kind d j hj
  split at h
  ·rename_i k k' k'' n hki hkj hv
   rw [hv] at hx
   rw [hki] at hu
   rw [hkj] at hd
   simp only at hu hd
   refine val_sound hs hn (m := .int k' (k'.wrap n)) ?_ (wr_eq k' n ▸ VR.of_dr (.s _)) h
   unfold execOp; rw [hop]; simp [hx.sv, convert, run_underlying hu, run_underlying hd, Conv.intToInt]
  ·rename_i b hki hkj hv
   rw [hv] at hx
   rw [hki] at hu
   rw [hkj] at hd
   simp only at hu hd
   refine val_sound hs hn (m := .string b) ?_ (VR.of_dr (.s _)) h
   unfold execOp; rw [hop]; simp [hx.sv, convert, run_underlying hu, run_underlying hd]
  ·rename_i e xs hki hkj hv
   rw [hv] at hx
   rw [hki] at hu
   rw [hkj] at hd
   simp only at hu hd
   split at h
   case h_2 => cases h
   rename_i ie hie
   have he := hti.kind e ie hie
   split at h
   ·rename_i hk
    rw [hk] at he
    cases hl : byL xs with
    | none => rw [hl] at h; cases h
    | some l =>
     rw [hl] at h
     have hr := bytes_run (P := P) hu he hd hl hx.sl_dr
     refine val_sound hs hn (m := .string (strOfNums l)) ?_ (VR.of_dr (.s _)) h
     unfold execOp
     rw [hop]
     simp [hr]
   ·cases h
  ·cases h
theorem len_sound (hti : TIok P C.ti) (hs : Sim NG GW io w0 pd0 G env a w) (hn : Nx NG GW io w0 pd0 K r next) {c : Call} (hop : o.op = .call c) (hc : c.callee = .builtin .len ∨ c.callee = .builtin .min) (h : vop C ops dr o env K = some r) : o.wp P a w next Q := by
 rcases hc with hc | hc <;> simp only [vop, hop, hc] at h
 ·split at h
  case h_2 => cases h
  rename_i x t hargs hts
  have hx := rdv_rel hs x
  have hca : c.args = #[x] := by rw [← Array.toArray_toList (xs := c.args), hargs]
  have hct : c.argTypes = #[t] := by rw [← Array.toArray_toList (xs := c.argTypes), hts]
  split at h
  case h_2 => cases h
  rename_i i hi
  have hu := hti.kind t i hi
  split at h
  ·rename_i b hk hv
   rw [hv] at hx
   rw [hk] at hu
   simp only at hu
   refine val_sound hs hn (m := .int .i64 b.size) ?_ (VR.of_dr (.s _)) h
   unfold execOp; rw [hop]
   simp [resolve, hc, hca, hct, invoke, builtin, Builtin.len_, run_underlying hu, hx.sv, goInt]
  ·rename_i e xs hk hv
   rw [hv] at hx
   rw [hk] at hu
   simp only at hu
   obtain ⟨A, q, hm⟩ : ∃ A q, a.eval x = .slice A xs.length q := by
    rcases hx.sl_dr.sl_inv with ⟨rfl, A, c, hm⟩ | ⟨g, off, c, sz, ms, hm, hc, _⟩
    ·exact ⟨A, c, hm⟩
    ·exact ⟨_, c, hm⟩
   refine val_sound hs hn (m := .int .i64 xs.length) ?_ (VR.of_dr (.s _)) h
   unfold execOp; rw [hop]
   simp [resolve, hc, hca, hct, invoke, builtin, Builtin.len_, run_underlying hu, hm, goInt]
  ·rename_i e u n hk hv
   rw [hv] at hx
   rw [hk] at hu
   simp only at hu
   have hm : a.eval x = .slice (some ⟨G.bl u, 0, none⟩) n n := hx
   refine val_sound hs hn (m := .int .i64 n) ?_ (VR.of_dr (.s _)) h
   unfold execOp; rw [hop]
   simp [resolve, hc, hca, hct, invoke, builtin, Builtin.len_, run_underlying hu, hm, goInt]
  ·cases h
 ·split at h
  case h_2 => cases h
  rename_i x y hargs
  have hx := rdv_rel hs x
  have hy := rdv_rel hs y
  have hca : c.args = #[x, y] := by rw [← Array.toArray_toList (xs := c.args), hargs]
  split at h
  case h_2 => cases h
  rename_i k n k' n' hvx hvy
  rw [hvx] at hx
  rw [hvy] at hy
  refine val_sound hs hn (m := .int k (if n' < n then n' else n)) ?_ (VR.of_dr (.s _)) h
  unfold execOp; rw [hop]
  simp [resolve, hc, hca, invoke, builtin, hx.sv, hy.sv, run_min_int2]
end
def blk : Value → Nat
 | .pointer (some a) => a.block
 | _ => 0
def ioB : List VV → List Value → List Nat
 | .bx _ :: vs, m :: ms => blk m :: ioB vs ms
 | _ :: vs, _ :: ms => ioB vs ms
 | _, _ => []
def ArgR (H : Gh) (w : World) : VV → Value → Prop
 | .bx cs, m => ∃ (g : Nat) (us : List Value) (ty : TypeId), m = .pointer (some ⟨g, 0, none⟩) ∧ w.heap[g]? = some (.cells us.toArray ty (0, 0)) ∧ DRs H.pd w cs us ∧ (∀ u ∈ us, u.oneCell' = true) ∧ ∀ k, ¬ H.pd g k
 | .vw cs, m => ViewR H w cs m
 | .cl f cap, m => ∃ ms : List Value, m = .func (.func f) #[] ms.toArray ∧ cap.length = ms.length ∧ ∀ (i : Nat) v u, cap[i]? = some v → ms[i]? = some u → ∃ cs, v = .vw cs ∧ ViewR H w cs u
 | .pt _ _, _ => False
 | .sr _ _, _ => False
 | .pe _ _ _, _ => False
 | .ow _ _ _, _ => False
 | .nl, _ => False
 | .mr _ _ _, _ => False
 | v, m => DR H.pd w v m
def ResR (B : Nat) (pd : Nat → Nat → Prop) (w : World) : VV → Value → Prop
 | .ow e z xs, m => ∃ ms : List Value, w.ownsRow B e z m xs.length ms ∧ DRs pd w (xs.flatMap VV.cells) ms ∧ (∀ x ∈ xs, x.cells.length = z) ∧ (∀ u ∈ ms, u.oneCell' = true) ∧ xs.length ≤ maxLen ∧ ∀ g, m.ownBlock = some g → ∀ k, pd g k ↔ k < xs.length * z
 | .nl, m => m = .slice none 0 0
 | v, m => DR pd w v m
def Post (H : Gh) (w : World) (io : List Nat) (r : VV × List VV) (m : Value) (w' : World) : Prop :=
 Fr io w.heap.size w w' ∧ ∃ pd' : Nat → Nat → Prop, (∀ g k, g < w.heap.size → pd' g k → H.pd g k) ∧ ResR w.heap.size pd' w' r.1 m ∧ r.2.length = io.length ∧
  ∀ (j g : Nat) v, io[j]? = some g → r.2[j]? = some v → ∃ (cs : List VV) (us : List Value) (ty : TypeId), v = .bx cs ∧ w'.heap[g]? = some (.cells us.toArray ty (0, 0)) ∧ DRs pd' w' cs us ∧ ∀ u ∈ us, u.oneCell' = true
def FnOk (P : Program) (f : FuncId) : Prop := ∃ fn, P.funcs[f]? = some fn ∧ (fn.name == "runtime.NumGoroutine") = false ∧ fn.body.isSome = true
def CallOk1 (P : Program) (NG : Nat) (GW : World → Prop) (f : FuncId) (vs : List VV) (r : VV × List VV) : Prop :=
 FnOk P f ∧ ∀ (w : World) (ms : List Value) (H : Gh), GW w → NG ≤ w.heap.size → vs.length = ms.length → (∀ (i : Nat) v m, vs[i]? = some v → ms[i]? = some m → ArgR H w v m) → (ioB vs ms).Nodup → (∀ g ∈ ioB vs ms, NG ≤ g) → (∀ g k, H.pv g k → g ∉ ioB vs ms) → (∀ g k, H.pd g k → H.pv g k) →
  Calls P f ms.toArray w fun e w' => ∃ m, e = .returned m ∧ Post H w (ioB vs ms) r m w'
def CallOk (P : Program) (NG : Nat) (GW : World → Prop) (call : FuncId → List VV → Option (VV × List VV)) : Prop := ∀ f vs r, vs.all argOk = true → call f vs = some r → CallOk1 P NG GW f vs r
def argOf (env : Env) (x : Operand) : VV := match rdv env x with
 | .pt t 0 => (match get env t with
  | .bx cs => .bx cs
  | _ => .un)
 | .pt _ (_ + 1) => .un
 | .cl f cap => .cl f (cap.map (capv env))
 | v => v
def ioOf (env : Env) (x : Operand) : List Nat := match rdv env x with
 | .pt t 0 => (match get env t with
  | .bx _ => [t]
  | _ => [])
 | _ => []
theorem argv_eq {α : Type} (env : Env) : ∀ (l : List Operand) (k : List VV → List Nat → α), argv env l k = k (l.map (argOf env)) (l.flatMap (ioOf env))
  | [], k => rfl
  | x :: r, k => by
    simp only [argv, List.map_cons, List.flatMap_cons]
    unfold argOf ioOf
    generalize rdv env x = v
    cases v <;> first
      | (simp only [argv_eq env r, frcL_eq]; rfl)
      | (rename_i t o
         cases o with
         | zero =>
           simp only
           generalize get env t = q
           cases q <;> simp only [argv_eq env r] <;> rfl
         | succ n => simp only [argv_eq env r]; rfl)
theorem capK_eq {α : Type} : ∀ (l cap : List VV) (k : List VV → α), capK l cap k = k (l ++ cap)
 | [], _, _ => rfl
 | v :: r, cap, k => by rw [capK, capK_eq r]; rfl
theorem backsK_eq {R : Type} {K : Env → Option R} : ∀ (env : Env) (io : List Nat) (vs : List VV), backsK env io vs K = K (backs env io vs)
 | env, t :: ts, v :: vs => by rw [backsK, vset_eq, backsK_eq]; rfl
 | env, [], _ => by simp [backsK, backs]
 | env, _ :: _, [] => by simp [backsK, backs]
theorem backs_len : ∀ (io : List Nat) (vs : List VV) (env : Env), (backs env io vs).length = env.length
 | t :: ts, v :: vs, env => by rw [backs, backs_len ts vs]; simp
 | [], _, _ => by simp [backs]
 | _ :: _, [], _ => by simp [backs]
theorem backs_get : ∀ (io : List Nat) (vs : List VV) (env : Env) (t : Nat) (v : VV), vs.length = io.length → (backs env io vs)[t]? = some v → (∃ j : Nat, io[j]? = some t ∧ vs[j]? = some v) ∨ (t ∉ io ∧ env[t]? = some v)
 | t0 :: ts, v0 :: vs, env, t, v, hl, h => by
  rcases backs_get ts vs (env.set t0 v0) t v (by simpa using hl) h with ⟨j, h1, h2⟩ | ⟨h1, h2⟩
  ·exact .inl ⟨j + 1, by simpa using h1, by simpa using h2⟩
  ·rw [List.getElem?_set] at h2
   by_cases e : t0 = t
   ·subst e
    rw [if_pos rfl] at h2
    split at h2
    ·cases h2; exact .inl ⟨0, rfl, rfl⟩
    ·cases h2
   ·rw [if_neg e] at h2
    exact .inr ⟨by simp [h1]; exact fun h => e h.symm, h2⟩
 | [], vs, env, t, v, hl, h => .inr ⟨by simp, by simpa [backs] using h⟩
 | _ :: _, [], env, t, v, hl, h => by simp at hl
section
variable {P : Program} {NG : Nat} {GW : World → Prop} {io : List Nat} {w0 : World} {pd0 : Nat → Nat → Prop} {G G' : Gh} {env : Env} {a : Act} {w w' : World}
variable {R : Type} {K : Env → Option R} {r : R} {next : Act → World → Prop} {Q : Exit → Act → World → Prop} {o : Oper} {C : Cx} {ops : List Oper} {dr : Option (List Nat)}
theorem nodupB_ok : ∀ {l : List Nat}, nodupB l = true → l.Nodup
 | [], _ => .nil
 | a :: r, h => by
  simp only [nodupB, Bool.and_eq_true] at h
  refine List.nodup_cons.2 ⟨fun hm => ?_, nodupB_ok h.2⟩
  have h1 := h.1
  simp at h1
  exact h1 a hm rfl
theorem nodup_map {f : Nat → Nat} : ∀ {l : List Nat}, (∀ t ∈ l, ∀ u ∈ l, f t = f u → t = u) → l.Nodup → (l.map f).Nodup
 | [], _, _ => .nil
 | a :: r, h, hn => by
  obtain ⟨h1, h2⟩ := List.nodup_cons.1 hn
  rw [List.map_cons]
  refine List.nodup_cons.2 ⟨fun hm => ?_, nodup_map (fun t ht u hu => h t (by simp [ht]) u (by simp [hu])) h2⟩
  obtain ⟨b, hb, he⟩ := List.mem_map.1 hm
  exact h1 (h b (by simp [hb]) a (by simp) he ▸ hb)
theorem io_box (hs : Sim NG GW io w0 pd0 G env a w) : ∀ (l : List Operand), (∀ t ∈ l.flatMap (ioOf env), ∃ cs, get env t = .bx cs) ∧ ioB (l.map (argOf env)) (l.map a.eval) = (l.flatMap (ioOf env)).map G.bl
  | [] => ⟨by simp, rfl⟩
  | x :: r => by
    obtain ⟨h1, h2⟩ := io_box hs r
    have hx := rdv_rel hs x
    simp only [List.map_cons, List.flatMap_cons]
    have hcase : (ioOf env x = [] ∧ ∀ cs, argOf env x ≠ .bx cs) ∨ ∃ t cs, ioOf env x = [t] ∧ get env t = .bx cs ∧ argOf env x = .bx cs ∧ a.eval x = .pointer (some ⟨G.bl t, 0, none⟩) := by
      unfold argOf ioOf
      generalize rdv env x = v at hx
      cases v <;> first
        | (exact hx.elim) | (exact .inl ⟨rfl, fun cs e => VV.noConfusion e⟩)
        | (rename_i t o'
           cases o' with
           | zero =>
             simp only
             cases hq : get env t <;> first
               | (exact .inl ⟨rfl, fun cs e => VV.noConfusion e⟩) | (exact .inr ⟨t, _, rfl, hq, rfl, hx.pt_eq⟩)
           | succ n => exact .inl ⟨rfl, fun cs e => VV.noConfusion e⟩)
    rcases hcase with ⟨e1, e2⟩ | ⟨t, cs, e1, e2, e3, e4⟩
    · rw [e1]
      refine ⟨by simpa using h1, ?_⟩
      rw [List.nil_append, ← h2]
      generalize argOf env x = z at e2
      cases z <;> first
        | rfl | exact absurd rfl (e2 _)
    · rw [e1, e3, e4]
      refine ⟨?_, ?_⟩
      · intro u hu
        rcases List.mem_append.1 hu with hu | hu
        · simp at hu; subst hu; exact ⟨cs, e2⟩
        · exact h1 u hu
      · simp only [ioB, List.cons_append, List.nil_append, List.map_cons]
        rw [h2]; rfl
theorem box_of (hs : Sim NG GW io w0 pd0 G env a w) {t : Nat} {cs : List VV} (h : get env t = .bx cs) : BoxR G w t cs (a.eval (.tmp t)) := by have := get_slot hs t; rw [h] at this; exact this
theorem ioB_app : ∀ (vs : List VV) (ms : List Value) (cap : List VV) (us : List Value), vs.length = ms.length → (∀ v ∈ cap, ∀ cs, v ≠ .bx cs) → ioB (vs ++ cap) (ms ++ us) = ioB vs ms
 | [], [], cap, us, _, h => by
  simp only [List.nil_append]
  induction cap generalizing us with
  | nil => rfl
  | cons v cap ih =>
   cases us with
   | nil => cases v <;> simp [ioB]
   | cons u us =>
    have := h v (by simp)
    cases v <;> first
     | (simp only [ioB]; exact ih us (fun x hx => h x (by simp [hx]))) | exact absurd rfl (this _)
 | v :: vs, m :: ms, cap, us, hl, h => by
  simp only [List.cons_append]
  cases v <;> simp only [ioB] <;> rw [ioB_app vs ms cap us (by simpa using hl) h]
 | [], _ :: _, _, _, hl, _ => by simp at hl
 | _ :: _, [], _, _, hl, _ => by simp at hl
theorem call_sound (gws : ∀ w w', GW w → Below NG w w' → GW w') (hC : CallOk P NG GW C.call) (hs : Sim NG GW io w0 pd0 G env a w) (hn : Nx NG GW io w0 pd0 K r next) {c : Call} (hop : o.op = .call c) {x : Operand} (hc : c.callee = .value x) (h : vop C ops dr o env K = some r) : o.wp P a w next Q := by
  have hx := rdv_rel hs x
  simp only [vop, hop, hc] at h
  split at h
  case h_2 => cases h
  rename_i f cap hv
  rw [hv] at hx
  split at h
  · cases h
  rw [argv_eq, frcL_eq, capK_eq] at h
  obtain ⟨cms, hm, hcl, hcap⟩ := (hx : SlotR G w 0 (.cl f cap) (a.eval x))
  let ios := c.args.toList.flatMap (ioOf env)
  let vs := c.args.toList.map (argOf env) ++ cap.map (capv env)
  let ms := c.args.toList.map a.eval ++ cms
  obtain ⟨hbox, hioB0⟩ := io_box hs c.args.toList
  unfold vcall at h
  split at h
  case h_2 => cases h
  rename_i hok
  rw [Bool.and_eq_true, Bool.and_eq_true] at hok
  obtain ⟨⟨hargs, hnd⟩, hcl'⟩ := hok
  have hnd := nodupB_ok hnd
  have hob : ∃ q, C.call f vs = some q ∧ (match resOk q.1 with
      | true => backsK env ios q.2 fun env' => vput dr o.dst q.1 env' K
      | false => none) = some r := by
    unfold obind at h
    split at h
    · exact ⟨_, by assumption, h⟩
    · cases h
  obtain ⟨q, hcall, h⟩ := hob
  split at h
  case h_2 => cases h
  rename_i hres
  rw [backsK_eq] at h
  have hK := vput_some h
  obtain ⟨⟨fn, hfn, hname, hbody⟩, hcontract⟩ := hC f vs q hargs hcall
  have hcapbx : ∀ v ∈ cap.map (capv env), ∀ cs, v ≠ .bx cs := by
    intro v hv cs e
    rw [List.all_eq_true] at hargs
    subst e
    obtain ⟨y, hy, he⟩ := List.mem_map.1 hv
    obtain ⟨i, hi, rfl⟩ := List.getElem_of_mem hy
    have hu := hcap i cap[i] cms[i] (List.getElem?_eq_getElem hi) (List.getElem?_eq_getElem (by omega))
    generalize cap[i] = z at he hu
    cases z <;> simp only [capv] at he <;> first
      | (cases he; done) | (split at he <;> cases he; done) | exact hu.elim
  have hioB : ioB vs ms = ios.map G.bl := by
    rw [ioB_app _ _ _ _ (by simp) hcapbx]; exact hioB0
  have hinj : ∀ t ∈ ios, ∀ u ∈ ios, G.bl t = G.bl u → t = u := by
    intro t ht u hu e
    obtain ⟨cs, h1⟩ := hbox t ht
    obtain ⟨cs', h2⟩ := hbox u hu
    obtain ⟨_, _, _, _, o1, _⟩ := box_of hs h1
    obtain ⟨_, _, _, _, o2, _⟩ := box_of hs h2
    rw [e, o2] at o1
    exact (congrArg Prod.fst (Option.some.inj o1)).symm
  let H : Gh := ⟨fun g k => G.pd g k ∧ g < w.heap.size, fun g k => g < w.heap.size ∧ g ∉ ios.map G.bl, G.bl, G.own, w.heap.size⟩
  have hnpd : ∀ g k, G.pd g k → g ∉ ios.map G.bl := by
    intro g k hk hg
    obtain ⟨t, ht, rfl⟩ := List.mem_map.1 hg
    obtain ⟨cs, h1⟩ := hbox t ht
    obtain ⟨_, _, _, _, _, hnp, _⟩ := box_of hs h1
    exact hnp k hk
  have hkH : ∀ {v m}, DR G.pd w v m → DR H.pd w v m := fun h => h.keep fun g k m h1 h2 => ⟨⟨h1, World.block_lt_of_cell? w _ h2⟩, h2⟩
  have hkHs : ∀ {v m}, DRs G.pd w v m → DRs H.pd w v m := fun h => h.keep fun g k m h1 h2 => ⟨⟨h1, World.block_lt_of_cell? w _ h2⟩, h2⟩
  have hviewG : ∀ {cs m}, ViewR G w cs m → (∀ g k, G.pv g k → g < w.heap.size → g ∉ ios.map G.bl) → ViewR H w cs m := by
    intro cs m ⟨g, off, us, hm, hr, h1, hcc⟩ hio
    exact ⟨g, off, us, hm, hkHs hr, h1, fun k u hu => ⟨(hcc k u hu).1, World.block_lt_of_cell? w _ (hcc k u hu).1, hio _ _ (hcc k u hu).2 (World.block_lt_of_cell? w _ (hcc k u hu).1)⟩⟩
  have hpvio : ∀ g k, G.pv g k → g < w.heap.size → g ∉ ios.map G.bl := by
    intro g k hk _ hg
    obtain ⟨t, ht, rfl⟩ := List.mem_map.1 hg
    obtain ⟨cs, h1⟩ := hbox t ht
    obtain ⟨_, _, _, _, ho, hnp, _⟩ := box_of hs h1
    exact hnp k (hs.ownp _ k (by rw [ho]; simp) hk)
  have hcapv : ∀ z u, CapR G w z u → (ios = []) → ∀ cs, capv env z = .vw cs → ViewR H w cs u := by
    intro z u hz hio cs he
    cases z <;> simp only [capv] at he <;> first
      | (cases he; exact hviewG hz hpvio) | exact hz.elim
      | skip
    rename_i t o'
    split at he
    case h_2 => cases he
    rename_i bs hb
    cases he
    obtain ⟨us, ty, hpm, hh, ho, hnp, hl, hcr, h1⟩ := box_of hs hb
    have hu : u = .pointer (some ⟨G.bl t, o', none⟩) := hz
    subst hu
    have hr : DRs G.pd w (bs.map VV.dv) us := .of (by simp [hl]) fun k v m hv hm => by
      rw [List.getElem?_map] at hv
      obtain ⟨y, hy, rfl⟩ := Option.map_eq_some_iff.1 hv
      exact (hcr k y m hy hm).data
    refine ⟨G.bl t, o', us.drop o', rfl, hkHs (hr.drop o'), fun x hx => h1 x (List.mem_of_mem_drop hx), fun k x hx => ?_⟩
    rw [List.getElem?_drop] at hx
    exact ⟨by rw [box_cell hh]; exact hx, (hs.own _ _ ho).1, by rw [hio]; simp⟩
  have hargR : ∀ (i : Nat) v m, vs[i]? = some v → ms[i]? = some m → ArgR H w v m := by
    intro i v m hv hm'
    have hvok : argOk v = true := by rw [List.all_eq_true] at hargs; exact hargs v (List.mem_of_getElem? hv)
    by_cases hi : i < c.args.toList.length
    · rw [List.getElem?_append_left (by simpa using hi), List.getElem?_map] at hv
      rw [List.getElem?_append_left (by simpa using hi), List.getElem?_map] at hm'
      obtain ⟨y, hy, rfl⟩ := Option.map_eq_some_iff.1 hv
      rw [hy] at hm'
      cases hm'
      have hyr := rdv_rel hs y
      have hnocl : ∀ f' cap', argOf env y = .cl f' cap' → cap' ≠ [] → ios = [] := by
        intro f' cap' he hne
        rw [Bool.or_eq_true] at hcl'
        rcases hcl' with h1 | h1
        · exact List.isEmpty_iff.1 h1
        · rw [Bool.and_eq_true, List.all_eq_true] at h1
          have := h1.2 (argOf env y) (List.mem_append_left _ (List.mem_map.2 ⟨y, List.mem_of_getElem? hy, rfl⟩))
          rw [he] at this
          simp [noCl] at this
          exact absurd this hne
      have hrest : ∀ z, argOf env y = z → ArgR H w z (a.eval y) := by
        intro z hz
        unfold argOf at hz
        generalize hq : rdv env y = q at hyr hz
        cases q <;> (try simp only at hz) <;> first
          | (subst hz; exact hyr.elim) | (subst hz; exact hkH hyr) | (subst hz; exact hviewG hyr hpvio) | (subst hz; rw [argOf, hq] at hvok; simp [argOk] at hvok; done)
          | skip
        · rename_i t o'
          cases o' with
          | zero =>
            simp only at hz
            cases hg : get env t <;> rw [hg] at hz <;> simp only at hz <;> subst hz <;> first
              | exact DR.un _
              | (rename_i cs
                 obtain ⟨us, ty, hpm, hh, ho, hnp, hl, hcr, h1⟩ := box_of hs hg
                 rw [argOf, hq] at hvok
                 simp only [hg, argOk, List.all_eq_true] at hvok
                 refine ⟨G.bl t, us, ty, hyr.pt_eq, hh, hkHs (.of hl fun k v m hv hm => ?_), h1, fun k hk => hnp k hk.1⟩
                 have h2 := hcr k v m hv hm
                 have h3 := hvok v (List.mem_of_getElem? hv)
                 cases v <;> first
                   | exact h2
                   | (simp [dataC] at h3; done))
          | succ n => simp only at hz; subst hz; exact DR.un _
        · rename_i f' cap'
          subst hz
          obtain ⟨us, hu, hl, hcc⟩ := (hyr : SlotR G w 0 (.cl f' cap') (a.eval y))
          refine ⟨us, hu, by simpa using hl, fun k z u hz hu' => ?_⟩
          rw [List.getElem?_map] at hz
          obtain ⟨p, hp, rfl⟩ := Option.map_eq_some_iff.1 hz
          rw [argOf, hq] at hvok
          simp only [argOk, List.all_eq_true] at hvok
          have h3 := hvok _ (List.mem_map.2 ⟨p, List.mem_of_getElem? hp, rfl⟩)
          have hio := hnocl f' (cap'.map (capv env)) (by rw [argOf, hq]) (by intro e; have := List.map_eq_nil_iff.1 e; rw [this] at hp; simp at hp)
          cases hcv : capv env p <;> rw [hcv] at h3 <;> simp at h3
          exact ⟨_, rfl, hcapv p u (hcc k p u hp hu') hio _ hcv⟩
      exact hrest _ rfl
    · rw [List.getElem?_append_right (by simpa using hi), List.getElem?_map] at hv
      rw [List.getElem?_append_right (by simpa using hi)] at hm'
      simp only [List.length_map] at hv hm'
      obtain ⟨p, hp, rfl⟩ := Option.map_eq_some_iff.1 hv
      have hcr := hcap _ p m hp hm'
      have hio : ios = [] := by
        rw [Bool.or_eq_true] at hcl'
        rcases hcl' with h1 | h1
        · exact List.isEmpty_iff.1 h1
        · exfalso
          rw [Bool.and_eq_true, List.all_eq_true] at h1
          have := h1.2 (capv env p) (List.mem_append_right _ (List.mem_map.2 ⟨p, List.mem_of_getElem? hp, rfl⟩))
          cases p <;> first
            | exact hcr.elim | (simp [capv, noCl] at this; done)
            | (simp only [capv] at this hvok
               split at this
               · simp [noCl] at this
               · rename_i hnb; rename_i x1 x2
                 cases hgg : get env x1 <;> simp [capv, hgg, argOk] at hvok)
      cases hcv : capv env p with
      | vw cs => exact hcapv p m hcr hio cs hcv
      | _ =>
        exfalso
        cases p <;> simp only [capv] at hcv <;> first
          | exact hcr.elim | (cases hcv; done) | (split at hcv <;> cases hcv <;> simp_all [capv, argOk])
  have hcall2 := hcontract w ms H hs.gw (Nat.le_trans hs.ng hs.fr.size) (by simp [vs, ms, hcl]) hargR (by
      rw [hioB]
      exact nodup_map hinj hnd) (by
      rw [hioB]
      intro g hg
      obtain ⟨t, ht, rfl⟩ := List.mem_map.1 hg
      obtain ⟨cs, h1⟩ := hbox t ht
      obtain ⟨_, _, _, _, ho, _⟩ := box_of hs h1
      rcases (hs.own _ _ ho).2 with h | h
      · exact Nat.le_trans hs.ng h
      · exact hs.ngio _ h) (by rw [hioB]; exact fun g k hk => hk.2) (fun g k hk => ⟨hk.2, hnpd g k hk.1⟩)
  rw [hioB] at hcall2
  have hex : (execOp a.eval o).run P w = .ok (.enter f ms.toArray) w := by
    unfold execOp
    rw [hop]
    simp only [resolve, hc, Sem.run_bind, hm, Deferred.ofValue]
    have hms : ms.toArray = c.args.map a.eval ++ cms.toArray := by
      apply Array.toList_inj.1
      simp [ms]
    rw [hms]
    obtain ⟨b, hbd⟩ := Option.isSome_iff_exists.1 hbody
    have hname' : ¬ fn.name = "runtime.NumGoroutine" := by simpa using hname
    simp [invoke, callFunc, hfn, hname', hbd]
  unfold Oper.wp
  rw [hex]
  refine hcall2.mono fun e w'' ⟨m, he, hpost⟩ => ?_
  subst he
  show next (a.put o.dst m) w''
  obtain ⟨hfr, pdr, hpd1, hresR, hol, houts⟩ := hpost
  let d := o.dst.getD 0
  let G' : Gh := ⟨fun g k => G.pd g k ∧ g < w.heap.size ∨ (w.heap.size ≤ g ∧ pdr g k), fun g k => G.pv g k ∧ g < w.heap.size ∨ (w.heap.size ≤ g ∧ pdr g k), G.bl, fun g => if m.ownBlock = some g ∧ w.heap.size ≤ g then (match q.1 with
    | .ow _ _ _ => some (d, 0)
    | _ => none) else (if g < w.heap.size then G.own g else none), G.B⟩
  have hsame : ∀ g k, g < w.heap.size → g ∉ ios.map G.bl → w''.cell? ⟨g, k, none⟩ = w.cell? ⟨g, k, none⟩ := fun g k h1 h2 => World.cell?_of_block (hfr.block g h1 h2)
  have E : Evo G w G' w'' (fun t => t ∈ ios) (fun _ => False) := by
    refine ⟨fun g k v h1 h2 => ?_, fun g k v h1 h2 => ?_, ?_, fun _ _ => rfl, rfl⟩
    · have hlt : g < w.heap.size := World.block_lt_of_cell? w _ h2
      exact ⟨.inl ⟨h1, hlt⟩, by rw [hsame g k hlt (hnpd g k h1)]; exact h2⟩
    · have hlt : g < w.heap.size := World.block_lt_of_cell? w _ h2
      exact ⟨.inl ⟨h1, hlt⟩, by rw [hsame g k hlt (hpvio g k h1 hlt)]; exact h2⟩
    · intro g t j ob h1 h2 h3
      have hlt := (Array.getElem?_eq_some_iff.1 h2).1
      have hnio : g ∉ ios.map G.bl := by
        intro hg
        obtain ⟨t', ht', rfl⟩ := List.mem_map.1 hg
        obtain ⟨cs, hb⟩ := hbox t' ht'
        obtain ⟨_, _, _, _, ho, _⟩ := box_of hs hb
        rw [ho] at h1
        have e : t' = t := congrArg Prod.fst (Option.some.inj h1)
        exact h3 (e ▸ ht')
      refine ⟨(hfr.block g hlt hnio).trans h2, ?_, fun k => ?_⟩
      · simp only [G']
        rw [if_neg (fun h => by omega), if_pos hlt]; exact h1
      · simp only [G']
        exact ⟨fun h => h.elim (fun h => h.1) (fun h => by omega), fun h => .inl ⟨h, hlt⟩⟩
  have hkd : ∀ {v u}, DR pdr w'' v u → DR G'.pd w'' v u := fun h => h.keep fun g k x h1 h2 => ⟨by
    by_cases hg : g < w.heap.size
    · exact .inl (hpd1 g k hg h1)
    · exact .inr ⟨by omega, h1⟩, h2⟩
  have hkds : ∀ {v u}, DRs pdr w'' v u → DRs G'.pd w'' v u := fun h => h.keep fun g k x h1 h2 => ⟨by
    by_cases hg : g < w.heap.size
    · exact .inl (hpd1 g k hg h1)
    · exact .inr ⟨by omega, h1⟩, h2⟩
  have hge : ∀ t ∈ ios, ∀ k, k = G.bl t → w0.heap.size ≤ k ∨ k ∈ io := by
    intro t ht k hk
    obtain ⟨cs, hb⟩ := hbox t ht
    obtain ⟨_, _, _, _, ho, _⟩ := box_of hs hb
    subst hk
    exact (hs.own _ _ ho).2
  have hsim : Sim NG GW io w0 pd0 G' (backs env ios q.2) a w'' := by
    refine hs.evo E (backs_len _ _ _) ?_ ?_ ?_ ?_ ?_ ?_ ?_
    · intro t v u hv hu
      rcases backs_get ios q.2 env t v (by rw [hol]; simp) hv with ⟨j, h1, h2⟩ | ⟨h1, h2⟩
      · obtain ⟨cs, us, ty, rfl, hh, hr, h1c⟩ := houts j (G.bl t) v (by rw [List.getElem?_map, h1]; rfl) h2
        have ht : t ∈ ios := List.mem_of_getElem? h1
        obtain ⟨cs0, hb⟩ := hbox t ht
        obtain ⟨us0, ty0, hpm, hh0, ho, hnp, hl0, hcr0, _⟩ := box_of hs hb
        have hlt := (hs.own _ _ ho).1
        refine .inr ⟨us, ty, ?_, hh, ?_, ?_, hr.length, fun i v u hv hu => ?_, h1c⟩
        · have hq : a.eval (.tmp t) = u := by
            obtain ⟨hlt', rfl⟩ := Array.getElem?_eq_some_iff.1 hu
            simp [Act.eval, hlt']
          rw [← hq]; exact hpm
        · simp only [G']; rw [if_neg (fun h => by omega), if_pos hlt]; exact ho
        · intro k hk
          rcases hk with hk | hk
          · exact hnp k hk.1
          · exact absurd hk.1 (by show ¬ w.heap.size ≤ G.bl t; omega)
        · have h3 := hkd (hr.at hv hu)
          cases v <;> first
            | exact h3 | (cases h3)
      · exact .inl ⟨v, h2, rfl, h1, id, fun _ h => h.elim⟩
    · refine ⟨hfr.os.trans hs.fr.os, hfr.tape.trans hs.fr.tape, hfr.output.trans hs.fr.output, Nat.le_trans hs.fr.size hfr.size, fun k h1 h2 => ?_⟩
      rw [hfr.block k (by have := hs.fr.size; omega) (fun hk => by
        obtain ⟨t, ht, e⟩ := List.mem_map.1 hk
        rcases hge t ht k e.symm with h | h
        · omega
        · exact h2 h)]
      exact hs.fr.block k h1 h2
    · refine gws _ _ hs.gw ⟨hfr.os, hfr.tape, hfr.output, hfr.size, fun k hk => hfr.block k (by have := hs.ng; have := hs.fr.size; omega) (fun hk' => ?_)⟩
      obtain ⟨t, ht, e⟩ := List.mem_map.1 hk'
      rcases hge t ht k e.symm with h | h
      · have := hs.ng; omega
      · have := hs.ngio _ h; omega
    · intro g p hg
      simp only [G'] at hg
      split at hg
      · rename_i hb
        refine ⟨?_, .inl (by have := hs.fr.size; omega)⟩
        have := hresR
        cases hq1 : q.1 <;> rw [hq1] at hg hresR <;> simp at hg
        obtain ⟨us, ho, _⟩ := hresR
        exact (ho.lt g hb.1).2
      · split at hg
        · have := hs.own g p hg
          exact ⟨Nat.lt_of_lt_of_le this.1 hfr.size, this.2⟩
        · cases hg
    · intro g k hg hk
      rcases hk with hk | hk
      · left
        refine ⟨hs.ownp g k ?_ hk.1, hk.2⟩
        simp only [G'] at hg
        rw [if_neg (fun h => by omega), if_pos hk.2] at hg
        exact hg
      · exact .inr hk
    · intro g k hk
      rcases hk with hk | hk
      · exact .inl ⟨hs.dv g k hk.1, hk.2⟩
      · exact .inr hk
    · intro g k h1 hk
      rcases hk with hk | hk
      · exact hs.old g k h1 hk.1
      · have := hs.fr.size; omega
  refine hn G' _ _ _ (hsim.put o.dst fun d' hd' => ?_) hK
  have hdd : d = d' := by simp [d, hd']
  cases hq1 : q.1 <;> rw [hq1] at hresR hres <;> simp [resOk] at hres <;> first
    | exact hkd hresR | exact hresR
    | skip
  obtain ⟨us, ho, hr, hz, h1, hl, hpg⟩ := hresR
  refine ⟨us, ?_, hkds hr, hz, h1, hl, fun g hg => ?_⟩
  · refine ⟨ho.1, ?_⟩
    rcases ho.2 with hnil | ⟨g, cap, cur, e1, e2, e3⟩
    · exact .inl hnil
    · exact .inr ⟨g, cap, cur, e1, by show G.B ≤ g; rw [hs.B]; have := hs.fr.size; omega, e3⟩
  · have hgl := (ho.lt g hg).1
    refine ⟨?_, fun k => ?_⟩
    · simp only [G']; rw [if_pos ⟨hg, hgl⟩, hq1, hdd]
    · simp only [G']
      rw [← hpg g hg k]
      exact ⟨fun h => h.elim (fun h => by omega) (fun h => h.2), fun h => .inr ⟨hgl, h⟩⟩
end
section
variable {P : Program} {NG : Nat} {GW : World → Prop} {io : List Nat} {w0 : World} {pd0 : Nat → Nat → Prop} {G G' : Gh} {env : Env} {a : Act} {w w' : World}
variable {R : Type} {K : Env → Option R} {r : R} {next : Act → World → Prop} {Q : Exit → Act → World → Prop} {o : Oper} {C : Cx} {ops : List Oper} {dr : Option (List Nat)}
theorem vop_sound (hti : TIok P C.ti) (gws : ∀ w w', GW w → Below NG w w' → GW w') (hC : CallOk P NG GW C.call) (hs : Sim NG GW io w0 pd0 G env a w) (hn : Nx NG GW io w0 pd0 K r next) (h : vop C ops dr o env K = some r) : o.wp P a w next Q := by
 cases hop : o.op with
 | move x => exact move_sound hs hn (by unfold execOp; rw [hop]; rfl) (by simpa only [vop, hop] using h)
 | assign x => exact move_sound hs hn (by unfold execOp; rw [hop]; rfl) (by simpa only [vop, hop] using h)
 | pick c x y => exact small_sound hti hs hn (.inl ⟨_, _, _, hop⟩) h
 | alloc t =>
  simp only [vop, hop] at h
  split at h
  ·rename_i i d hi hd; exact alloc_sound hti hs gws hn hop hi hd h
  ·cases h
 | box t x =>
  simp only [vop, hop] at h
  split at h
  ·rename_i i d hi hd
   split at h
   ·rename_i hc; exact boxop_sound hti hs gws hn hop hi hd hc.1 hc.2 h
   ·cases h
  ·cases h
 | build t parts => exact build_sound hti hs hn hop h
 | buildSlice t len parts => exact buildSlice_sound hti gws hs hn hop h
 | load t x => exact load_sound hti hs hn hop h
 | store t x y => exact store_sound hti gws hs hn hop h
 | nilCheck x => exact small_sound hti hs hn (.inr (.inr (.inr (.inl ⟨_, hop⟩)))) h
 | binOp op t x y u => exact small_sound hti hs hn (.inr (.inr (.inl ⟨_, _, _, _, _, hop⟩))) h
 | unOp op t x => exact small_sound hti hs hn (.inr (.inl ⟨_, _, _, hop⟩)) h
 | convert s d x => exact small_sound hti hs hn (.inr (.inr (.inr (.inr (.inr (.inr (.inr ⟨_, _, _, hop⟩))))))) h
 | makeFunc f x y =>
  cases f with
  | func f => exact small_sound hti hs hn (.inr (.inr (.inr (.inr (.inr (.inr (.inl ⟨_, _, _, hop⟩))))))) h
  | _ => simp [vop, hop] at h
 | makeSlice t l c => exact makeSlice_sound hti gws hs hn hop h
 | slice t x lo hi mx => exact slice_sound hti hs hn hop h
 | fieldAddr t x f => exact fieldAddr_sound hti hs hn hop h
 | indexAddr t x ix => exact indexAddr_sound hti hs hn hop h
 | index t x ix => exact small_sound hti hs hn (.inr (.inr (.inr (.inr (.inl ⟨_, _, _, hop⟩))))) h
 | extract x n => exact small_sound hti hs hn (.inr (.inr (.inr (.inr (.inr (.inl ⟨_, _, hop⟩)))))) h
 | call c =>
  cases hc : c.callee with
  | value x => exact call_sound gws hC hs hn hop hc h
  | invoke x m => simp [vop, hop, hc] at h
  | builtin b =>
   cases b <;> first
    | exact append_sound hti gws hs hn hop hc h | exact len_sound hti hs hn hop (.inl hc) h | exact len_sound hti hs hn hop (.inr hc) h | (simp [vop, hop, hc] at h; done)
 | _ => simp [vop, hop] at h
theorem seen_ok (hs : Sim NG GW io w0 pd0 G env a w) {ops : Array Oper} {j : Nat} {q : Option Bool} (h : seen ops.toList env j = some q) : yielded ops a.tmps j = q := by
 unfold seen at h
 split at h
 case h_2 => cases h
 rename_i o ho
 split at h
 case h_2 => cases h
 rename_i t ht
 have ho' : ops[j]? = some o := by simpa using ho
 have hsl := get_slot hs t
 have hin : ∀ v, get env t = .s v → a.tmps[t]? = some v := by
  intro v hv
  have hne : env[t]? ≠ none := fun e => by rw [get, nth_none e] at hv; cases hv
  have hlt : t < a.tmps.size := by
   rw [← hs.size]
   by_cases hlt : t < env.length
   ·exact hlt
   ·exact absurd (List.getElem?_eq_none (Nat.le_of_not_lt hlt)) hne
  rw [hv] at hsl
  have h2 : DR G.pd w (.s v) (a.eval (.tmp t)) := hsl
  have h3 : a.eval (.tmp t) = v := by
   generalize a.eval (.tmp t) = m at h2
   cases h2; rfl
  rw [← h3]
  simp [Act.eval, hlt]
 unfold yielded
 simp only [ho', Option.bind_some, ht]
 split at h
 ·rename_i b hb; cases h; rw [hin _ hb]
 ·rename_i v hnb hb
  cases h
  rw [hin _ hb]
  split
  ·rename_i b e; cases e; exact absurd rfl (hnb b)
  ·rfl
 ·cases h
theorem vops_sound (hti : TIok P C.ti) (gws : ∀ w w', GW w → Below NG w w' → GW w') (hC : CallOk P NG GW C.call) {ops : Array Oper} (hn : Nx NG GW io w0 pd0 K r (Q .normal)) : ∀ (l : List Oper) (G : Gh) (env : Env) (a : Act) (w : World), Sim NG GW io w0 pd0 G env a w → vops C ops.toList dr l env K = some r → wpList P ops Q l a w
 | [], G, env, a, w, hs, h => hn _ _ _ _ hs h
 | o :: l, G, env, a, w, hs, h => by
  have hnext : Nx NG GW io w0 pd0 (fun env' => vops C ops.toList dr l env' K) r (wpList P ops Q l) := fun G' env' a' w' hs' h' => vops_sound hti gws hC hn l G' env' a' w' hs' h'
  rw [vops] at h
  unfold wpList
  split at h
  ·rename_i hg
   have hw : Region.wanted o (yielded ops a.tmps) = true := by simp [Region.wanted, hg]
   rw [if_pos hw]
   exact .inl (vop_sound hti gws hC hs hnext h)
  ·rename_i j want hg
   have hskip : ∀ (h2 : vput dr o.dst (.s undef) env (fun env' => vops C ops.toList dr l env' K) = some r), wpList P ops Q l (a.put o.dst undef) w := fun h2 => hnext _ _ _ _ (hs.put o.dst fun d _ => VR.slot (VR.of_dr (.s _)) d) (vput_some h2)
   split at h
   ·rename_i b hb
    have hy := seen_ok hs hb
    rcases bite_some h with ⟨hbw, h⟩ | ⟨hbw, h⟩
    ·have hw : Region.wanted o (yielded ops a.tmps) = true := by simp only [Region.wanted, hg, hy]; simpa using hbw
     rw [if_pos hw]
     exact .inl (vop_sound hti gws hC hs hnext h)
    ·have hw : ¬ Region.wanted o (yielded ops a.tmps) = true := by simp only [Region.wanted, hg, hy]; simpa using hbw
     rw [if_neg hw]
     exact hskip h
   ·rename_i hb
    have hy := seen_ok hs hb
    have hw : ¬ Region.wanted o (yielded ops a.tmps) = true := by simp [Region.wanted, hg, hy]
    rw [if_neg hw]
    exact hskip h
   ·cases h
def AnyOk (P : Program) (NG : Nat) (GW : World → Prop) (C : Cx) : Prop := ∀ {R : Type} {io : List Nat} {w0 : World} {pd0 : Nat → Nat → Prop} {G : Gh} {env : Env} {a : Act} {w : World} {K : Env → Option R} {r : R} {Q : Exit → Act → World → Prop} (id : Nat) (ops : Array Oper), anyOrder C ops.toList = true → (allocs ops.toList).any (fun d => env.any (refersD d)) = false → Sim NG GW io w0 pd0 G env a w → vops C ops.toList (some (allocs ops.toList ++ lowns ops.toList)) ops.toList env K = some r → Nx NG GW io w0 pd0 K r (Q .normal) → (Code.region id ops true).wp P Q a w
theorem clr_get : ∀ (l : List Nat) (env : Env) (i t : Nat) (v : VV), (clr l i env)[t]? = some v → v = .un ∨ env[t]? = some v
 | l, [], i, t, v, h => by simp [clr] at h
 | l, u :: r, i, 0, v, h => by
  simp only [clr, List.getElem?_cons_zero, Option.some.injEq] at h
  split at h
  ·exact .inr (by simpa using h)
  ·exact .inl h.symm
 | l, u :: r, i, t + 1, v, h => by
  rcases clr_get l r (i + 1) t v (by simpa [clr] using h) with h | h
  ·exact .inl h
  ·exact .inr (by simpa using h)
theorem clr_len : ∀ (l : List Nat) (env : Env) (i : Nat), (clr l i env).length = env.length
 | _, [], _ => rfl
 | l, u :: r, i => by rw [clr, List.length_cons, clr_len l r, List.length_cons]
theorem Sim.clear (hs : Sim NG GW io w0 pd0 G env a w) (l : Option (List Nat)) : Sim NG GW io w0 pd0 G (VI.clear l env) a w := by
 cases l with
 | none => exact hs
 | some l =>
  refine { hs with size := (clr_len l env 0).trans hs.size, slot := fun t v m hv hm => ?_ }
  rcases clr_get l env 0 t v hv with rfl | h
  ·exact SlotR.un
  ·exact hs.slot t v m h hm
theorem run_sound (hti : TIok P C.ti) (gws : ∀ w w', GW w → Below NG w w' → GW w') (hC : CallOk P NG GW C.call) (hA : AnyOk P NG GW C) (kp : Nat → Option (List Nat)) : ∀ (c : Code) (b : Nat) (G : Gh) (env : Env) (a : Act) (w : World) (K : Exit → Env → Option R) (Q : Exit → Act → World → Prop), Sim NG GW io w0 pd0 G env a w → run C kp c b env K = some r → (∀ e G' env' a' w', Sim NG GW io w0 pd0 G' env' a' w' → K e env' = some r → Q e a' w') → c.wp P Q a w := by
 intro c
 induction c with
 | skip => intro b G env a w K Q hs h hq; exact wp_skip (hq _ _ _ _ _ hs h)
 | region id ops draw =>
  intro b G env a w K Q hs h hq
  cases draw with
  | false => exact wp_region_list (vops_sound hti gws hC (fun G' env' a' w' hs' h' => hq .normal _ _ _ _ hs' h') ops.toList G env a w hs h)
  | true =>
   obtain ⟨h1, h2⟩ := bite_none h
   split at h2
   case h_2 => cases h2
   rename_i h3
   exact hA id ops h1 h3 hs h2 (fun G' env' a' w' hs' h' => hq .normal _ _ _ _ hs' h')
 | seq x y ihx ihy =>
  intro b G env a w K Q hs h hq
  refine wp_seq (ihx b G env a w _ _ hs h fun e G' env' a' w' hs' h' => ?_)
  cases e with
  | normal => exact ihy b G' env' a' w' K Q hs' h' hq
  | _ => exact hq _ _ _ _ _ hs' h'
 | cond c x y ihx ihy =>
  intro b G env a w K Q hs h hq
  simp only [run] at h
  split at h
  case h_2 => cases h
  rename_i t ht
  have hc := rdv_rel hs c
  rw [ht] at hc
  rcases bite_some h with ⟨rfl, h⟩ | ⟨rfl, h⟩
  ·exact wp_cond_true hc.sv (ihx b G env a w K Q hs h hq)
  ·exact wp_cond_false hc.sv (ihy b G env a w K Q hs h hq)
 | block id c ih =>
  intro b G env a w K Q hs h hq
  refine wp_block (ih id G env a w _ _ hs h fun e G' env' a' w' hs' h' => ?_)
  cases e with
  | exit i =>
   simp only at h'
   show if i = id then Q .normal a' w' else Q (.exit i) a' w'
   split at h'
   ·rename_i hb; rw [if_pos (Nat.eq_of_beq_eq_true hb)]; exact hq _ _ _ _ _ hs' h'
   ·rename_i hb; rw [if_neg (fun e => by subst e; simp at hb)]; exact hq _ _ _ _ _ hs' h'
  | _ => exact hq _ _ _ _ _ hs' h'
 | loop c ih =>
  intro b G env a w K Q hs h hq
  simp only [run] at h
  have key : ∀ (n : Nat) (G : Gh) (env : Env) (a : Act) (w : World), Sim NG GW io w0 pd0 G env a w → iter (fun env' K' => clearK (kp b) env' fun e => run C kp c b e K') n env K = some r → Code.rounds P c Q n a w := by
   intro n
   induction n with
   | zero => intro G env a w hs h; cases h
   | succ n ihn =>
    intro G env a w hs h
    rw [iter, clearK_eq] at h
    refine ih b G _ a w _ _ (hs.clear (kp b)) h fun e G' env' a' w' hs' h' => ?_
    cases e with
    | normal => exact ihn G' env' a' w' hs' h'
    | _ => exact hq _ _ _ _ _ hs' h'
  exact wp_loop_rounds C.m (key C.m G env a w hs h)
 | exit id => intro b G env a w K Q hs h hq; exact wp_exit (hq _ _ _ _ _ hs h)
 | ret => intro b G env a w K Q hs h hq; exact wp_ret (hq _ _ _ _ _ hs h)
 | _ => intro b G env a w K Q hs h hq; cases h
end
section
variable {P : Program} {NG : Nat} {GW : World → Prop} {io : List Nat} {w0 : World} {pd0 : Nat → Nat → Prop} {G : Gh} {env : Env} {a : Act} {w : World} {ti : TypeId → Option TI}
theorem ioB_none : ∀ (vs : List VV) (ms : List Value), (∀ v ∈ vs, ∀ cs, v ≠ .bx cs) → ioB vs ms = []
 | [], ms, _ => by cases ms <;> rfl
 | v :: vs, [], _ => by cases v <;> rfl
 | v :: vs, m :: ms, h => by
  have := h v (by simp)
  cases v <;> first
   | (simp only [ioB]; exact ioB_none vs ms (fun x hx => h x (by simp [hx]))) | exact absurd rfl (this _)
theorem outs_none : ∀ (vs : List VV) (i : Nat) (os : List VV), outs env i vs = some os → os = [] ∧ ∀ v ∈ vs, ∀ cs, v ≠ .bx cs
  | [], i, os, h => by simp [outs] at h; exact ⟨h, by simp⟩
  | v :: vs, i, os, h => by
    cases v <;> simp only [outs] at h <;> first
      | (cases h; done)
      | (obtain ⟨h1, h2⟩ := outs_none vs _ os h
         refine ⟨h1, fun u hu cs => ?_⟩
         rcases List.mem_cons.1 hu with rfl | hu
         · exact fun e => VV.noConfusion e
         · exact h2 u hu cs)
def endPd (G : Gh) (env : Env) (g k : Nat) : Prop := G.pd g k ∨ ∃ t e z xs, get env t = .mr e z xs ∧ g = G.bl t ∧ k < xs.length * z
theorem made_of (hs : Sim NG GW io w0 pd0 G env a w) {t : Nat} {e : TypeId} {z : Nat} {xs : List VV} (h : get env t = .mr e z xs) : MadeR G w t e z xs (a.eval (.tmp t)) := by have := get_slot hs t; rw [h] at this; exact this
theorem end_dr {v : VV} {m : Value} (h : DR G.pd w v m) : DR (endPd G env) w v m := h.keep fun _ _ _ h1 h2 => ⟨.inl h1, h2⟩
theorem end_drs {v : List VV} {m : List Value} (h : DRs G.pd w v m) : DRs (endPd G env) w v m := h.keep fun _ _ _ h1 h2 => ⟨.inl h1, h2⟩
def rvSem (tmps : Array Value) (rv : ResultVar) : Sem Value := match rv with
 | .tmp t => pure (tmps.getD t undef)
 | .cell b t => do loadVar t (← asAddr (tmps.getD b undef))
theorem made_res (hs : Sim NG GW io w0 pd0 G env a w) {t : Nat} {e : TypeId} {z : Nat} {xs : List VV} {m : Value} (hsl : MadeR G w t e z xs m) (hg : get env t = .mr e z xs) : ResR w0.heap.size (endPd G env) w (.ow e z xs) m := by
 obtain ⟨ms, hm, hh, ho, hnp, hr, hz, h1, hl, h0, hB⟩ := hsl
 have hml : ms.length = xs.length * z := by rw [← hr.length, flat_len hz]
 refine ⟨ms, ?_, end_drs hr, hz, h1, hl, fun g hg' k => ?_⟩
 ·rw [hm]
  exact ⟨hml, .inr ⟨G.bl t, xs.length, ms.toArray, rfl, by rw [← hs.B]; exact hB, hh, Nat.le_refl _, hl, by rw [List.size_toArray]; exact hml, by rw [← hml]; exact List.take_length⟩⟩
 ·rw [hm] at hg'
  simp [Value.ownBlock] at hg'
  subst hg'
  refine ⟨fun h => h.elim (fun h => absurd h (hnp k)) fun ⟨t', e', z', xs', h1, h2, h3⟩ => ?_, fun h => .inr ⟨t, e, z, xs, hg, rfl, h⟩⟩
  obtain ⟨_, _, _, ho', _⟩ := made_of hs h1
  rw [← h2, ho] at ho'
  have : t = t' := congrArg Prod.fst (Option.some.inj ho')
  subst this
  rw [hg] at h1; cases h1; exact h3
theorem resv_ok (hti : TIok P ti) (hs : Sim NG GW io w0 pd0 G env a w) {rv : ResultVar} {v : VV} (h : resv ti env rv = some v) :
  ∃ m, (rvSem a.tmps rv).run P w = .ok m w ∧ ResR w0.heap.size (endPd G env) w v m := by
 cases rv with
 | tmp t =>
  refine ⟨_, rfl, ?_⟩
  have hsl := get_slot hs t
  simp only [resv] at h
  change ResR _ _ _ _ (a.eval (.tmp t))
  cases hg : get env t <;> rw [hg] at h hsl <;> simp only [Option.some.injEq, reduceCtorEq] at h <;> (try subst h) <;> first
   | exact end_dr hsl | exact hsl
   | skip
  ·rename_i u n
   split at h
   ·rename_i e z xs hu
    obtain ⟨hb, h⟩ := must_some h
    cases h
    have hn := Nat.eq_of_beq_eq_true hb
    have hM := made_of hs hu
    have he : a.eval (.tmp t) = a.eval (.tmp u) := by
     obtain ⟨ms, hm, _⟩ := hM
     have h2 : a.eval (.tmp t) = .slice (some ⟨G.bl u, 0, none⟩) n n := hsl
     rw [hm, h2, hn]
    rw [he]
    exact made_res hs hM hu
   ·cases h
  ·rename_i e z xs
   obtain ⟨ms, ho, hr, hz, h1, hl, hgo⟩ := (hsl : OwnR G w (t, 0) e z xs _)
   rw [hs.B] at ho
   refine ⟨ms, ho, end_drs hr, hz, h1, hl, fun g hg' k => ?_⟩
   rw [← (hgo g hg').2 k]
   refine ⟨fun h => h.elim id fun ⟨t', e', z', xs', h1, h2, _⟩ => ?_, .inl⟩
   obtain ⟨_, _, _, ho', _⟩ := made_of hs h1
   rw [← h2, (hgo g hg').1] at ho'
   have : t = t' := congrArg Prod.fst (Option.some.inj ho')
   subst this
   rw [hg] at h1; cases h1
  ·rename_i e z xs
   exact made_res hs hsl hg
 | cell b t =>
  simp only [resv] at h
  split at h
  case h_2 => cases h
  rename_i cs i hcs hi
  have hsl := get_slot hs b
  rw [hcs] at hsl
  have hbox : BoxR G w b cs (a.eval (.tmp b)) := hsl
  obtain ⟨n, hrun, hd⟩ := vload_box hti hi h hbox
  obtain ⟨ms, ty, hpm, _⟩ := hbox
  have he : a.tmps.getD b undef = .pointer (some ⟨G.bl b, 0, none⟩) := hpm
  refine ⟨n, ?_, ?_⟩
  ·simp only [rvSem, he, asAddr]
   simp only [Instr.loadAt, Instr.sureAddr] at hrun
   simpa using hrun
  ·have := end_dr (env := env) hd
   cases v <;> first
    | exact this | (cases hd; done)
theorem ResR.dv {B : Nat} {pd : Nat → Nat → Prop} {v : VV} {m : Value} (h : ResR B pd w v m) : DR pd w v.dv m := by
 cases v <;> first
  | (have h' : DR pd w _ m := h; rw [← h'.dv] at h'; exact h') | (cases h; exact .sl0 _ _)
  | skip
 rename_i e z xs
 obtain ⟨ms, ho, hr, hz, h1, hl, hpd⟩ := h
 rcases ho.2 with ⟨rfl, hn⟩ | ⟨g, cap, cur, rfl, h0, hh, hnc, hcm, hcs, htk⟩
 ·obtain rfl : xs = [] := List.eq_nil_of_length_eq_zero hn
  exact .sl0 _ _
 ·refine .sl xs g 0 cap z ms hnc hl hz hr h1 fun k u hu => ?_
  have hk : k < xs.length * z := by rw [← ho.1]; exact (List.getElem?_eq_some_iff.1 hu).1
  refine ⟨?_, by rw [Nat.zero_add]; exact (hpd g rfl k).2 hk⟩
  have h2 := ho.cells (g := g) rfl k u hu
  rw [Addr.add_lit] at h2; exact h2
theorem resvs_ok (hti : TIok P ti) (hs : Sim NG GW io w0 pd0 G env a w) : ∀ (rs : List ResultVar) (vs : List VV), resvs ti env rs = some vs →
  ∃ ms : List Value, (rs.mapM (rvSem a.tmps)).run P w = .ok ms w ∧ DRs (endPd G env) w vs ms
 | [], vs, h => by simp [resvs] at h; subst h; exact ⟨[], rfl, .nil⟩
 | r :: rs, vs, h => by
  simp only [resvs] at h
  split at h
  case h_2 => cases h
  rename_i v vs' hv hvs
  cases h
  obtain ⟨m, h1, h2⟩ := resv_ok (P := P) hti hs hv
  obtain ⟨ms, h3, h4⟩ := resvs_ok hti hs rs vs' hvs
  refine ⟨m :: ms, ?_, .cons _ _ _ _ h2.dv h4⟩
  rw [List.mapM_cons]
  simp only [Sem.run_bind]
  rw [h1]
  simp only [Result.andThen_ok]
  rw [h3]
  rfl
theorem results_run (fn : Func) (tmps : Array Value) {ms : List Value} (h : (fn.results.toList.mapM (rvSem tmps)).run P w = .ok ms w) :
  (results fn tmps).run P w = .ok (if h : ms.length = 1 then ms[0] else .tuple ms.toArray) w := by
 have e : results fn tmps = (do
   let vs ← fn.results.mapM (rvSem tmps)
   pure (if h : vs.size = 1 then vs[0] else .tuple vs)) := by
  unfold results
  congr 2
 rw [e, Array.mapM_eq_mapM_toList]
 simp only [Sem.run_bind, Sem.run_map]
 rw [h]
 simp
theorem fixnl_ok {B : Nat} {pd : Nat → Nat → Prop} {fn : Func} {v : VV} {m : Value} (h : ResR B pd w v m) : ResR B pd w (fixnl ti fn v) m := by
 cases v <;> first
  | exact h
  | skip
 have hm : m = .slice none 0 0 := h
 subst hm
 unfold fixnl
 simp only
 split
 ·split
  ·split
   ·split
    ·exact ⟨[], World.ownsRow_nil w _ _ _, .nil, fun x h => (by cases h), fun u h => (by cases h), Nat.zero_le _, fun g h => (by simp [Value.ownBlock] at h)⟩
    ·rfl
   ·rfl
  ·rfl
 ·rfl
theorem fin_ok (hti : TIok P ti) (hs : Sim NG GW io w0 pd0 G env a w) {fn : Func} {args : List VV} {r : VV × List VV} (h : fin ti fn args env = some r) :
  (∀ v ∈ args, ∀ cs, v ≠ .bx cs) ∧ r.2 = [] ∧ ∃ m, (results fn a.tmps).run P w = .ok m w ∧ ResR w0.heap.size (endPd G env) w r.1 m := by
 unfold fin at h
 split at h
 case h_2 => cases h
 rename_i os ho
 obtain ⟨rfl, hno⟩ := outs_none args 0 os ho
 refine ⟨hno, ?_⟩
 split at h
 ·rename_i rv hrv
  split at h
  case h_2 => cases h
  rename_i v hv
  cases h
  obtain ⟨m, h1, h2⟩ := resv_ok (P := P) hti hs hv
  refine ⟨rfl, m, ?_, fixnl_ok h2⟩
  have := results_run (P := P) (w := w) fn a.tmps (ms := [m]) (by
   rw [hrv, List.mapM_cons, List.mapM_nil]
   simp only [Sem.run_bind]
   rw [h1]
   rfl)
  simpa using this
 ·rename_i rs hrs
  split at h
  case h_2 => cases h
  rename_i vs hvs
  cases h
  obtain ⟨ms, h1, h2⟩ := resvs_ok (P := P) hti hs fn.results.toList vs hvs
  refine ⟨rfl, .tuple ms.toArray, ?_, .tu _ _ h2⟩
  have := results_run (P := P) (w := w) fn a.tmps h1
  have hl : ms.length ≠ 1 := by
   have hl2 := h2.length
   intro e
   have hl3 : fn.results.toList.length = vs.length := by
    have : ∀ (l : List ResultVar) (q : List VV), resvs ti env l = some q → l.length = q.length := by
     intro l
     induction l with
     | nil => intro q hq; simp [resvs] at hq; subst hq; rfl
     | cons x l ih => intro q hq; simp only [resvs] at hq; split at hq <;> cases hq; simp [ih _ (by assumption)]
    exact this _ _ hvs
   match hq : fn.results.toList with
   | [x] => exact hrs x hq
   | [] => rw [hq] at hl3; simp at hl3; omega
   | _ :: _ :: _ => rw [hq] at hl3; simp at hl3; omega
  rw [dif_neg hl] at this
  exact this
def GivenOk (P : Program) (NG : Nat) (GW : World → Prop) (Gv : FuncId → Option (List VV → Option (VV × List VV))) : Prop := ∀ f g vs r, Gv f = some g → g vs = some r → CallOk1 P NG GW f vs r
theorem callv_ok (hti : TIok P ti) (gws : ∀ w w', GW w → Below NG w w' → GW w') {keep : FuncId → Nat → Option (List Nat)} {Gv : FuncId → Option (List VV → Option (VV × List VV))} (hG : GivenOk P NG GW Gv) (hA : ∀ C : Cx, C.ti = ti → CallOk P NG GW C.call → AnyOk P NG GW C) : ∀ m, CallOk P NG GW (callv P ti keep Gv m)
 | 0 => fun f vs r _ h => by simp [callv] at h
 | m + 1 => fun f vs r hok h => by
  have ih := callv_ok hti gws hG hA (keep := keep) m
  rw [callv] at h
  split at h
  ·rename_i g hg; exact hG f g vs r hg h
  split at h
  case h_2 => cases h
  rename_i fn hfn
  split at h
  case h_2 => cases h
  rename_i c hname' hb
  let C : Cx := ⟨ti, callv P ti keep Gv m, m⟩
  refine ⟨⟨fn, hfn, (Bool.or_eq_false_iff.1 hname').1, by rw [hb]; rfl⟩, fun w ms H hgw hng hl hargs hnd hio hpv hpd => ?_⟩
  rw [Bool.or_eq_false_iff] at hname'
  have hname := hname'.1
  have hbx : ∀ v ∈ vs, ∀ cs, v ≠ .bx cs := fun v hv cs e => by
   have := List.any_eq_false.1 hname'.2 v hv
   subst e; simp [isBx] at this
  have hioB := ioB_none vs ms hbx
  rw [hioB]
  let G0 : Gh := ⟨H.pd, H.pv, fun _ => 0, fun _ => none, w.heap.size⟩
  have hlen : (start fn vs).length = (ms.toArray ++ Array.replicate (fn.ntmps - ms.toArray.size) undef).size := by
   simp [start, hl]
  have hs0 : Sim NG GW [] w H.pd G0 (start fn vs) { tmps := ms.toArray ++ Array.replicate (fn.ntmps - ms.toArray.size) undef, defers := [] } w := by
   refine { size := hlen, slot := ?_, df := rfl, fr := Fr.refl _ _ _, gw := hgw, ng := hng, ngio := (by simp), own := (fun g p h => by cases h), ownp := (fun g k h => absurd rfl h), dv := hpd, B := rfl, old := (fun g k _ h => h) }
   intro t v u hv hu
   by_cases ht : t < vs.length
   ·rw [start, List.getElem?_append_left ht] at hv
    rw [Array.getElem?_append_left (by simpa [← hl] using ht)] at hu
    have hA := hargs t v u hv (by simpa using hu)
    cases v <;> first
     | exact absurd rfl (hbx _ (List.mem_of_getElem? hv) _) | exact hA.elim | exact hA
     | skip
    obtain ⟨us, e1, e2, e3⟩ := hA
    refine ⟨us, e1, e2, fun i x y hx hy => ?_⟩
    obtain ⟨cs, rfl, hV⟩ := e3 i x y hx hy
    exact hV
   ·rw [start, List.getElem?_append_right (by omega)] at hv
    have := List.eq_of_mem_replicate (List.mem_of_getElem? hv)
    subst this
    exact SlotR.un
  refine calls_of_wp hfn hb (run_sound (r := r) (C := C) hti gws ih (hA C rfl ih) (keep f) c 0 G0 _ _ w _ _ hs0 h fun e G' env' a' w' hs' h' => ?_)
  have key : fin ti fn vs env' = some r → a'.defers = [] ∧ ∃ v, (results fn a'.tmps).run P w' = .ok v w' ∧ ∃ m, (Ending.returned v) = .returned m ∧ Post H w [] r m w' := by
   intro hf
   obtain ⟨_, h2, m', h3, h4⟩ := fin_ok (P := P) hti hs' hf
   refine ⟨hs'.df, m', h3, m', rfl, hs'.fr, endPd G' env', fun g k hg hk => ?_, h4, by rw [h2]; rfl, fun j g v hj _ => by simp at hj⟩
   rcases hk with hk | ⟨t, e, z, xs, h5, h6, _⟩
   ·exact hs'.old g k hg hk
   ·obtain ⟨_, _, _, _, _, _, _, _, _, _, hB⟩ := made_of hs' h5
    rw [hs'.B] at hB
    omega
  cases e with
  | normal => exact key h'
  | ret => exact key h'
  | _ => cases h'
end
section
variable {R : Type} (C : Cx)
def vqu (o : Oper) (rd : Operand → VV) (gb : Nat → VV) (val : VV → Option R) : Option R := match o.op with
 | .move x => val (rd x)
 | .pick c a b => match rd c with
  | .s (.bool t) => bite t (val (rd a)) (val (rd b))
  | _ => none
 | .unOp op _ x => match vun op (rd x) with
  | some v => val (.s v)
  | none => none
 | .binOp op t x y _ => match vbin (isBool C t) op (rd x) (rd y) with
  | some (b, v) => must b (val (.s v))
  | none => none
 | .load ty x => match C.ti ty with
  | none => none
  | some i => match rd x with
   | .vw cs => match vload i cs 0 with
    | some v => val v
    | none => none
   | .pt t off => match gb t with
    | .bx cs => (match vload i cs off with
      | some v => val v
      | none => none)
    | _ => none
   | _ => none
 | .nilCheck x => match rd x with
  | .pt t off => val (.pt t off)
  | _ => none
 | .fieldAddr st x f => match C.ti st with
  | some i => match i.k with
   | .agg fs => match fs[f]? with
    | some (off, sz) => if sz = 0 then none else match rd x with
     | .pt t o => val (.pt t (o + off))
     | .vw cs => val (.vw (cs.drop off))
     | _ => none
    | none => none
   | _ => none
  | none => none
 | .indexAddr t x ix => match C.ti t with
  | some i => match i.k with
   | .slice e => match C.ti e with
    | some ie => match rd x, rd ix with
     | .sl xs, .s (.int _ j) => bite (decide (0 ≤ j) && decide (j < (xs.length : Int))) (vget xs j fun v => if v.cells.length = ie.sz then val (.vw v.cells) else none) none
     | .sr u n, .s (.int _ j) => bite (decide (0 ≤ j) && decide (j < (n : Int))) (val (.pe u j ie.sz)) none
     | _, _ => none
    | none => none
   | _ => none
  | none => none
 | .index t x ix => match C.ti t with
  | some i => match i.k, rd x, rd ix with
   | .str, .s (.string s), .s (.int _ j) => bite (decide (0 ≤ j) && decide (j < (s.size : Int))) (val (.byte (bt s j))) none
   | _, _, _ => none
  | none => none
 | .extract x n => match rd x with
  | .tu vs => match vs[n]? with
   | some v => val v
   | none => none
  | _ => none
 | .build t parts => match C.ti t with
  | some i => match i.k with
   | .agg _ => (match fillv i (i.zero.map liftc) (parts.toList.map fun p => (p.1, rd p.2)) with
    | some cs => val (.ag cs)
    | none => none)
   | _ => none
  | none => none
 | .buildSlice t len parts => match C.ti t with
  | some i => match i.k with
   | .slice e => match C.ti e with
    | some ie => if 0 < ie.sz ∧ len * ie.sz ≤ 16777216 then (match fills ie.sz (List.replicate len (zeroV ie)) (parts.toList.map fun p => (p.1, rd p.2)) with
     | some xs => val (.ow e ie.sz xs)
     | none => none) else none
    | none => none
   | _ => none
  | none => none
 | .makeFunc (.func f) first cap => if first.size = 0 then (match (cap.toList.map rd).all isCap with
  | true => val (.cl f (cap.toList.map rd))
  | false => none) else none
 | .convert src dst x => match C.ti src, C.ti dst with
  | some i, some j => match i.k, j.k, rd x with
   | .int _, .int k, .s (.int _ n) => val (.s (.int k (wr k n)))
   | .str, .str, .s (.string b) => val (.s (.string b))
   | .slice e, .str, .sl xs => (match C.ti e with
    | some ie => (match ie.k with
     | .int .u8 => obind (byL xs) fun l => val (.str (strOfNums l))
     | _ => none)
    | none => none)
   | _, _, _ => none
  | _, _ => none
 | .slice t x lo hi mx => match mx, C.ti t with
  | none, some i => match i.k, rd x with
   | .str, .s (.string s) => (match vbnd (lo.map rd), vbnd (hi.map rd) with
    | some l, some h => bite (bndOk s.size (l.getD 0) (h.getD s.size)) (val (.str (s.extract (l.getD 0).toNat (h.getD s.size).toNat))) none
    | _, _ => none)
   | .slice e, .sl xs => (match C.ti e, vbnd (lo.map rd), vbnd (hi.map rd) with
    | some ie, some l, some h => bite (bndOk xs.length (l.getD 0) (h.getD xs.length) && xs.all fun v => Nat.beq v.cells.length ie.sz) (val (.sl ((xs.take (h.getD xs.length).toNat).drop (l.getD 0).toNat))) none
    | _, _, _ => none)
   | _, _ => none
  | _, _ => none
 | .call c => match c.callee with
  | .builtin .len => match c.args.toList, c.argTypes.toList with
   | [x], [t] => match C.ti t with
    | some i => match i.k, rd x with
     | .str, .s (.string b) => val (.int b.size)
     | .slice _, .sl xs => val (.int xs.length)
     | .slice _, .sr _ n => val (.int n)
     | _, _ => none
    | none => none
   | _, _ => none
  | .builtin .min => match c.args.toList with
   | [x, y] => match rd x, rd y with
    | .s (.int k n), .s (.int k' n') => val (.s (.int k (if n' < n then n' else n)))
    | _, _ => none
   | _ => none
  | .value x => match rd x with
   | .cl f cap => match (c.args.toList.map rd).all drOk && drOk (.cl f cap) && (c.args.toList.map rd ++ cap).all argOk with
    | true => obind (C.call f (c.args.toList.map rd ++ cap)) fun r => (match resOk r.1 with
     | true => val r.1
     | false => none)
    | false => none
   | _ => none
  | _ => none
 | _ => none
end
section
variable {R : Type} {C : Cx} {ops : List Oper} {l : List Nat} {o : Oper} {env : Env} {K : Env → Option R}
theorem arg_dr {x : Operand} (h : drOk (rdv env x) = true) : argOf env x = rdv env x ∧ ioOf env x = [] := by
 unfold argOf ioOf
 generalize rdv env x = v at h
 cases v <;> first
  | (exact ⟨rfl, rfl⟩) | (simp [drOk] at h; done)
  | skip
 rename_i f cap
 refine ⟨?_, rfl⟩
 show VV.cl f (cap.map (capv env)) = VV.cl f cap
 simp only [drOk] at h
 congr 1
 conv => rhs; rw [← List.map_id cap]
 refine List.map_congr_left fun v hv => ?_
 rw [List.all_eq_true] at h
 have := h v hv
 cases v <;> simp at this
 rfl
theorem args_dr : ∀ {xs : List Operand}, (xs.map (rdv env)).all drOk = true → xs.map (argOf env) = xs.map (rdv env) ∧ xs.flatMap (ioOf env) = []
 | [], _ => ⟨rfl, rfl⟩
 | x :: r, h => by
  simp only [List.map_cons, List.all_cons, Bool.and_eq_true] at h
  obtain ⟨h1, h2⟩ := arg_dr h.1
  obtain ⟨h3, h4⟩ := args_dr h.2
  exact ⟨by rw [List.map_cons, List.map_cons, h1, h3], by rw [List.flatMap_cons, h2, h4]; rfl⟩
theorem vop_quiet (hq : quietB C ops o = true) (ha : ∀ t, o.op ≠ .alloc t) : vop C ops (some l) o env K = vqu C o (rdv env) (getB (some l) env) fun v => vput (some l) o.dst v env K := by
 cases hop : o.op with
 | move x =>
  simp only [quietB, hop] at hq
  have hfd : fd ops o.dst = false := by simpa using hq
  simp only [vop, vqu, hop, hfd, vmove]
  split
  ·rename_i t
   split <;> rename_i hg <;> simp [rdv, hg, view]
  ·rfl
  ·rfl
 | load ty x =>
  simp only [quietB, hop] at hq
  have hfd : fd ops o.dst = false := by simpa using hq
  simp only [vop, vqu, hop, hfd]
  try rfl
 | alloc t => exact absurd hop (ha t)
 | buildSlice t len parts => simp only [vop, vqu, hop, frcL_eq]; try rfl
 | makeFunc f x y => cases f <;> simp only [vop, vqu, hop] <;> try rfl
 | call c =>
  cases hc : c.callee with
  | value x =>
   simp only [quietB, hop, hc] at hq
   simp only [vop, vqu, hop, hc]
   cases hx : rdv env x <;> try rfl
   rename_i f cap
   simp only [drArgs, List.all_cons, List.all_nil, Bool.and_true]
   cases hd : (c.args.toList.map (rdv env)).all drOk && drOk (.cl f cap)
   ·rfl
   ·rw [Bool.and_eq_true] at hd
    obtain ⟨e1, e2⟩ := args_dr hd.1
    have e3 : cap.map (capv env) = cap := by
     conv => rhs; rw [← List.map_id cap]
     refine List.map_congr_left fun v hv => ?_
     have := hd.2
     simp only [drOk, List.all_eq_true] at this
     have := this v hv
     cases v <;> simp at this
     rfl
    simp only [argv_eq, frcL_eq, capK_eq, e1, e2, e3, vcall, nodupB, List.isEmpty_nil, Bool.true_or, Bool.and_true, Bool.true_and, backsK]
    try rfl
  | invoke x m => simp only [vop, vqu, hop, hc]
  | builtin b => cases b <;> simp [quietB, hop, hc] at hq <;> simp only [vop, vqu, hop, hc] <;> try rfl
 | _ => first
  | (simp only [vop, vqu, hop]; done) | (simp only [vop, vqu, hop]; rfl) | (simp [quietB, hop] at hq; done)
theorem vqu_val {rd : Operand → VV} {gb : Nat → VV} {val : VV → Option R} {r : R} (h : vqu C o rd gb val = some r) : ∃ v, val v = some r ∧ ∀ {R' : Type} (val' : VV → Option R'), vqu C o rd gb val' = val' v := by
 unfold vqu at h ⊢
 cases hop : o.op with
 | move x => rw [hop] at h; exact ⟨_, h, fun {R'} _ => rfl⟩
 | pick c x y =>
  rw [hop] at h
  simp only at h ⊢
  split at h
  ·rename_i t ht
   rcases bite_some h with ⟨rfl, h⟩ | ⟨rfl, h⟩ <;> exact ⟨_, h, fun {R'} _ => rfl⟩
  ·cases h
 | binOp op t x y u =>
  rw [hop] at h
  simp only at h ⊢
  split at h
  ·rename_i b v hv
   obtain ⟨hb, h⟩ := must_some h
   subst hb
   exact ⟨_, h, fun {R'} _ => rfl⟩
  ·cases h
 | indexAddr t x ix =>
  rw [hop] at h
  simp only at h ⊢
  split at h
  case h_2 => cases h
  split at h
  case h_2 => cases h
  split at h
  case h_2 => cases h
  split at h
  ·obtain ⟨hb, h⟩ := bite_none h
   obtain ⟨v, hv, h⟩ := vget_some h
   split at h
   ·rename_i hl
    refine ⟨_, h, fun {R'} val' => ?_⟩
    simp only [hb, bite, vget, hv, hl, if_pos]
   ·cases h
  ·obtain ⟨hb, h⟩ := bite_none h
   exact ⟨_, h, fun {R'} val' => by simp only [hb, bite]⟩
  ·cases h
 | index t x ix =>
  rw [hop] at h
  simp only at h ⊢
  split at h
  case h_2 => cases h
  split at h
  ·obtain ⟨hb, h⟩ := bite_none h
   exact ⟨_, h, fun {R'} val' => by simp only [hb, bite]⟩
  ·cases h
 | slice t x lo hi mx =>
  rw [hop] at h
  simp only at h ⊢
  split at h
  case h_2 => cases h
  split at h
  ·split at h
   ·obtain ⟨hb, h⟩ := bite_none h
    exact ⟨_, h, fun {R'} val' => by simp only [hb, bite]⟩
   ·cases h
  ·split at h
   ·obtain ⟨hb, h⟩ := bite_none h
    exact ⟨_, h, fun {R'} val' => by simp only [hb, bite]⟩
   ·cases h
  ·cases h
 | makeFunc f x y =>
  rw [hop] at h
  cases f <;> simp only [reduceCtorEq] at h ⊢
  split at h
  ·rename_i h0
   split at h
   ·rename_i h1; exact ⟨_, h, fun {R'} val' => by simp only [h0, if_pos]⟩
   ·cases h
  ·cases h
 | call c =>
  rw [hop] at h
  simp only at h ⊢
  cases hc : c.callee with
  | value x =>
   rw [hc] at h
   simp only at h ⊢
   split at h
   case h_2 => cases h
   split at h
   case h_2 => cases h
   rename_i hk
   unfold obind at h ⊢
   split at h
   ·rename_i q hq
    simp only at h ⊢
    split at h
    ·rename_i hr; exact ⟨_, h, fun {R'} val' => by simp only [hr]⟩
    ·cases h
   ·cases h
  | invoke x m => rw [hc] at h; cases h
  | builtin b =>
   rw [hc] at h
   cases b <;> simp only [reduceCtorEq] at h ⊢
   ·split at h
    case h_2 => cases h
    split at h
    case h_2 => cases h
    split at h <;> first
     | (cases h; done)
     | exact ⟨_, h, fun {R'} _ => rfl⟩
   ·split at h
    case h_2 => cases h
    split at h
    case h_2 => cases h
    exact ⟨_, h, fun {R'} _ => rfl⟩
 | _ =>
  rw [hop] at h
  simp only [reduceCtorEq] at h ⊢ <;> (repeat' (split at h)) <;> first
   | (cases h; done) | (obtain ⟨l, hl, h2⟩ := obind_some h; refine ⟨_, h2, fun {R'} val' => ?_⟩; rw [hl]; first | rfl | (simp [*, obind]; done)) | (refine ⟨_, h, fun {R'} val' => ?_⟩; first | rfl | (simp only [*]; done) | (simp [*]; done))
theorem map_rd {rd rd' : Operand → VV} {xs : List Operand} (h : ∀ x ∈ xs, rd' x = rd x) : xs.map rd' = xs.map rd := List.map_congr_left h
theorem omap_rd {rd rd' : Operand → VV} {x : Option Operand} (h : ∀ y, x = some y → rd' y = rd y) : x.map rd' = x.map rd := by
 cases x with
 | none => rfl
 | some y => rw [Option.map_some, Option.map_some, h y rfl]
theorem vqu_congr {rd rd' : Operand → VV} {gb gb' : Nat → VV} {val : VV → Option R} (h : ∀ x ∈ o.op.operands.toList, rd' x = rd x) (hg : ∀ ty x, o.op = .load ty x → ∀ t off, rd x = .pt t off → gb' t = gb t) : vqu C o rd' gb' val = vqu C o rd gb val := by
 unfold vqu
 cases hop : o.op with
 | load t x =>
  rw [hop] at h
  simp only
  rw [h x (by simp [Op.operands])]
  cases C.ti t with
  | none => rfl
  | some i =>
   cases hx : rd x <;> try rfl
   rename_i u off
   simp only
   rw [hg t x hop u off hx]
 | build t parts =>
  rw [hop] at h
  have e : (parts.toList.map fun p => (p.1, rd' p.2)) = parts.toList.map fun p => (p.1, rd p.2) := List.map_congr_left fun p hp => by
   rw [h p.2 (by simp [Op.operands]; exact ⟨p.1, by simpa using hp⟩)]
  simp only [e]
 | buildSlice t n parts =>
  rw [hop] at h
  have e : (parts.toList.map fun p => (p.1, rd' p.2)) = parts.toList.map fun p => (p.1, rd p.2) := List.map_congr_left fun p hp => by
   rw [h p.2 (by simp [Op.operands]; exact ⟨p.1, by simpa using hp⟩)]
  simp only [e]
 | makeFunc f x y =>
  rw [hop] at h
  have e : y.toList.map rd' = y.toList.map rd := map_rd fun z hz => h z (by simp [Op.operands]; exact .inr (by simpa using hz))
  cases f <;> simp only [e]
 | slice t x lo hi mx =>
  rw [hop] at h
  have e1 := h x (by simp [Op.operands])
  have e2 : lo.map rd' = lo.map rd := omap_rd fun y hy => h y (by subst hy; simp [Op.operands])
  have e3 : hi.map rd' = hi.map rd := omap_rd fun y hy => h y (by subst hy; simp [Op.operands])
  simp only [e1, e2, e3]
 | call c =>
  rw [hop] at h
  cases hc : c.callee with
  | value x =>
   have e1 := h x (by simp [Op.operands, Call.operands, hc])
   have e2 : c.args.toList.map rd' = c.args.toList.map rd := map_rd fun z hz => h z (by simp [Op.operands, Call.operands, hc]; exact .inr (by simpa using hz))
   simp only [hc, e1, e2]
  | invoke x m => simp only [hc]
  | builtin b =>
   have e : ∀ z ∈ c.args.toList, rd' z = rd z := fun z hz => h z (by simp [Op.operands, Call.operands, hc]; simpa using hz)
   cases b <;> simp only [hc]
   ·split
    ·rename_i x t hx ht
     rw [e x (by rw [hx]; simp)]
    ·rfl
   ·split
    ·rename_i x y hx
     rw [e x (by rw [hx]; simp), e y (by rw [hx]; simp)]
    ·rfl
 | binOp op t x y u =>
  rw [hop] at h
  simp only [h x (by simp [Op.operands]), h y (by simp [Op.operands])]
 | pick c x y =>
  rw [hop] at h
  simp only [h c (by simp [Op.operands]), h x (by simp [Op.operands]), h y (by simp [Op.operands])]
 | indexAddr t x y =>
  rw [hop] at h
  simp only [h x (by simp [Op.operands]), h y (by simp [Op.operands])]
 | index t x y =>
  rw [hop] at h
  simp only [h x (by simp [Op.operands]), h y (by simp [Op.operands])]
 | move x => rw [hop] at h; simp only [h x (by simp [Op.operands])]
 | unOp op t x => rw [hop] at h; simp only [h x (by simp [Op.operands])]
 | nilCheck x => rw [hop] at h; simp only [h x (by simp [Op.operands])]
 | fieldAddr t x f => rw [hop] at h; simp only [h x (by simp [Op.operands])]
 | extract x n => rw [hop] at h; simp only [h x (by simp [Op.operands])]
 | convert s d x => rw [hop] at h; simp only [h x (by simp [Op.operands])]
 | _ => rfl
end
end Go.Proofs.YtieohddolkeegaaGreatDoor.VI

end
