/- A part of the proof that the law FnExactHoles answers true at every input that its row speaks of. Conditions: the row's own. -/
import Derived.Test.YtcfeihimmboghaaGreatDoorMFnExactHoles5
import Derived.Test.YtcfeihimmboghaaGreatDoorMFnExactHoles4
import Derived.Test.YtcfeihimmboghaaGreatDoorVMore
section
namespace Go.Proofs.YtcfeihimmboghaaGreatDoor.VI
open Go Go.RowKit
set_option linter.unusedVariables false
set_option linter.unusedSimpArgs false
section
variable {P : Program} {NG : Nat} {GW : World → Prop} {io : List Nat} {w0 : World} {pd0 : Nat → Nat → Prop} {G G' : Gh} {env : Env} {a : Act} {w w' : World}
variable {R : Type} {K : Env → Option R} {r : R} {next : Act → World → Prop} {Q : Exit → Act → World → Prop} {o : Oper} {C : Cx} {ops : List Oper} {dr : Option (List Nat)}
theorem fills_sound (hs : Sim NG GW io w0 pd0 G env a w) {z : Nat} : ∀ (parts : List (Nat × Operand)) (xs : List VV) (ms : List Value) (xs' : List VV), DRs G.pd w (xs.flatMap VV.cells) ms → (∀ x ∈ xs, x.cells.length = z) → (∀ u ∈ ms, u.oneCell' = true) → fills z xs (parts.map fun p => (p.1, rdv env p.2)) = some xs' →
    ∃ ms', Instr.fill (fun i => some (i * z, z)) ms.toArray (parts.map fun p => (p.1, a.eval p.2)) = some ms'.toArray ∧ DRs G.pd w (xs'.flatMap VV.cells) ms' ∧ (∀ x ∈ xs', x.cells.length = z) ∧ (∀ u ∈ ms', u.oneCell' = true) ∧ xs'.length = xs.length
  | [], xs, ms, xs', hr, hz, h1, h => by
    cases h; exact ⟨ms, rfl, hr, hz, h1, rfl⟩
  | (j, x) :: rest, xs, ms, xs', hr, hz, h1, h => by
    simp only [List.map_cons, fills] at h
    split at h
    case isFalse => cases h
    rename_i hc
    obtain ⟨hl, hj, hok⟩ := hc
    have hl : (rdv env x).cells.length = z := hl
    obtain ⟨hr', h1'⟩ := (rdv_rel hs x).cells hok
    have hl' : (rdv env x).cells.length = (a.eval x).cells.toList.length := hr'.length
    have hlc := hr.length
    rw [flat_len hz] at hlc
    have hes : (a.eval x).cells.size = z := (Array.length_toList (xs := (a.eval x).cells)).symm.trans (hl'.symm.trans hl)
    have hset := hr'.setCells (j * z) hr
    rw [← flat_set hz hj hl] at hset
    obtain ⟨ms', hm', hr2, hz2, h2, hl2⟩ := fills_sound hs rest _ _ xs' hset (widths_set hz hl) (setCells_all (p := fun u : Value => u.oneCell' = true) _ _ _ h1' h1) h
    refine ⟨ms', ?_, hr2, hz2, h2, by rw [hl2, List.length_set]⟩
    have hfit : j * z + z ≤ ms.length := by rw [← hlc, ← Nat.succ_mul]; exact Nat.mul_le_mul_right _ hj
    rw [List.map_cons, fill_cons _ _ j (j * z) z _ _ rfl hes (by rw [List.size_toArray]; exact hfit)]
    exact hm'
theorem buildSlice_sound (hti : TIok P C.ti) (gws : ∀ w w', GW w → Below NG w w' → GW w') (hs : Sim NG GW io w0 pd0 G env a w) (hn : Nx NG GW io w0 pd0 K r next) {t : TypeId} {len : Nat} {parts : Array (Nat × Operand)} (hop : o.op = .buildSlice t len parts) (h : vop C ops dr o env K = some r) : o.wp P a w next Q := by
  simp only [vop, hop] at h
  split at h
  case h_2 => cases h
  rename_i i hi
  split at h
  case h_2 => cases h
  rename_i e hk
  split at h
  case h_2 => cases h
  rename_i ie hie
  split at h
  case isFalse => cases h
  rename_i hpos
  split at h
  case h_2 => cases h
  rename_i xs hf
  rw [frcL_eq] at h
  have hu := hti.kind t i hi
  rw [hk] at hu
  simp only at hu
  obtain ⟨inf, z, hinf, hzz, hzc, hsz, hby, hzl, hz1, _⟩ := hti.info e ie hie
  have hzcells := zeroV_cells hti hie
  have hzs : z.cells.size = ie.sz := by rw [← hzl, ← hzc, Array.length_toList]
  have hr0 : DRs G.pd w ((List.replicate len (zeroV ie)).flatMap VV.cells) ((List.replicate len ie.zero).flatten) := by
    rw [repl_flat, hzcells]; exact (liftcs_rel ie.zero).repl len
  have hw0 : ∀ x ∈ List.replicate len (zeroV ie), x.cells.length = ie.sz := by
    intro x hx
    rw [List.eq_of_mem_replicate hx, hzcells]; simpa using hzl
  have h10 : ∀ u ∈ (List.replicate len ie.zero).flatten, u.oneCell' = true := by
    intro u hu
    obtain ⟨l, hl, hu⟩ := List.mem_flatten.1 hu
    rw [List.eq_of_mem_replicate hl] at hu
    exact hz1 u hu
  obtain ⟨ms, hm, hr, hz, h1, hxl⟩ := fills_sound hs parts.toList _ _ xs hr0 hw0 h10 hf
  have hxl : xs.length = len := by simpa using hxl
  have hml : ms.length = xs.length * ie.sz := by rw [← hr.length, flat_len hz]
  have hcur : ((Array.range (len * ie.sz)).map (z.cells[· % z.cells.size]!)) = ((List.replicate len ie.zero).flatten).toArray := by
    rw [← hzs]
    have := made_list z.cells (by rw [hzs]; exact hpos.1) len
    rw [← hzc, ← this]
  have hrun : (Instr.buildSlice t len (parts.map fun (i, x) => (i, a.eval x))).run P w = .ok (.slice (some ⟨w.heap.size, 0, none⟩) len len) (w.alloc (.cells ms.toArray e)) := by
    by_cases hl0 : len = 0
    · subst hl0
      have hp : parts.toList = [] := by
        cases hp : parts.toList with
        | nil => rfl
        | cons p q => simp [hp, fills] at hf
      have hpe : parts = #[] := by rw [← Array.toArray_toList (xs := parts), hp]
      subst hpe
      have hx : xs = [] := List.eq_nil_of_length_eq_zero hxl
      subst hx
      have hm0 : ms = [] := List.eq_nil_of_length_eq_zero (by simpa using hml)
      subst hm0
      simp [Instr.buildSlice, run_underlying hu, sizeOf, typeInfo, hinf, Instr.fill, newRow]
      rw [show Array.map (fun _ : Nat => (default : Value)) (Array.range 0) = #[] from by
        apply Array.eq_empty_of_size_eq_zero; simp]
    · refine run_buildSlice w t e len _ _ inf z hu hinf hzz (by rw [hsz]; have := hpos.2; omega) (by rw [hsz]; have := Nat.mul_pos (Nat.pos_of_ne_zero hl0) hpos.1; omega) ?_
      rw [hsz, hcur, Array.toList_map]
      exact hm
  obtain ⟨G', hs', hO⟩ := hs.row gws (o.dst.getD 0, 0) (e := e) (sz := ie.sz) (cap := len) (xs := xs) (ms := ms) (cur := ms.toArray) (by rw [List.size_toArray, hml, hxl]) (by rw [← hml]; exact List.take_length) hml (by omega) (by have h1 := hpos.1; have h2 := hpos.2; have : len ≤ len * ie.sz := Nat.le_mul_of_pos_right _ h1; simp only [maxLen]; omega) hr hz h1
  have hex : (execOp a.eval o).run P w = .ok (.value (.slice (some ⟨w.heap.size, 0, none⟩) len len)) (w.alloc (.cells ms.toArray e)) := by
    unfold execOp
    rw [hop]
    simp only [Sem.run_bind]
    rw [hrun]
    rfl
  refine wp_value hex (hn G' _ _ _ (hs'.put o.dst fun d hd => ?_) (vput_some h))
  rw [hd] at hO
  rw [hxl] at hO
  exact hO
theorem makeSlice_sound (hti : TIok P C.ti) (gws : ∀ w w', GW w → Below NG w w' → GW w') (hs : Sim NG GW io w0 pd0 G env a w) (hn : Nx NG GW io w0 pd0 K r next) {t : TypeId} {l c : Operand} (hop : o.op = .makeSlice t l c) (h : vop C ops dr o env K = some r) : o.wp P a w next Q := by
  have hl := rdv_rel hs l
  have hc := rdv_rel hs c
  simp only [vop, hop] at h
  split at h
  case h_2 => cases h
  rename_i i hi
  split at h
  case h_2 => cases h
  rename_i e hk
  split at h
  case h_2 => cases h
  rename_i ie hie
  split at h
  case h_2 => cases h
  rename_i n n' d hvl hvc hd
  split at h
  case isFalse => cases h
  rename_i hpos
  obtain ⟨hb, h⟩ := bite_none h
  simp at hb
  obtain ⟨hnn, h0, hb⟩ := hb
  rw [hvl] at hl
  rw [hvc] at hc
  have hl := hl.sv
  have hc := hc.sv
  subst hnn
  have hu := hti.kind t i hi
  rw [hk] at hu
  simp only at hu
  obtain ⟨inf, z, hinf, hzz, hzc, hsz, hby, hzl, hz1, _⟩ := hti.info e ie hie
  have hzs : z.cells.size = ie.sz := by rw [← hzl, ← hzc, Array.length_toList]
  have hzcells := zeroV_cells hti hie
  have hn1 : n'.toNat ≤ n'.toNat * ie.bytes := Nat.le_mul_of_pos_right _ hpos.2
  have hrun := run_make (P := P) w t e inf z hu hinf hzz .i64 .i64 n' n' h0 (Int.le_refl _) (by
    rw [hby]
    have h3 : ((n'.toNat * ie.bytes : Nat) : Int) ≤ 281474976710656 := by omega
    have h4 : (n'.toNat : Int) = n' := Int.toNat_of_nonneg h0
    have h5 : ((n'.toNat * ie.bytes : Nat) : Int) = (ie.bytes : Int) * n' := by
      rw [Int.natCast_mul, h4, Int.mul_comm]
    omega) (by omega)
  have hcur : madeCells z.cells (n'.toNat * inf.size) = ((List.replicate n'.toNat ie.zero).flatten).toArray := by
    unfold madeCells
    rw [hsz, ← hzs]
    have := made_list z.cells (by rw [hzs]; exact hpos.1) n'.toNat
    rw [← hzc, ← this]
  rw [hcur] at hrun
  have hr0 : DRs G.pd w ((List.replicate n'.toNat (zeroV ie)).flatMap VV.cells) ((List.replicate n'.toNat ie.zero).flatten) := by
    rw [repl_flat, hzcells]; exact (liftcs_rel ie.zero).repl _
  have hw0 : ∀ x ∈ List.replicate n'.toNat (zeroV ie), x.cells.length = ie.sz := by
    intro x hx
    rw [List.eq_of_mem_replicate hx, hzcells]; simpa using hzl
  have h10 : ∀ u ∈ (List.replicate n'.toNat ie.zero).flatten, u.oneCell' = true := by
    intro u hu
    obtain ⟨l, hl, hu⟩ := List.mem_flatten.1 hu
    rw [List.eq_of_mem_replicate hl] at hu
    exact hz1 u hu
  obtain ⟨G', hs'⟩ := hs.fresh gws d (.mr e ie.sz (List.replicate n'.toNat (zeroV ie))) ((List.replicate n'.toNat ie.zero).flatten) e (.slice (some ⟨w.heap.size, 0, none⟩) n'.toNat n'.toNat) (fun G' hB hb ho hp hd => by
    refine ⟨_, by rw [hb, List.length_replicate], by rw [hb]; exact heap_alloc_new w _, by rw [hb]; exact ho, fun k hk => hp k (by rw [hb] at hk; exact hk), .of hr0.length fun i v m hv hm => hd _ _ (hr0.at hv hm), hw0, h10, by rw [List.length_replicate]; simp only [maxLen]; omega, hpos.1, by rw [hb]; exact hB⟩)
  have hex : (execOp a.eval o).run P w = .ok (.value (.slice (some ⟨w.heap.size, 0, none⟩) n'.toNat n'.toNat)) (w.alloc (.cells ((List.replicate n'.toNat ie.zero).flatten).toArray e)) := by
    unfold execOp
    rw [hop]
    simp only [Sem.run_bind, hl, hc]
    rw [hrun]
    rfl
  refine wp_value hex (hn G' _ _ _ ?_ (vnew_some h))
  rw [hd]; exact hs'
end
end Go.Proofs.YtcfeihimmboghaaGreatDoor.VI

end
section
namespace Go.Proofs.YtcfeihimmboghaaGreatDoor.VI
open Go Go.RowKit Go.Proofs.YtcfeihimmboghaaGreatDoorW.PrintWords
set_option linter.unusedVariables false
set_option linter.unusedSimpArgs false
theorem drs_s : ∀ {pd : Nat → Nat → Prop} {w : World} (ls : List Value) {ms : List Value}, DRs pd w (ls.map VV.s) ms → ms = ls
  | _, _, [], _, h => by cases h; rfl
  | _, _, a :: ls, _, h => by
    cases h with
    | cons _ m _ ms h1 h2 =>
      cases h1
      rw [drs_s ls h2]
theorem c_of_dr {α : Type} {mk : α → Value} {h1 : ∀ x, (mk x).oneCell' = true} {pd : Nat → Nat → Prop} {w : World} {xs : List α} {m : Value} (h : DR pd w (.sl (xs.map fun x => .s (mk x))) m) : ∃ A c, m = .slice A xs.length c ∧ xs.length ≤ c ∧ Kd.C (Kd.scalar mk h1) w A xs.length xs := by
  generalize hl : (xs.map fun x => VV.s (mk x)) = l at h
  have hn : l.length = xs.length := by rw [← hl, List.length_map]
  cases h with
  | sl0 A c =>
    obtain rfl := List.eq_nil_of_length_eq_zero hn.symm
    exact ⟨A, c, rfl, Nat.zero_le _, rfl, Nat.zero_le _, fun h => absurd h (Nat.lt_irrefl _)⟩
  | sl _ g off c sz ms hc hm hz hr h1' hw =>
    subst hl
    have e : (List.map (fun x => VV.s (mk x)) xs).flatMap VV.cells = (xs.map mk).map VV.s := by
      clear hn hc hm hz hr h1' hw
      induction xs with
      | nil => rfl
      | cons x xs ih => rw [List.map_cons, List.flatMap_cons, ih]; rfl
    rw [e] at hr
    obtain rfl := drs_s _ hr
    rw [hn] at hc hm ⊢
    refine ⟨_, c, rfl, hc, rfl, by simpa [maxLen] using hm, fun _ => ⟨_, rfl, fun j p hj => ⟨[mk p], rfl, rfl, fun i u hu => ?_⟩⟩⟩
    cases i with
    | zero =>
      have hu' : mk p = u := by simpa using hu
      subst hu'
      have := (hw j (mk p) (by rw [List.getElem?_map, hj]; rfl)).1
      have e2 : (⟨g, off, none⟩ : Addr).add (j * 1 + 0) = ⟨g, off + j, none⟩ := by unfold Addr.add; simp
      show w.cell? ((⟨g, off, none⟩ : Addr).add (j * 1 + 0)) = _
      rw [e2]; exact this
    | succ i => simp at hu
theorem byL_map : ∀ (xs : List VV) (l : List Int), byL xs = some l → xs = l.map VV.byte
  | [], l, h => by cases h; rfl
  | v :: r, l, h => by
    cases v with
    | s x =>
      cases x with
      | int k n =>
        cases k with
        | u8 =>
          have h2 : obind (byL r) (fun l => some (n :: l)) = some l := h
          cases hr : byL r with
          | none => rw [hr] at h2; cases h2
          | some l' =>
            rw [hr] at h2
            have h' : some (n :: l') = some l := h2
            cases h'
            rw [byL_map r l' hr]
            rfl
        | _ => cases h
      | _ => cases h
    | _ => cases h
theorem bytes_run {P : Program} {pd : Nat → Nat → Prop} {w : World} {src dst e : TypeId} {xs : List VV} {l : List Int} {m : Value} (hs : P.underlying src = some (.slice e)) (he : P.underlying e = some (.int .u8)) (hd : P.underlying dst = some .string) (hl : byL xs = some l) (h : DR pd w (.sl xs) m) : (convert src dst m).run P w = .ok (.string (strOfNums l)) w := by
  obtain rfl := byL_map xs l hl
  obtain ⟨A, c, rfl, _, hC⟩ := c_of_dr (mk := Value.int .u8) (h1 := fun _ => rfl) h
  exact Kd.C_string hs he hd hC
end Go.Proofs.YtcfeihimmboghaaGreatDoor.VI

end
section
namespace Go.Proofs.YtcfeihimmboghaaGreatDoor.VI
open Go Go.RowKit
set_option linter.unusedVariables false
set_option linter.unusedSimpArgs false
section
variable {P : Program} {NG : Nat} {GW : World → Prop} {io : List Nat} {w0 : World} {pd0 : Nat → Nat → Prop} {G G' : Gh} {env : Env} {a : Act} {w w' : World}
variable {R : Type} {K : Env → Option R} {r : R} {next : Act → World → Prop} {Q : Exit → Act → World → Prop} {o : Oper} {C : Cx} {ops : List Oper} {dr : Option (List Nat)}
theorem part_dr {pd : Nat → Nat → Prop} {xs : List VV} {A : Option Addr} {len cap l h : Nat} {sz : Nat} (hd : DR pd w (.sl xs) (.slice A len cap)) (hz : ∀ x ∈ xs, x.cells.length = sz) (hlh : l ≤ h) (hh : h ≤ xs.length) : DR pd w (.sl ((xs.take h).drop l)) (.slice (if cap = l then A else A.map (·.add (l * sz))) (h - l) (cap - l)) := by
  have hlen : ((xs.take h).drop l).length = h - l := by simp; omega
  by_cases he : h - l = 0
  · have : (xs.take h).drop l = [] := List.eq_nil_of_length_eq_zero (by omega)
    rw [this, he]; exact .sl0 _ _
  · rcases hd.sl_inv with ⟨rfl, _⟩ | ⟨g, off, c, sz', ms, hm, hc, hml, hz', hr, h1, hw⟩
    · simp at hh; omega
    · cases hm
      rw [if_neg (by omega)]
      simp only [Option.map_some, Addr.add_lit]
      have e := flat_take h hz
      have hr2 := (hr.take (h * sz)).drop (l * sz)
      rw [e, flat_drop l (fun x hx => hz x (List.mem_of_mem_take hx))] at hr2
      have := DR.sl (pd := pd) (w := w) ((xs.take h).drop l) g (off + l * sz) (cap - l) sz ((ms.take (h * sz)).drop (l * sz)) (by rw [hlen]; omega) (by rw [hlen]; omega) (fun x hx => hz x (List.mem_of_mem_take (List.mem_of_mem_drop hx))) hr2 (fun u hu => h1 u (List.mem_of_mem_take (List.mem_of_mem_drop hu))) (fun k u hu => by
        rw [List.getElem?_drop, List.getElem?_take] at hu
        split at hu
        · have := hw _ _ hu; rw [Nat.add_assoc]; exact this
        · cases hu)
      rw [hlen] at this
      exact this
theorem sv_int {x : Operand} {k : IntKind} {n : Int} (hs : Sim NG GW io w0 pd0 G env a w) (h : rdv env x = .s (.int k n)) : a.eval x = .int k n := by
  have := rdv_rel hs x; rw [h] at this; exact this.sv
theorem bounds_run (hs : Sim NG GW io w0 pd0 G env a w) {lo hi : Option Operand} {l h : Option Int} {len cap : Nat} (sl : Bool) (hc : len ≤ cap) (hl : vbnd (lo.map (rdv env)) = some l) (hh : vbnd (hi.map (rdv env)) = some h) (hb : bndOk len (l.getD 0) (h.getD len) = true) :
    (Instr.sliceBounds sl len cap (lo.map a.eval) (hi.map a.eval) none).run P w = .ok ((l.getD 0).toNat, (h.getD len).toNat, cap) w := by
  have one : ∀ (x : Option Operand) (q : Option Int), vbnd (x.map (rdv env)) = some q → (x = none ∧ q = none) ∨ ∃ y k n, x = some y ∧ a.eval y = .int k n ∧ q = some n := by
    intro x q hx
    cases x with
    | none => simp [vbnd] at hx; exact .inl ⟨rfl, hx.symm⟩
    | some y =>
      simp only [Option.map_some] at hx
      generalize hy : rdv env y = v at hx
      unfold vbnd at hx
      split at hx
      · rename_i e; cases e
      · rename_i k n e; cases e; cases hx; exact .inr ⟨y, k, n, rfl, sv_int hs hy, rfl⟩
      · cases hx
  rcases one lo l hl with ⟨rfl, rfl⟩ | ⟨x, kx, nx, rfl, hx, rfl⟩ <;> rcases one hi h hh with ⟨rfl, rfl⟩ | ⟨y, ky, ny, rfl, hy, rfl⟩ <;> simp [bndOk] at hb <;> simp [Instr.sliceBounds, *]
  · have h1 : ny ≤ (cap : Int) := by omega
    rw [run_sliceBound _ _ _ _ _ hb.1.1 h1]
    simp
  · rw [run_sliceBound _ _ _ _ _ hb.1 hb.2]; rfl
  · have h1 : ny ≤ (cap : Int) := by omega
    rw [run_sliceBound _ _ _ _ _ hb.1.1 h1]
    simp only [Result.andThen_ok, Sem.run_bind]
    rw [run_sliceBound _ _ _ _ _ hb.2.1 (by have := Int.toNat_of_nonneg hb.1.1; omega)]
    rfl
theorem slice_sound (hti : TIok P C.ti) (hs : Sim NG GW io w0 pd0 G env a w) (hn : Nx NG GW io w0 pd0 K r next) {t : TypeId} {x : Operand} {lo hi mx : Option Operand} (hop : o.op = .slice t x lo hi mx) (h : vop C ops dr o env K = some r) : o.wp P a w next Q := by
  have hx := rdv_rel hs x
  simp only [vop, hop] at h
  split at h
  case h_2 => cases h
  rename_i i hi
  split at h
  · rename_i s hk hv
    rw [hv] at hx
    split at h
    case h_2 => cases h
    rename_i l q hl hq
    obtain ⟨hb, h⟩ := bite_none h
    have hu := hti.kind t i hi
    rw [hk] at hu
    simp only at hu
    have hrun := bounds_run (P := P) hs (cap := s.size) false (Nat.le_refl _) hl hq hb
    refine val_sound hs hn (m := .string (s.extract (l.getD 0).toNat (q.getD s.size).toNat)) ?_ (VR.of_dr (.s _)) h
    unfold execOp
    rw [hop]
    simp only [hx.sv]
    simp [run_sliceAt_string (h := hu), Instr.slice, run_underlying hu, hrun]
  · rename_i e xs hk hv
    rw [hv] at hx
    split at h
    case h_2 => cases h
    rename_i ie l q hie hl hq
    obtain ⟨hb, h⟩ := bite_none h
    rw [Bool.and_eq_true] at hb
    obtain ⟨hb, hw⟩ := hb
    have hz : ∀ x ∈ xs, x.cells.length = ie.sz := fun x hx => by
      rw [List.all_eq_true] at hw; exact Nat.eq_of_beq_eq_true (hw x hx)
    have hu := hti.kind t i hi
    rw [hk] at hu
    simp only at hu
    obtain ⟨A, c, hm, hc⟩ : ∃ A c, a.eval x = .slice A xs.length c ∧ xs.length ≤ c := by
      rcases hx.sl_dr.sl_inv with ⟨rfl, A, c, hm⟩ | ⟨g, off, c, sz, ms, hm, hc, _⟩
      · exact ⟨A, c, hm, Nat.zero_le _⟩
      · exact ⟨_, c, hm, hc⟩
    have hrun := bounds_run (P := P) hs (cap := c) true hc hl hq hb
    have hd : DR G.pd w (.sl xs) (.slice A xs.length c) := hm ▸ hx.sl_dr
    have hb' := hb
    simp [bndOk] at hb'
    have hpart := part_dr (l := (l.getD 0).toNat) (h := (q.getD xs.length).toNat) hd hz (by omega) (by omega)
    refine val_sound hs hn ?_ (VR.of_dr hpart) h
    unfold execOp
    rw [hop]
    simp only [hm]
    simp [Instr.sliceAt, Instr.slice, run_underlying hu, hrun, run_sizeOf' hti hie]
  · cases h
theorem small_sound (hti : TIok P C.ti) (hs : Sim NG GW io w0 pd0 G env a w) (hn : Nx NG GW io w0 pd0 K r next)
    (hop : (∃ c x y, o.op = .pick c x y) ∨ (∃ op t x, o.op = .unOp op t x) ∨ (∃ op t x y u, o.op = .binOp op t x y u) ∨ (∃ x, o.op = .nilCheck x) ∨ (∃ t x y, o.op = .index t x y) ∨ (∃ x n, o.op = .extract x n) ∨ (∃ f x y, o.op = .makeFunc (.func f) x y) ∨ (∃ s d x, o.op = .convert s d x)) (h : vop C ops dr o env K = some r) : o.wp P a w next Q := by
  rcases hop with ⟨c, x, y, hop⟩ | ⟨op, t, x, hop⟩ | ⟨op, t, x, y, u, hop⟩ | ⟨x, hop⟩ | ⟨t, x, y, hop⟩ | ⟨x, n, hop⟩ | ⟨f, x, y, hop⟩ | ⟨s, d, x, hop⟩ <;> simp only [vop, hop] at h
  · have hc := rdv_rel hs c
    split at h
    case h_2 => cases h
    rename_i t ht
    rw [ht] at hc
    rcases bite_some h with ⟨rfl, h⟩ | ⟨rfl, h⟩
    · refine val_sound hs hn ?_ (rdv_rel hs x) h
      unfold execOp; rw [hop]; simp [hc.sv, asBool]
    · refine val_sound hs hn ?_ (rdv_rel hs y) h
      unfold execOp; rw [hop]; simp [hc.sv, asBool]
  · have hx := rdv_rel hs x
    split at h
    case h_2 => cases h
    rename_i v hv
    refine val_sound hs hn (m := v) ?_ (VR.of_dr (.s _)) h
    unfold execOp; rw [hop]
    unfold vun at hv
    split at hv <;> first | (cases hv; done) | skip
    · rename_i b hb; rw [hb] at hx; cases hv; simp [hx.sv, Op.unary]
    · rename_i k n hb; rw [hb] at hx; cases hv; simp [hx.sv, Op.unary, Op.intArith, wr_eq]
  · split at h
    · rename_i b v hv
      obtain ⟨hb, h⟩ := must_some h
      exact val_sound hs hn (binop_sound hb hop hs hv (isBool_ok hti)) (VR.of_dr (.s _)) h
    · cases h
  · have hx := rdv_rel hs x
    split at h
    case h_2 => cases h
    rename_i t off hv
    rw [hv] at hx
    refine val_sound (v := .pt t off) hs hn (m := .pointer (some ⟨G.bl t, off, none⟩)) ?_ (show _ = _ from rfl) h
    unfold execOp; rw [hop]; simp [hx.pt_eq]
  · have hx := rdv_rel hs x
    split at h
    case h_2 => cases h
    rename_i i hi
    split at h
    case h_2 => cases h
    rename_i b k j hk hvx hvy
    rw [hvx] at hx
    have hy := sv_int hs hvy
    obtain ⟨hb, h⟩ := bite_none h
    simp at hb
    have hu := hti.kind t i hi
    rw [hk] at hu
    simp only at hu
    refine val_sound hs hn (m := .int .u8 (bt b j)) ?_ (VR.of_dr (.s _)) h
    unfold execOp; rw [hop]
    have hj : j.toNat < b.size := by omega
    simp [hx.sv, hy, Instr.index, run_underlying hu, asIntOf, hb.1, hj, bt]
  · have hx := rdv_rel hs x
    split at h
    case h_2 => cases h
    rename_i vs hv
    split at h
    case h_2 => cases h
    rename_i v hvn
    rw [hv] at hx
    cases hm : a.eval x with
    | tuple ms =>
      rw [hm] at hx
      have hd := hx.tu_dr
      generalize hms : Value.tuple ms = q at hd
      cases hd with
      | tu _ us hr =>
        cases hms
        obtain ⟨m, h1, h2⟩ := hr.get hvn
        refine val_sound hs hn (m := m) ?_ (VR.of_dr h2) h
        unfold execOp; rw [hop]; simp [hm, Instr.extract, h1]
    | _ => rw [hm] at hx; exact absurd hx.tu_dr (by intro h; cases h)
  · split at h
    case isFalse => cases h
    rename_i hz
    split at h
    case h_2 => cases h
    rename_i hcap
    refine val_sound (v := .cl f (y.toList.map (rdv env))) hs hn (m := .func (.func f) #[] (y.map a.eval)) ?_ ?_ h
    · unfold execOp; rw [hop]
      have : x = #[] := by simpa using hz
      simp [Instr.makeFunc, this]
    · refine ⟨(y.map a.eval).toList, by rw [Array.toArray_toList], by simp, fun i v u hv hu => ?_⟩
      rw [List.getElem?_map] at hv
      obtain ⟨x', hx', rfl⟩ := Option.map_eq_some_iff.1 hv
      have hu : y.toList[i]?.map a.eval = some u := by simpa using hu
      rw [hx'] at hu
      cases hu
      have h1 := rdv_rel hs x'
      rw [List.all_eq_true] at hcap
      have h2 := hcap _ (List.mem_map.2 ⟨x', List.mem_of_getElem? hx', rfl⟩)
      generalize rdv env x' = q at h1 h2
      cases q <;> first
        | exact h1
        | (simp [isCap] at h2; done)
  · have hx := rdv_rel hs x
    split at h
    case h_2 => cases h
    rename_i i j hi hj
    have hu := hti.kind s i hi
    have hd := hti.kind d j hj
    split at h
    · rename_i k k' k'' n hki hkj hv
      rw [hv] at hx
      rw [hki] at hu
      rw [hkj] at hd
      simp only at hu hd
      refine val_sound hs hn (m := .int k' (k'.wrap n)) ?_ (wr_eq k' n ▸ VR.of_dr (.s _)) h
      unfold execOp; rw [hop]; simp [hx.sv, convert, run_underlying hu, run_underlying hd, Conv.intToInt]
    · rename_i b hki hkj hv
      rw [hv] at hx
      rw [hki] at hu
      rw [hkj] at hd
      simp only at hu hd
      refine val_sound hs hn (m := .string b) ?_ (VR.of_dr (.s _)) h
      unfold execOp; rw [hop]; simp [hx.sv, convert, run_underlying hu, run_underlying hd]
    · rename_i e xs hki hkj hv
      rw [hv] at hx
      rw [hki] at hu
      rw [hkj] at hd
      simp only at hu hd
      split at h
      case h_2 => cases h
      rename_i ie hie
      have he := hti.kind e ie hie
      split at h
      · rename_i hk
        rw [hk] at he
        cases hl : byL xs with
        | none => rw [hl] at h; cases h
        | some l =>
          rw [hl] at h
          have hr := bytes_run (P := P) hu he hd hl hx.sl_dr
          refine val_sound hs hn (m := .string (strOfNums l)) ?_ (VR.of_dr (.s _)) h
          unfold execOp
          rw [hop]
          simp [hr]
      · cases h
    · cases h
theorem len_sound (hti : TIok P C.ti) (hs : Sim NG GW io w0 pd0 G env a w) (hn : Nx NG GW io w0 pd0 K r next) {c : Call} (hop : o.op = .call c) (hc : c.callee = .builtin .len ∨ c.callee = .builtin .min) (h : vop C ops dr o env K = some r) : o.wp P a w next Q := by
  rcases hc with hc | hc <;> simp only [vop, hop, hc] at h
  · split at h
    case h_2 => cases h
    rename_i x t hargs hts
    have hx := rdv_rel hs x
    have hca : c.args = #[x] := by rw [← Array.toArray_toList (xs := c.args), hargs]
    have hct : c.argTypes = #[t] := by rw [← Array.toArray_toList (xs := c.argTypes), hts]
    split at h
    case h_2 => cases h
    rename_i i hi
    have hu := hti.kind t i hi
    split at h
    · rename_i b hk hv
      rw [hv] at hx
      rw [hk] at hu
      simp only at hu
      refine val_sound hs hn (m := .int .i64 b.size) ?_ (VR.of_dr (.s _)) h
      unfold execOp; rw [hop]
      simp [resolve, hc, hca, hct, invoke, builtin, Builtin.len_, run_underlying hu, hx.sv, goInt]
    · rename_i e xs hk hv
      rw [hv] at hx
      rw [hk] at hu
      simp only at hu
      obtain ⟨A, q, hm⟩ : ∃ A q, a.eval x = .slice A xs.length q := by
        rcases hx.sl_dr.sl_inv with ⟨rfl, A, c, hm⟩ | ⟨g, off, c, sz, ms, hm, hc, _⟩
        · exact ⟨A, c, hm⟩
        · exact ⟨_, c, hm⟩
      refine val_sound hs hn (m := .int .i64 xs.length) ?_ (VR.of_dr (.s _)) h
      unfold execOp; rw [hop]
      simp [resolve, hc, hca, hct, invoke, builtin, Builtin.len_, run_underlying hu, hm, goInt]
    · rename_i e u n hk hv
      rw [hv] at hx
      rw [hk] at hu
      simp only at hu
      have hm : a.eval x = .slice (some ⟨G.bl u, 0, none⟩) n n := hx
      refine val_sound hs hn (m := .int .i64 n) ?_ (VR.of_dr (.s _)) h
      unfold execOp; rw [hop]
      simp [resolve, hc, hca, hct, invoke, builtin, Builtin.len_, run_underlying hu, hm, goInt]
    · cases h
  · split at h
    case h_2 => cases h
    rename_i x y hargs
    have hx := rdv_rel hs x
    have hy := rdv_rel hs y
    have hca : c.args = #[x, y] := by rw [← Array.toArray_toList (xs := c.args), hargs]
    split at h
    case h_2 => cases h
    rename_i k n k' n' hvx hvy
    rw [hvx] at hx
    rw [hvy] at hy
    refine val_sound hs hn (m := .int k (if n' < n then n' else n)) ?_ (VR.of_dr (.s _)) h
    unfold execOp; rw [hop]
    simp [resolve, hc, hca, invoke, builtin, hx.sv, hy.sv, run_min_int2]
end
def blk : Value → Nat
  | .pointer (some a) => a.block
  | _ => 0
def ioB : List VV → List Value → List Nat
  | .bx _ :: vs, m :: ms => blk m :: ioB vs ms
  | _ :: vs, _ :: ms => ioB vs ms
  | _, _ => []
def ArgR (H : Gh) (w : World) : VV → Value → Prop
  | .bx cs, m => ∃ (g : Nat) (us : List Value) (ty : TypeId), m = .pointer (some ⟨g, 0, none⟩) ∧ w.heap[g]? = some (.cells us.toArray ty (0, 0)) ∧ DRs H.pd w cs us ∧ (∀ u ∈ us, u.oneCell' = true) ∧ ∀ k, ¬ H.pd g k
  | .vw cs, m => ViewR H w cs m
  | .cl f cap, m => ∃ ms : List Value, m = .func (.func f) #[] ms.toArray ∧ cap.length = ms.length ∧ ∀ (i : Nat) v u, cap[i]? = some v → ms[i]? = some u → ∃ cs, v = .vw cs ∧ ViewR H w cs u
  | .pt _ _, _ => False
  | .sr _ _, _ => False
  | .pe _ _ _, _ => False
  | .ow _ _ _, _ => False
  | .nl, _ => False
  | .mr _ _ _, _ => False
  | v, m => DR H.pd w v m
def ResR (B : Nat) (pd : Nat → Nat → Prop) (w : World) : VV → Value → Prop
  | .ow e z xs, m => ∃ ms : List Value, w.ownsRow B e z m xs.length ms ∧ DRs pd w (xs.flatMap VV.cells) ms ∧ (∀ x ∈ xs, x.cells.length = z) ∧ (∀ u ∈ ms, u.oneCell' = true) ∧ xs.length ≤ maxLen ∧ ∀ g, m.ownBlock = some g → ∀ k, pd g k ↔ k < xs.length * z
  | .nl, m => m = .slice none 0 0
  | v, m => DR pd w v m
def Post (H : Gh) (w : World) (io : List Nat) (r : VV × List VV) (m : Value) (w' : World) : Prop :=
  Fr io w.heap.size w w' ∧ ∃ pd' : Nat → Nat → Prop, (∀ g k, g < w.heap.size → pd' g k → H.pd g k) ∧ ResR w.heap.size pd' w' r.1 m ∧ r.2.length = io.length ∧
    ∀ (j g : Nat) v, io[j]? = some g → r.2[j]? = some v → ∃ (cs : List VV) (us : List Value) (ty : TypeId), v = .bx cs ∧ w'.heap[g]? = some (.cells us.toArray ty (0, 0)) ∧ DRs pd' w' cs us ∧ ∀ u ∈ us, u.oneCell' = true
def FnOk (P : Program) (f : FuncId) : Prop := ∃ fn, P.funcs[f]? = some fn ∧ (fn.name == "runtime.NumGoroutine") = false ∧ fn.body.isSome = true
def CallOk1 (P : Program) (NG : Nat) (GW : World → Prop) (f : FuncId) (vs : List VV) (r : VV × List VV) : Prop :=
  FnOk P f ∧ ∀ (w : World) (ms : List Value) (H : Gh), GW w → NG ≤ w.heap.size → vs.length = ms.length → (∀ (i : Nat) v m, vs[i]? = some v → ms[i]? = some m → ArgR H w v m) → (ioB vs ms).Nodup → (∀ g ∈ ioB vs ms, NG ≤ g) → (∀ g k, H.pv g k → g ∉ ioB vs ms) → (∀ g k, H.pd g k → H.pv g k) →
    Calls P f ms.toArray w fun e w' => ∃ m, e = .returned m ∧ Post H w (ioB vs ms) r m w'
def CallOk (P : Program) (NG : Nat) (GW : World → Prop) (call : FuncId → List VV → Option (VV × List VV)) : Prop := ∀ f vs r, vs.all argOk = true → call f vs = some r → CallOk1 P NG GW f vs r
def argOf (env : Env) (x : Operand) : VV := match rdv env x with
  | .pt t 0 => (match get env t with
    | .bx cs => .bx cs
    | _ => .un)
  | .pt _ (_ + 1) => .un
  | .cl f cap => .cl f (cap.map (capv env))
  | v => v
def ioOf (env : Env) (x : Operand) : List Nat := match rdv env x with
  | .pt t 0 => (match get env t with
    | .bx _ => [t]
    | _ => [])
  | _ => []
theorem argv_eq {α : Type} (env : Env) : ∀ (l : List Operand) (k : List VV → List Nat → α), argv env l k = k (l.map (argOf env)) (l.flatMap (ioOf env))
  | [], k => rfl
  | x :: r, k => by
    simp only [argv, List.map_cons, List.flatMap_cons]
    unfold argOf ioOf
    generalize rdv env x = v
    cases v <;> first
      | (simp only [argv_eq env r, frcL_eq]; rfl)
      | (rename_i t o
         cases o with
         | zero =>
           simp only
           generalize get env t = q
           cases q <;> simp only [argv_eq env r] <;> rfl
         | succ n => simp only [argv_eq env r]; rfl)
theorem capK_eq {α : Type} : ∀ (l cap : List VV) (k : List VV → α), capK l cap k = k (l ++ cap)
  | [], _, _ => rfl
  | v :: r, cap, k => by rw [capK, capK_eq r]; rfl
theorem backsK_eq {R : Type} {K : Env → Option R} : ∀ (env : Env) (io : List Nat) (vs : List VV), backsK env io vs K = K (backs env io vs)
  | env, t :: ts, v :: vs => by rw [backsK, vset_eq, backsK_eq]; rfl
  | env, [], _ => by simp [backsK, backs]
  | env, _ :: _, [] => by simp [backsK, backs]
theorem backs_len : ∀ (io : List Nat) (vs : List VV) (env : Env), (backs env io vs).length = env.length
  | t :: ts, v :: vs, env => by rw [backs, backs_len ts vs]; simp
  | [], _, _ => by simp [backs]
  | _ :: _, [], _ => by simp [backs]
theorem backs_get : ∀ (io : List Nat) (vs : List VV) (env : Env) (t : Nat) (v : VV), vs.length = io.length → (backs env io vs)[t]? = some v → (∃ j : Nat, io[j]? = some t ∧ vs[j]? = some v) ∨ (t ∉ io ∧ env[t]? = some v)
  | t0 :: ts, v0 :: vs, env, t, v, hl, h => by
    rcases backs_get ts vs (env.set t0 v0) t v (by simpa using hl) h with ⟨j, h1, h2⟩ | ⟨h1, h2⟩
    · exact .inl ⟨j + 1, by simpa using h1, by simpa using h2⟩
    · rw [List.getElem?_set] at h2
      by_cases e : t0 = t
      · subst e
        rw [if_pos rfl] at h2
        split at h2
        · cases h2; exact .inl ⟨0, rfl, rfl⟩
        · cases h2
      · rw [if_neg e] at h2
        exact .inr ⟨by simp [h1]; exact fun h => e h.symm, h2⟩
  | [], vs, env, t, v, hl, h => .inr ⟨by simp, by simpa [backs] using h⟩
  | _ :: _, [], env, t, v, hl, h => by simp at hl
section
variable {P : Program} {NG : Nat} {GW : World → Prop} {io : List Nat} {w0 : World} {pd0 : Nat → Nat → Prop} {G G' : Gh} {env : Env} {a : Act} {w w' : World}
variable {R : Type} {K : Env → Option R} {r : R} {next : Act → World → Prop} {Q : Exit → Act → World → Prop} {o : Oper} {C : Cx} {ops : List Oper} {dr : Option (List Nat)}
theorem nodupB_ok : ∀ {l : List Nat}, nodupB l = true → l.Nodup
  | [], _ => .nil
  | a :: r, h => by
    simp only [nodupB, Bool.and_eq_true] at h
    refine List.nodup_cons.2 ⟨fun hm => ?_, nodupB_ok h.2⟩
    have h1 := h.1
    simp at h1
    exact h1 a hm rfl
theorem nodup_map {f : Nat → Nat} : ∀ {l : List Nat}, (∀ t ∈ l, ∀ u ∈ l, f t = f u → t = u) → l.Nodup → (l.map f).Nodup
  | [], _, _ => .nil
  | a :: r, h, hn => by
    obtain ⟨h1, h2⟩ := List.nodup_cons.1 hn
    rw [List.map_cons]
    refine List.nodup_cons.2 ⟨fun hm => ?_, nodup_map (fun t ht u hu => h t (by simp [ht]) u (by simp [hu])) h2⟩
    obtain ⟨b, hb, he⟩ := List.mem_map.1 hm
    exact h1 (h b (by simp [hb]) a (by simp) he ▸ hb)
theorem io_box (hs : Sim NG GW io w0 pd0 G env a w) : ∀ (l : List Operand), (∀ t ∈ l.flatMap (ioOf env), ∃ cs, get env t = .bx cs) ∧ ioB (l.map (argOf env)) (l.map a.eval) = (l.flatMap (ioOf env)).map G.bl
  | [] => ⟨by simp, rfl⟩
  | x :: r => by
    obtain ⟨h1, h2⟩ := io_box hs r
    have hx := rdv_rel hs x
    simp only [List.map_cons, List.flatMap_cons]
    have hcase : (ioOf env x = [] ∧ ∀ cs, argOf env x ≠ .bx cs) ∨ ∃ t cs, ioOf env x = [t] ∧ get env t = .bx cs ∧ argOf env x = .bx cs ∧ a.eval x = .pointer (some ⟨G.bl t, 0, none⟩) := by
      unfold argOf ioOf
      generalize rdv env x = v at hx
      cases v <;> first
        | (exact hx.elim)
        | (exact .inl ⟨rfl, fun cs e => VV.noConfusion e⟩)
        | (rename_i t o'
           cases o' with
           | zero =>
             simp only
             cases hq : get env t <;> first
               | (exact .inl ⟨rfl, fun cs e => VV.noConfusion e⟩)
               | (exact .inr ⟨t, _, rfl, hq, rfl, hx.pt_eq⟩)
           | succ n => exact .inl ⟨rfl, fun cs e => VV.noConfusion e⟩)
    rcases hcase with ⟨e1, e2⟩ | ⟨t, cs, e1, e2, e3, e4⟩
    · rw [e1]
      refine ⟨by simpa using h1, ?_⟩
      rw [List.nil_append, ← h2]
      generalize argOf env x = z at e2
      cases z <;> first
        | rfl
        | exact absurd rfl (e2 _)
    · rw [e1, e3, e4]
      refine ⟨?_, ?_⟩
      · intro u hu
        rcases List.mem_append.1 hu with hu | hu
        · simp at hu; subst hu; exact ⟨cs, e2⟩
        · exact h1 u hu
      · simp only [ioB, List.cons_append, List.nil_append, List.map_cons]
        rw [h2]; rfl
theorem box_of (hs : Sim NG GW io w0 pd0 G env a w) {t : Nat} {cs : List VV} (h : get env t = .bx cs) : BoxR G w t cs (a.eval (.tmp t)) := by have := get_slot hs t; rw [h] at this; exact this
theorem ioB_app : ∀ (vs : List VV) (ms : List Value) (cap : List VV) (us : List Value), vs.length = ms.length → (∀ v ∈ cap, ∀ cs, v ≠ .bx cs) → ioB (vs ++ cap) (ms ++ us) = ioB vs ms
  | [], [], cap, us, _, h => by
    simp only [List.nil_append]
    induction cap generalizing us with
    | nil => rfl
    | cons v cap ih =>
      cases us with
      | nil => cases v <;> simp [ioB]
      | cons u us =>
        have := h v (by simp)
        cases v <;> first
          | (simp only [ioB]; exact ih us (fun x hx => h x (by simp [hx])))
          | exact absurd rfl (this _)
  | v :: vs, m :: ms, cap, us, hl, h => by
    simp only [List.cons_append]
    cases v <;> simp only [ioB] <;> rw [ioB_app vs ms cap us (by simpa using hl) h]
  | [], _ :: _, _, _, hl, _ => by simp at hl
  | _ :: _, [], _, _, hl, _ => by simp at hl
theorem call_sound (gws : ∀ w w', GW w → Below NG w w' → GW w') (hC : CallOk P NG GW C.call) (hs : Sim NG GW io w0 pd0 G env a w) (hn : Nx NG GW io w0 pd0 K r next) {c : Call} (hop : o.op = .call c) {x : Operand} (hc : c.callee = .value x) (h : vop C ops dr o env K = some r) : o.wp P a w next Q := by
  have hx := rdv_rel hs x
  simp only [vop, hop, hc] at h
  split at h
  case h_2 => cases h
  rename_i f cap hv
  rw [hv] at hx
  split at h
  · cases h
  rw [argv_eq, frcL_eq, capK_eq] at h
  obtain ⟨cms, hm, hcl, hcap⟩ := (hx : SlotR G w 0 (.cl f cap) (a.eval x))
  let ios := c.args.toList.flatMap (ioOf env)
  let vs := c.args.toList.map (argOf env) ++ cap.map (capv env)
  let ms := c.args.toList.map a.eval ++ cms
  obtain ⟨hbox, hioB0⟩ := io_box hs c.args.toList
  unfold vcall at h
  split at h
  case h_2 => cases h
  rename_i hok
  rw [Bool.and_eq_true, Bool.and_eq_true] at hok
  obtain ⟨⟨hargs, hnd⟩, hcl'⟩ := hok
  have hnd := nodupB_ok hnd
  have hob : ∃ q, C.call f vs = some q ∧ (match resOk q.1 with
      | true => backsK env ios q.2 fun env' => vput dr o.dst q.1 env' K
      | false => none) = some r := by
    unfold obind at h
    split at h
    · exact ⟨_, by assumption, h⟩
    · cases h
  obtain ⟨q, hcall, h⟩ := hob
  split at h
  case h_2 => cases h
  rename_i hres
  rw [backsK_eq] at h
  have hK := vput_some h
  obtain ⟨⟨fn, hfn, hname, hbody⟩, hcontract⟩ := hC f vs q hargs hcall
  have hcapbx : ∀ v ∈ cap.map (capv env), ∀ cs, v ≠ .bx cs := by
    intro v hv cs e
    rw [List.all_eq_true] at hargs
    subst e
    obtain ⟨y, hy, he⟩ := List.mem_map.1 hv
    obtain ⟨i, hi, rfl⟩ := List.getElem_of_mem hy
    have hu := hcap i cap[i] cms[i] (List.getElem?_eq_getElem hi) (List.getElem?_eq_getElem (by omega))
    generalize cap[i] = z at he hu
    cases z <;> simp only [capv] at he <;> first
      | (cases he; done)
      | (split at he <;> cases he; done)
      | exact hu.elim
  have hioB : ioB vs ms = ios.map G.bl := by
    rw [ioB_app _ _ _ _ (by simp) hcapbx]; exact hioB0
  have hinj : ∀ t ∈ ios, ∀ u ∈ ios, G.bl t = G.bl u → t = u := by
    intro t ht u hu e
    obtain ⟨cs, h1⟩ := hbox t ht
    obtain ⟨cs', h2⟩ := hbox u hu
    obtain ⟨_, _, _, _, o1, _⟩ := box_of hs h1
    obtain ⟨_, _, _, _, o2, _⟩ := box_of hs h2
    rw [e, o2] at o1
    exact (congrArg Prod.fst (Option.some.inj o1)).symm
  let H : Gh := ⟨fun g k => G.pd g k ∧ g < w.heap.size, fun g k => g < w.heap.size ∧ g ∉ ios.map G.bl, G.bl, G.own, w.heap.size⟩
  have hnpd : ∀ g k, G.pd g k → g ∉ ios.map G.bl := by
    intro g k hk hg
    obtain ⟨t, ht, rfl⟩ := List.mem_map.1 hg
    obtain ⟨cs, h1⟩ := hbox t ht
    obtain ⟨_, _, _, _, _, hnp, _⟩ := box_of hs h1
    exact hnp k hk
  have hkH : ∀ {v m}, DR G.pd w v m → DR H.pd w v m := fun h => h.keep fun g k m h1 h2 => ⟨⟨h1, World.block_lt_of_cell? w _ h2⟩, h2⟩
  have hkHs : ∀ {v m}, DRs G.pd w v m → DRs H.pd w v m := fun h => h.keep fun g k m h1 h2 => ⟨⟨h1, World.block_lt_of_cell? w _ h2⟩, h2⟩
  have hviewG : ∀ {cs m}, ViewR G w cs m → (∀ g k, G.pv g k → g < w.heap.size → g ∉ ios.map G.bl) → ViewR H w cs m := by
    intro cs m ⟨g, off, us, hm, hr, h1, hcc⟩ hio
    exact ⟨g, off, us, hm, hkHs hr, h1, fun k u hu => ⟨(hcc k u hu).1, World.block_lt_of_cell? w _ (hcc k u hu).1, hio _ _ (hcc k u hu).2 (World.block_lt_of_cell? w _ (hcc k u hu).1)⟩⟩
  have hpvio : ∀ g k, G.pv g k → g < w.heap.size → g ∉ ios.map G.bl := by
    intro g k hk _ hg
    obtain ⟨t, ht, rfl⟩ := List.mem_map.1 hg
    obtain ⟨cs, h1⟩ := hbox t ht
    obtain ⟨_, _, _, _, ho, hnp, _⟩ := box_of hs h1
    exact hnp k (hs.ownp _ k (by rw [ho]; simp) hk)
  have hcapv : ∀ z u, CapR G w z u → (ios = []) → ∀ cs, capv env z = .vw cs → ViewR H w cs u := by
    intro z u hz hio cs he
    cases z <;> simp only [capv] at he <;> first
      | (cases he; exact hviewG hz hpvio)
      | exact hz.elim
      | skip
    rename_i t o'
    split at he
    case h_2 => cases he
    rename_i bs hb
    cases he
    obtain ⟨us, ty, hpm, hh, ho, hnp, hl, hcr, h1⟩ := box_of hs hb
    have hu : u = .pointer (some ⟨G.bl t, o', none⟩) := hz
    subst hu
    have hr : DRs G.pd w (bs.map VV.dv) us := .of (by simp [hl]) fun k v m hv hm => by
      rw [List.getElem?_map] at hv
      obtain ⟨y, hy, rfl⟩ := Option.map_eq_some_iff.1 hv
      exact (hcr k y m hy hm).data
    refine ⟨G.bl t, o', us.drop o', rfl, hkHs (hr.drop o'), fun x hx => h1 x (List.mem_of_mem_drop hx), fun k x hx => ?_⟩
    rw [List.getElem?_drop] at hx
    exact ⟨by rw [box_cell hh]; exact hx, (hs.own _ _ ho).1, by rw [hio]; simp⟩
  have hargR : ∀ (i : Nat) v m, vs[i]? = some v → ms[i]? = some m → ArgR H w v m := by
    intro i v m hv hm'
    have hvok : argOk v = true := by rw [List.all_eq_true] at hargs; exact hargs v (List.mem_of_getElem? hv)
    by_cases hi : i < c.args.toList.length
    · rw [List.getElem?_append_left (by simpa using hi), List.getElem?_map] at hv
      rw [List.getElem?_append_left (by simpa using hi), List.getElem?_map] at hm'
      obtain ⟨y, hy, rfl⟩ := Option.map_eq_some_iff.1 hv
      rw [hy] at hm'
      cases hm'
      have hyr := rdv_rel hs y
      have hnocl : ∀ f' cap', argOf env y = .cl f' cap' → cap' ≠ [] → ios = [] := by
        intro f' cap' he hne
        rw [Bool.or_eq_true] at hcl'
        rcases hcl' with h1 | h1
        · exact List.isEmpty_iff.1 h1
        · rw [Bool.and_eq_true, List.all_eq_true] at h1
          have := h1.2 (argOf env y) (List.mem_append_left _ (List.mem_map.2 ⟨y, List.mem_of_getElem? hy, rfl⟩))
          rw [he] at this
          simp [noCl] at this
          exact absurd this hne
      have hrest : ∀ z, argOf env y = z → ArgR H w z (a.eval y) := by
        intro z hz
        unfold argOf at hz
        generalize hq : rdv env y = q at hyr hz
        cases q <;> (try simp only at hz) <;> first
          | (subst hz; exact hyr.elim)
          | (subst hz; exact hkH hyr)
          | (subst hz; exact hviewG hyr hpvio)
          | (subst hz; rw [argOf, hq] at hvok; simp [argOk] at hvok; done)
          | skip
        · rename_i t o'
          cases o' with
          | zero =>
            simp only at hz
            cases hg : get env t <;> rw [hg] at hz <;> simp only at hz <;> subst hz <;> first
              | exact DR.un _
              | (rename_i cs
                 obtain ⟨us, ty, hpm, hh, ho, hnp, hl, hcr, h1⟩ := box_of hs hg
                 rw [argOf, hq] at hvok
                 simp only [hg, argOk, List.all_eq_true] at hvok
                 refine ⟨G.bl t, us, ty, hyr.pt_eq, hh, hkHs (.of hl fun k v m hv hm => ?_), h1, fun k hk => hnp k hk.1⟩
                 have h2 := hcr k v m hv hm
                 have h3 := hvok v (List.mem_of_getElem? hv)
                 cases v <;> first
                   | exact h2
                   | (simp [dataC] at h3; done))
          | succ n => simp only at hz; subst hz; exact DR.un _
        · rename_i f' cap'
          subst hz
          obtain ⟨us, hu, hl, hcc⟩ := (hyr : SlotR G w 0 (.cl f' cap') (a.eval y))
          refine ⟨us, hu, by simpa using hl, fun k z u hz hu' => ?_⟩
          rw [List.getElem?_map] at hz
          obtain ⟨p, hp, rfl⟩ := Option.map_eq_some_iff.1 hz
          rw [argOf, hq] at hvok
          simp only [argOk, List.all_eq_true] at hvok
          have h3 := hvok _ (List.mem_map.2 ⟨p, List.mem_of_getElem? hp, rfl⟩)
          have hio := hnocl f' (cap'.map (capv env)) (by rw [argOf, hq]) (by intro e; have := List.map_eq_nil_iff.1 e; rw [this] at hp; simp at hp)
          cases hcv : capv env p <;> rw [hcv] at h3 <;> simp at h3
          exact ⟨_, rfl, hcapv p u (hcc k p u hp hu') hio _ hcv⟩
      exact hrest _ rfl
    · rw [List.getElem?_append_right (by simpa using hi), List.getElem?_map] at hv
      rw [List.getElem?_append_right (by simpa using hi)] at hm'
      simp only [List.length_map] at hv hm'
      obtain ⟨p, hp, rfl⟩ := Option.map_eq_some_iff.1 hv
      have hcr := hcap _ p m hp hm'
      have hio : ios = [] := by
        rw [Bool.or_eq_true] at hcl'
        rcases hcl' with h1 | h1
        · exact List.isEmpty_iff.1 h1
        · exfalso
          rw [Bool.and_eq_true, List.all_eq_true] at h1
          have := h1.2 (capv env p) (List.mem_append_right _ (List.mem_map.2 ⟨p, List.mem_of_getElem? hp, rfl⟩))
          cases p <;> first
            | exact hcr.elim
            | (simp [capv, noCl] at this; done)
            | (simp only [capv] at this hvok
               split at this
               · simp [noCl] at this
               · rename_i hnb; rename_i x1 x2
                 cases hgg : get env x1 <;> simp [capv, hgg, argOk] at hvok)
      cases hcv : capv env p with
      | vw cs => exact hcapv p m hcr hio cs hcv
      | _ =>
        exfalso
        cases p <;> simp only [capv] at hcv <;> first
          | exact hcr.elim
          | (cases hcv; done)
          | (split at hcv <;> cases hcv <;> simp_all [capv, argOk])
  have hcall2 := hcontract w ms H hs.gw (Nat.le_trans hs.ng hs.fr.size) (by simp [vs, ms, hcl]) hargR (by
      rw [hioB]
      exact nodup_map hinj hnd) (by
      rw [hioB]
      intro g hg
      obtain ⟨t, ht, rfl⟩ := List.mem_map.1 hg
      obtain ⟨cs, h1⟩ := hbox t ht
      obtain ⟨_, _, _, _, ho, _⟩ := box_of hs h1
      rcases (hs.own _ _ ho).2 with h | h
      · exact Nat.le_trans hs.ng h
      · exact hs.ngio _ h) (by rw [hioB]; exact fun g k hk => hk.2) (fun g k hk => ⟨hk.2, hnpd g k hk.1⟩)
  rw [hioB] at hcall2
  have hex : (execOp a.eval o).run P w = .ok (.enter f ms.toArray) w := by
    unfold execOp
    rw [hop]
    simp only [resolve, hc, Sem.run_bind, hm, Deferred.ofValue]
    have hms : ms.toArray = c.args.map a.eval ++ cms.toArray := by
      apply Array.toList_inj.1
      simp [ms]
    rw [hms]
    obtain ⟨b, hbd⟩ := Option.isSome_iff_exists.1 hbody
    have hname' : ¬ fn.name = "runtime.NumGoroutine" := by simpa using hname
    simp [invoke, callFunc, hfn, hname', hbd]
  unfold Oper.wp
  rw [hex]
  refine hcall2.mono fun e w'' ⟨m, he, hpost⟩ => ?_
  subst he
  show next (a.put o.dst m) w''
  obtain ⟨hfr, pdr, hpd1, hresR, hol, houts⟩ := hpost
  let d := o.dst.getD 0
  let G' : Gh := ⟨fun g k => G.pd g k ∧ g < w.heap.size ∨ (w.heap.size ≤ g ∧ pdr g k), fun g k => G.pv g k ∧ g < w.heap.size ∨ (w.heap.size ≤ g ∧ pdr g k), G.bl, fun g => if m.ownBlock = some g ∧ w.heap.size ≤ g then (match q.1 with
    | .ow _ _ _ => some (d, 0)
    | _ => none) else (if g < w.heap.size then G.own g else none), G.B⟩
  have hsame : ∀ g k, g < w.heap.size → g ∉ ios.map G.bl → w''.cell? ⟨g, k, none⟩ = w.cell? ⟨g, k, none⟩ := fun g k h1 h2 => World.cell?_of_block (hfr.block g h1 h2)
  have E : Evo G w G' w'' (fun t => t ∈ ios) (fun _ => False) := by
    refine ⟨fun g k v h1 h2 => ?_, fun g k v h1 h2 => ?_, ?_, fun _ _ => rfl, rfl⟩
    · have hlt : g < w.heap.size := World.block_lt_of_cell? w _ h2
      exact ⟨.inl ⟨h1, hlt⟩, by rw [hsame g k hlt (hnpd g k h1)]; exact h2⟩
    · have hlt : g < w.heap.size := World.block_lt_of_cell? w _ h2
      exact ⟨.inl ⟨h1, hlt⟩, by rw [hsame g k hlt (hpvio g k h1 hlt)]; exact h2⟩
    · intro g t j ob h1 h2 h3
      have hlt := (Array.getElem?_eq_some_iff.1 h2).1
      have hnio : g ∉ ios.map G.bl := by
        intro hg
        obtain ⟨t', ht', rfl⟩ := List.mem_map.1 hg
        obtain ⟨cs, hb⟩ := hbox t' ht'
        obtain ⟨_, _, _, _, ho, _⟩ := box_of hs hb
        rw [ho] at h1
        have e : t' = t := congrArg Prod.fst (Option.some.inj h1)
        exact h3 (e ▸ ht')
      refine ⟨(hfr.block g hlt hnio).trans h2, ?_, fun k => ?_⟩
      · simp only [G']
        rw [if_neg (fun h => by omega), if_pos hlt]; exact h1
      · simp only [G']
        exact ⟨fun h => h.elim (fun h => h.1) (fun h => by omega), fun h => .inl ⟨h, hlt⟩⟩
  have hkd : ∀ {v u}, DR pdr w'' v u → DR G'.pd w'' v u := fun h => h.keep fun g k x h1 h2 => ⟨by
    by_cases hg : g < w.heap.size
    · exact .inl (hpd1 g k hg h1)
    · exact .inr ⟨by omega, h1⟩, h2⟩
  have hkds : ∀ {v u}, DRs pdr w'' v u → DRs G'.pd w'' v u := fun h => h.keep fun g k x h1 h2 => ⟨by
    by_cases hg : g < w.heap.size
    · exact .inl (hpd1 g k hg h1)
    · exact .inr ⟨by omega, h1⟩, h2⟩
  have hge : ∀ t ∈ ios, ∀ k, k = G.bl t → w0.heap.size ≤ k ∨ k ∈ io := by
    intro t ht k hk
    obtain ⟨cs, hb⟩ := hbox t ht
    obtain ⟨_, _, _, _, ho, _⟩ := box_of hs hb
    subst hk
    exact (hs.own _ _ ho).2
  have hsim : Sim NG GW io w0 pd0 G' (backs env ios q.2) a w'' := by
    refine hs.evo E (backs_len _ _ _) ?_ ?_ ?_ ?_ ?_ ?_ ?_
    · intro t v u hv hu
      rcases backs_get ios q.2 env t v (by rw [hol]; simp) hv with ⟨j, h1, h2⟩ | ⟨h1, h2⟩
      · obtain ⟨cs, us, ty, rfl, hh, hr, h1c⟩ := houts j (G.bl t) v (by rw [List.getElem?_map, h1]; rfl) h2
        have ht : t ∈ ios := List.mem_of_getElem? h1
        obtain ⟨cs0, hb⟩ := hbox t ht
        obtain ⟨us0, ty0, hpm, hh0, ho, hnp, hl0, hcr0, _⟩ := box_of hs hb
        have hlt := (hs.own _ _ ho).1
        refine .inr ⟨us, ty, ?_, hh, ?_, ?_, hr.length, fun i v u hv hu => ?_, h1c⟩
        · have hq : a.eval (.tmp t) = u := by
            obtain ⟨hlt', rfl⟩ := Array.getElem?_eq_some_iff.1 hu
            simp [Act.eval, hlt']
          rw [← hq]; exact hpm
        · simp only [G']; rw [if_neg (fun h => by omega), if_pos hlt]; exact ho
        · intro k hk
          rcases hk with hk | hk
          · exact hnp k hk.1
          · exact absurd hk.1 (by show ¬ w.heap.size ≤ G.bl t; omega)
        · have h3 := hkd (hr.at hv hu)
          cases v <;> first
            | exact h3
            | (cases h3)
      · exact .inl ⟨v, h2, rfl, h1, id, fun _ h => h.elim⟩
    · refine ⟨hfr.os.trans hs.fr.os, hfr.tape.trans hs.fr.tape, hfr.output.trans hs.fr.output, Nat.le_trans hs.fr.size hfr.size, fun k h1 h2 => ?_⟩
      rw [hfr.block k (by have := hs.fr.size; omega) (fun hk => by
        obtain ⟨t, ht, e⟩ := List.mem_map.1 hk
        rcases hge t ht k e.symm with h | h
        · omega
        · exact h2 h)]
      exact hs.fr.block k h1 h2
    · refine gws _ _ hs.gw ⟨hfr.os, hfr.tape, hfr.output, hfr.size, fun k hk => hfr.block k (by have := hs.ng; have := hs.fr.size; omega) (fun hk' => ?_)⟩
      obtain ⟨t, ht, e⟩ := List.mem_map.1 hk'
      rcases hge t ht k e.symm with h | h
      · have := hs.ng; omega
      · have := hs.ngio _ h; omega
    · intro g p hg
      simp only [G'] at hg
      split at hg
      · rename_i hb
        refine ⟨?_, .inl (by have := hs.fr.size; omega)⟩
        have := hresR
        cases hq1 : q.1 <;> rw [hq1] at hg hresR <;> simp at hg
        obtain ⟨us, ho, _⟩ := hresR
        exact (ho.lt g hb.1).2
      · split at hg
        · have := hs.own g p hg
          exact ⟨Nat.lt_of_lt_of_le this.1 hfr.size, this.2⟩
        · cases hg
    · intro g k hg hk
      rcases hk with hk | hk
      · left
        refine ⟨hs.ownp g k ?_ hk.1, hk.2⟩
        simp only [G'] at hg
        rw [if_neg (fun h => by omega), if_pos hk.2] at hg
        exact hg
      · exact .inr hk
    · intro g k hk
      rcases hk with hk | hk
      · exact .inl ⟨hs.dv g k hk.1, hk.2⟩
      · exact .inr hk
    · intro g k h1 hk
      rcases hk with hk | hk
      · exact hs.old g k h1 hk.1
      · have := hs.fr.size; omega
  refine hn G' _ _ _ (hsim.put o.dst fun d' hd' => ?_) hK
  have hdd : d = d' := by simp [d, hd']
  cases hq1 : q.1 <;> rw [hq1] at hresR hres <;> simp [resOk] at hres <;> first
    | exact hkd hresR
    | exact hresR
    | skip
  obtain ⟨us, ho, hr, hz, h1, hl, hpg⟩ := hresR
  refine ⟨us, ?_, hkds hr, hz, h1, hl, fun g hg => ?_⟩
  · refine ⟨ho.1, ?_⟩
    rcases ho.2 with hnil | ⟨g, cap, cur, e1, e2, e3⟩
    · exact .inl hnil
    · exact .inr ⟨g, cap, cur, e1, by show G.B ≤ g; rw [hs.B]; have := hs.fr.size; omega, e3⟩
  · have hgl := (ho.lt g hg).1
    refine ⟨?_, fun k => ?_⟩
    · simp only [G']; rw [if_pos ⟨hg, hgl⟩, hq1, hdd]
    · simp only [G']
      rw [← hpg g hg k]
      exact ⟨fun h => h.elim (fun h => by omega) (fun h => h.2), fun h => .inr ⟨hgl, h⟩⟩
end
end Go.Proofs.YtcfeihimmboghaaGreatDoor.VI

end
