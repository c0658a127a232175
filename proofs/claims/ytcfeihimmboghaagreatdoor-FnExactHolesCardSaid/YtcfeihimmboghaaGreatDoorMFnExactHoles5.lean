/- A part of the proof that the law FnExactHoles answers true at every input that its row speaks of. Conditions: the row's own. -/
import Derived.Test.YtcfeihimmboghaaGreatDoorMFnExactHoles4
import Derived.Laws.Small
import Derived.Great.BuildSlice
section
namespace Go.Proofs.YtcfeihimmboghaaGreatDoor.VI
open Go Go.RowKit
set_option linter.unusedVariables false
set_option linter.unusedSimpArgs false
section
variable {P : Program} {NG : Nat} {GW : World → Prop} {io : List Nat} {w0 : World} {pd0 : Nat → Nat → Prop} {G G' : Gh} {env : Env} {a : Act} {w w' : World} {ti : TypeId → Option TI}
theorem DRs.drew {pd : Nat → Nat → Prop} {vs : List VV} {ms : List Value} (h : DRs pd w vs ms) : DRs pd w.drew vs ms := DRs.keep (w := w) (w' := w.drew) (pd' := pd) (fun _ _ _ h1 h2 => ⟨h1, h2⟩) h
theorem Sim.drew (hs : Sim NG GW io w0 pd0 G env a w) (gws : ∀ w w', GW w → Below NG w w' → GW w') : Sim NG GW io w0 pd0 G env a w.drew := by
  have E : Evo G w G w.drew (fun _ => False) (fun _ => False) := ⟨fun _ _ _ h1 h2 => ⟨h1, h2⟩, fun _ _ _ h1 h2 => ⟨h1, h2⟩, fun _ _ _ _ h1 h2 _ => ⟨h2, h1, fun _ => Iff.rfl⟩, fun _ _ => rfl, rfl⟩
  refine hs.evo E rfl (fun t v m hv hm => .inl ⟨v, hv, rfl, id, id, fun _ h => h.elim⟩) ⟨hs.fr.os, hs.fr.tape, hs.fr.output, hs.fr.size, hs.fr.block⟩ (gws _ _ hs.gw ((Below.refl NG w).drew)) hs.own hs.ownp hs.dv hs.old
theorem OwnR.nil {p : Nat × Nat} {e : TypeId} {sz : Nat} : OwnR G w p e sz [] (.slice none 0 0) :=
  ⟨[], World.ownsRow_nil w _ e sz, .nil, fun x h => (by cases h), fun u h => (by cases h), Nat.zero_le _, fun g h => (by simp [Value.ownBlock] at h)⟩
theorem Sim.row (hs : Sim NG GW io w0 pd0 G env a w) (gws : ∀ w w', GW w → Below NG w w' → GW w') (p : Nat × Nat) {e : TypeId} {sz cap : Nat} {xs : List VV} {ms : List Value} {cur : Array Value}
    (hcs : cur.size = cap * sz) (htk : cur.toList.take (xs.length * sz) = ms) (hl : ms.length = xs.length * sz) (hc : xs.length ≤ cap) (hm : cap ≤ maxLen) (hr : DRs G.pd w (xs.flatMap VV.cells) ms) (hz : ∀ x ∈ xs, x.cells.length = sz) (h1 : ∀ u ∈ ms, u.oneCell' = true) :
    ∃ G', Sim NG GW io w0 pd0 G' env a (w.alloc (.cells cur e)) ∧ OwnR G' (w.alloc (.cells cur e)) p e sz xs (.slice (some ⟨w.heap.size, 0, none⟩) xs.length cap) := by
  let g := w.heap.size
  let G' : Gh := ⟨fun x k => if x = g then k < xs.length * sz else G.pd x k, fun x k => if x = g then k < xs.length * sz else G.pv x k, G.bl, fun x => if x = g then some p else G.own x, G.B⟩
  have hlt : ∀ x k m, w.cell? ⟨x, k, none⟩ = some m → x ≠ g := fun x k m h e => by have := World.block_lt_of_cell? w _ h; simp only [g] at e; simp at this; omega
  have hkeep : ∀ x k m, w.cell? ⟨x, k, none⟩ = some m → (w.alloc (.cells cur e)).cell? ⟨x, k, none⟩ = some m := fun x k m h => by
    rw [World.cell?_of_block (hao_ w _ x (by have := World.block_lt_of_cell? w _ h; simpa using this))]; exact h
  have hd : ∀ x k m, G.pd x k → w.cell? ⟨x, k, none⟩ = some m → G'.pd x k ∧ (w.alloc (.cells cur e)).cell? ⟨x, k, none⟩ = some m := fun x k m h1 h2 => ⟨by simp only [G', if_neg (hlt x k m h2)]; exact h1, hkeep x k m h2⟩
  have E : Evo G w G' (w.alloc (.cells cur e)) (fun _ => False) (fun _ => False) := by
    refine ⟨hd, fun x k m h1 h2 => ⟨by simp only [G', if_neg (hlt x k m h2)]; exact h1, hkeep x k m h2⟩, ?_, fun t ht => rfl, rfl⟩
    intro x t j o h1 h2 _
    have hx : x < w.heap.size := (Array.getElem?_eq_some_iff.1 h2).1
    have hne : x ≠ g := by simp only [g]; omega
    exact ⟨(hao_ w _ x hx).trans h2, by simp only [G', if_neg hne]; exact h1, fun k => by simp only [G', if_neg hne]⟩
  refine ⟨G', hs.evo E rfl (fun t v m hv hm => .inl ⟨v, hv, rfl, id, id, fun _ h => h.elim⟩) (hs.fr.alloc (Nat.le_refl _) _) (gws _ _ hs.gw ((Below.refl _ w).alloc (by have := hs.ng; have := hs.fr.size; omega) _)) ?_ ?_ ?_ (fun x k h1 h2 => hs.old x k h1 (by
    simp only [G'] at h2
    rw [if_neg (by simp only [g]; have := hs.fr.size; omega)] at h2; exact h2)), ?_⟩
  · intro x q hx
    simp only [G'] at hx
    split at hx
    · rename_i e; subst e; exact ⟨by simp [g], .inl (by simp only [g]; exact hs.fr.size)⟩
    · have := hs.own x q hx; exact ⟨by simp; omega, this.2⟩
  · intro x k hx hk
    simp only [G'] at hx hk ⊢
    split
    · rename_i e; rw [if_pos e] at hk; exact hk
    · rename_i e; rw [if_neg e] at hk hx; exact hs.ownp x k hx hk
  · intro x k hk
    simp only [G'] at hk ⊢
    split
    · rename_i e; rw [if_pos e] at hk; exact hk
    · rename_i e; rw [if_neg e] at hk; exact hs.dv x k hk
  · refine ⟨ms, ⟨hl, .inr ⟨g, cap, cur, rfl, (by show G.B ≤ _; rw [hs.B]; exact hs.fr.size), heap_alloc_new w _, hc, hm, hcs, htk⟩⟩, hr.keep hd, hz, h1, Nat.le_trans hc hm, fun x hx => ?_⟩
    simp [Value.ownBlock] at hx
    subst hx
    exact ⟨if_pos rfl, fun k => by simp only [G', if_pos]; simp [g]⟩
theorem Sim.grow (hs : Sim NG GW io w0 pd0 G env a w) (gws : ∀ w w', GW w → Below NG w w' → GW w') {u : Nat} (p : Nat × Nat) {e : TypeId} {sz g cap : Nat} {xs ys : List VV} {ms ns : List Value} {cur : Array Value}
    (hu : ∃ ee zz, get env u = .ow ee zz xs ∨ (get env u = .nl ∧ xs = [])) (ha : OwnR G w (u, 0) e sz xs (.slice (some ⟨g, 0, none⟩) xs.length cap)) (hev : a.eval (.tmp u) = .slice (some ⟨g, 0, none⟩) xs.length cap)
    (hh : w.heap[g]? = some (.cells cur e (0, 0))) (hcs : cur.size = cap * sz) (htk : cur.toList.take (xs.length * sz) = ms) (hl : ms.length = xs.length * sz) (hln : ns.length = ys.length * sz)
    (hroom : xs.length + ys.length ≤ cap) (hm : cap ≤ maxLen) (hr : DRs G.pd w (ys.flatMap VV.cells) ns) (hz : ∀ x ∈ ys, x.cells.length = sz) (h1 : ∀ u ∈ ns, u.oneCell' = true) :
    ∃ G', Sim NG GW io w0 pd0 G' (env.set u (.sl xs)) a (w.setRow g (cur.toList.take (xs.length * sz) ++ ns ++ cur.toList.drop (xs.length * sz + ns.length)).toArray) ∧ OwnR G' (w.setRow g (cur.toList.take (xs.length * sz) ++ ns ++ cur.toList.drop (xs.length * sz + ns.length)).toArray) p e sz (xs ++ ys) (.slice (some ⟨g, 0, none⟩) (xs.length + ys.length) cap) := by
  obtain ⟨ms', ho, hr0, hz0, h10, hl0, hg0⟩ := ha
  have hog := hg0 g rfl
  have hms : ms' = ms := by
    rcases ho.2 with ⟨h, _⟩ | ⟨g', cap', cur', he, _, hh', _, _, _, ht'⟩
    · cases h
    · cases he
      rw [hh] at hh'
      cases hh'
      exact ht'.symm.trans htk
  subst hms
  let W := w.setRow g (cur.toList.take (xs.length * sz) ++ ns ++ cur.toList.drop (xs.length * sz + ns.length)).toArray
  let G' : Gh := ⟨fun x k => if x = g then k < (xs.length + ys.length) * sz else G.pd x k, fun x k => if x = g then k < (xs.length + ys.length) * sz else G.pv x k, G.bl, fun x => if x = g then some p else G.own x, G.B⟩
  have hmul : xs.length * sz ≤ (xs.length + ys.length) * sz := Nat.mul_le_mul_right _ (Nat.le_add_right _ _)
  have hW : W.heap[g]? = some (.cells (cur.toList.take (xs.length * sz) ++ ns ++ cur.toList.drop (xs.length * sz + ns.length)).toArray e (0, 0)) := setRow_heap w g _ _ _ _ hh
  have hfit : xs.length * sz + ns.length ≤ cur.toList.length := by
    rw [hln, ← Nat.add_mul]; simp only [Array.length_toList, hcs]; exact Nat.mul_le_mul_right _ hroom
  have hcell : ∀ x k m, (x = g → k < xs.length * sz) → w.cell? ⟨x, k, none⟩ = some m → W.cell? ⟨x, k, none⟩ = some m := by
    intro x k m hk hc
    by_cases hx : x = g
    · subst hx
      rw [box_cell hW]
      rw [cell_of_row w x k cur e (0, 0) hh] at hc
      have hk' := hk rfl
      rw [List.append_assoc, List.getElem?_append_left (by simp at hfit ⊢; omega), List.getElem?_take, if_pos hk']
      simpa using hc
    · rw [World.cell?_of_block (setRow_other w g x _ hx)]; exact hc
  have hd : ∀ x k m, G.pd x k → w.cell? ⟨x, k, none⟩ = some m → G'.pd x k ∧ W.cell? ⟨x, k, none⟩ = some m := by
    intro x k m h2 h3
    refine ⟨?_, hcell x k m (fun e => (hog.2 k).1 (e ▸ h2)) h3⟩
    simp only [G']
    split
    · rename_i e; have := (hog.2 k).1 (e ▸ h2); omega
    · exact h2
  have E : Evo G w G' W (fun t => t = u) (fun _ => False) := by
    refine ⟨hd, ?_, ?_, fun t ht => rfl, rfl⟩
    · intro x k m h2 h3
      have hp : x = g → k < xs.length * sz := fun e => (hog.2 k).1 (hs.ownp g k (by rw [hog.1]; simp) (e ▸ h2))
      refine ⟨?_, hcell x k m hp h3⟩
      simp only [G']
      split
      · rename_i e; have := hp e; omega
      · exact h2
    · intro x t j o h2 h3 h4
      have hne : x ≠ g := fun e => h4 (by rw [e, hog.1] at h2; exact (congrArg Prod.fst (Option.some.inj h2)).symm)
      exact ⟨(setRow_other w g x _ hne).trans h3, by simp only [G', if_neg hne]; exact h2, fun k => by simp only [G', if_neg hne]⟩
  obtain ⟨hgl, hge⟩ := hs.own g _ hog.1
  have hgB : G.B ≤ g := (ho.lt g rfl).1
  refine ⟨G', hs.evo E (by simp) ?_ ?_ ?_ ?_ ?_ ?_ (fun x k h1 h2 => hs.old x k h1 (by
    simp only [G'] at h2
    rw [if_neg (by rw [hs.B] at hgB; omega)] at h2; exact h2)), ?_⟩
  · intro t v m hv hm
    by_cases htu : u = t
    · subst htu
      rw [List.getElem?_set, if_pos rfl] at hv
      split at hv
      · cases hv
        have hq : a.eval (.tmp u) = m := by
          obtain ⟨hlt, rfl⟩ := Array.getElem?_eq_some_iff.1 hm
          simp [Act.eval, hlt]
        rw [← hq, hev]
        exact .inr (VR.slot (VR.of_dr ((OwnR.dr (p := (u, 0)) ⟨ms', ho, hr0, hz0, h10, hl0, hg0⟩).keep hd)) _)
      · cases hv
    · rw [List.getElem?_set, if_neg htu] at hv
      exact .inl ⟨v, hv, rfl, fun e => htu e.symm, id, fun _ h => h.elim⟩
  · refine ⟨hs.fr.os, hs.fr.tape, hs.fr.output, by rw [setRow_size]; exact hs.fr.size, fun k h1 h2 => ?_⟩
    rw [setRow_other w _ k _ (fun e => by
      rw [← e] at hge
      rcases hge with h | h
      · omega
      · exact h2 h)]
    exact hs.fr.block k h1 h2
  · refine gws _ _ hs.gw ⟨rfl, rfl, rfl, by rw [setRow_size]; exact Nat.le_refl _, fun k hk => setRow_other w _ k _ (fun e => ?_)⟩
    rw [← e] at hge
    rcases hge with h | h
    · have := hs.ng; omega
    · have := hs.ngio _ h; omega
  · intro x q hx
    simp only [G'] at hx
    rw [setRow_size]
    split at hx
    · rename_i e; subst e; exact ⟨hgl, hge⟩
    · exact hs.own x q hx
  · intro x k hx hk
    simp only [G'] at hx hk ⊢
    split
    · rename_i e; rw [if_pos e] at hk; exact hk
    · rename_i e; rw [if_neg e] at hk hx; exact hs.ownp x k hx hk
  · intro x k hk
    simp only [G'] at hk ⊢
    split
    · rename_i e; rw [if_pos e] at hk; exact hk
    · rename_i e; rw [if_neg e] at hk; exact hs.dv x k hk
  · refine ⟨ms' ++ ns, ⟨by rw [List.length_append, hl, hln, List.length_append, Nat.add_mul], .inr ⟨g, cap, _, by rw [List.length_append], hgB, hW, by rw [List.length_append]; exact hroom, hm, ?_, ?_⟩⟩, ?_, ?_, ?_, ?_, ?_⟩
    · simp only [List.size_toArray, List.length_append, List.length_take, List.length_drop, Array.length_toList] at hfit ⊢
      omega
    · rw [List.length_append, Nat.add_mul, ← hln]
      simp only
      rw [htk, ← hl, ← List.length_append]
      exact List.take_left
    · rw [List.flatMap_append]; exact (hr0.keep hd).app (hr.keep hd)
    · intro x hx
      rcases List.mem_append.1 hx with hx | hx
      · exact hz0 x hx
      · exact hz x hx
    · intro v hv
      rcases List.mem_append.1 hv with hv | hv
      · exact h10 v hv
      · exact h1 v hv
    · rw [List.length_append]; omega
    · intro x hx
      simp [Value.ownBlock] at hx
      subst hx
      exact ⟨if_pos rfl, fun k => by simp only [G', if_pos, List.length_append]⟩
theorem append_run (hti : TIok P ti) (hs : Sim NG GW io w0 pd0 G env a w) (gws : ∀ w w', GW w → Below NG w w' → GW w') {t ty e : TypeId} {i ie : TI} (hi : ti t = some i) (hk : i.k = .slice e) (hie : ti e = some ie) (h0 : 0 < ie.sz) (hb0 : 0 < ie.bytes)
    {u : Nat} (p : Nat × Nat) {xs ys : List VV} {my : Value} (hu : get env u = .ow e ie.sz xs ∨ (get env u = .nl ∧ xs = [])) (hy : DR G.pd w (.sl ys) my) (hz : ∀ x ∈ ys, x.cells.length = ie.sz) (hb : (xs.length + ys.length) * ie.bytes ≤ 140737488355328) :
    ∃ G' v' w', (Builtin.append_ #[t, t] ty #[a.eval (.tmp u), my]).run P w = .ok v' w' ∧ Sim NG GW io w0 pd0 G' (env.set u (.sl xs)) a w' ∧ OwnR G' w' p e ie.sz (xs ++ ys) v' := by
  have hut := hti.kind t i hi
  rw [hk] at hut
  simp only at hut
  obtain ⟨inf, z, hinf, hzz, hzc, hsz, hby, hzl, hz1, _⟩ := hti.info e ie hie
  have hcap : xs.length + ys.length ≤ 140737488355328 := Nat.le_trans (Nat.le_mul_of_pos_right _ hb0) hb
  have hO : OwnR G w (u, 0) e ie.sz xs (a.eval (.tmp u)) := by
    have := get_slot hs u
    rcases hu with hu | ⟨hu, rfl⟩
    · rw [hu] at this; exact this
    · rw [hu] at this
      have h : a.eval (.tmp u) = .slice none 0 0 := this
      rw [h]; exact OwnR.nil
  have hset : Sim NG GW io w0 pd0 G (env.set u (.sl xs)) a w := by
    have hp := hs.put (some u) (v := .sl xs) (m := a.eval (.tmp u)) (fun d hd => by cases hd; exact VR.slot (VR.of_dr hO.dr) _)
    have ha : a.put (some u) (a.eval (.tmp u)) = a := by
      simp only [Act.put, Act.eval]
      congr 1
      by_cases hlt : u < a.tmps.size
      · refine Array.ext (by simp) fun i h1 h2 => ?_
        rw [Array.getElem_setIfInBounds (by simpa using h1)]
        split
        · rename_i e; subst e; simp [hlt]
        · rfl
      · simp [Array.setIfInBounds, hlt]
    rw [ha] at hp
    exact hp
  have hsrc : (∃ A c, my = .slice A 0 c ∧ ys = []) ∨ ∃ g off c ns, my = .slice (some ⟨g, off, none⟩) ys.length c ∧ DRs G.pd w (ys.flatMap VV.cells) ns ∧ (∀ v ∈ ns, v.oneCell' = true) ∧ ∀ (k : Nat) m, ns[k]? = some m → w.cell? ⟨g, off + k, none⟩ = some m := by
    cases hy with
    | sl0 A c => exact .inl ⟨A, c, rfl, rfl⟩
    | sl _ g off c sz ns hc hm hz' hr h1 hw => exact .inr ⟨g, off, c, ns, rfl, hr, h1, fun k m h => (hw k m h).1⟩
  obtain ⟨ms, ho, hr, hzx, h1, hl, hg⟩ := hO
  rcases hsrc with ⟨A, c, rfl, rfl⟩ | ⟨g, off, c, ns, rfl, hrn, h1n, hcn⟩
  ·
    refine ⟨rehome G (a.eval (.tmp u)) p, a.eval (.tmp u), w, ?_, ?_, ?_⟩
    · have hfc : (Builtin.firstCells inf.size 0 (.slice A 0 c)).run P w = .ok #[] w := by
        cases A <;> simp [Builtin.firstCells, loadCells, loadCellsFrom]
      rcases ho.2 with ⟨hv, hn⟩ | ⟨g, cap, cur, hv, _, hh, hnc, _⟩
      · rw [hv]
        simp [Builtin.append_, run_underlying hut, sizeOf, typeInfo, hinf, Builtin.lenOf, hfc]
      · rw [hv]
        simp [Builtin.append_, run_underlying hut, sizeOf, typeInfo, hinf, Builtin.lenOf, hfc, hnc, storeCells]
    · have h : OwnR G w (u, 0) e ie.sz xs (a.eval (.tmp u)) := ⟨ms, ho, hr, hzx, h1, hl, hg⟩
      refine hs.evo h.evo (by simp) ?_ hs.fr hs.gw (h.owns hs) (h.ownsp hs) hs.dv hs.old
      intro t' v m hv hm
      by_cases hu' : u = t'
      · subst hu'
        rw [List.getElem?_set, if_pos rfl] at hv
        split at hv
        · cases hv
          have hq : a.eval (.tmp u) = m := by
            obtain ⟨hlt, rfl⟩ := Array.getElem?_eq_some_iff.1 hm
            simp [Act.eval, hlt]
          rw [← hq]
          exact .inr (VR.slot (VR.of_dr (OwnR.dr (h.home (p' := p)))) _)
        · cases hv
      · rw [List.getElem?_set, if_neg hu'] at hv
        exact .inl ⟨v, hv, rfl, fun e => hu' e.symm, id, fun _ h => h.elim⟩
    · rw [List.append_nil]; exact OwnR.home (p := (u, 0)) ⟨ms, ho, hr, hzx, h1, hl, hg⟩
  · have hln : ns.length = ys.length * ie.sz := by rw [← hrn.length, flat_len hz]
    have hcn' : ∀ j v, ns[j]? = some v → w.cell? ((⟨g, off, none⟩ : Addr).add j) = some v := fun j v h => by rw [Addr.add_lit]; exact hcn j v h
    have hzs : z.cells.size = ie.sz := by have : z.cells.toList.length = ie.zero.length := by rw [hzc]
                                          simp at this; omega
    rcases ho.2 with ⟨hv, hn⟩ | ⟨gx, cap, cur, hv, _, hh, hnc, hcm, hcs, htk⟩
    ·
      obtain rfl : xs = [] := List.eq_nil_of_length_eq_zero hn
      by_cases hys : ys.length = 0
      · obtain rfl : ys = [] := List.eq_nil_of_length_eq_zero hys
        refine ⟨G, .slice none 0 0, w, ?_, hset, OwnR.nil⟩
        rw [hv]
        have hfc : (Builtin.firstCells inf.size 0 (.slice (some ⟨g, off, none⟩) 0 c)).run P w = .ok #[] w := by
          simp [Builtin.firstCells, loadCells, loadCellsFrom]
        simp [Builtin.append_, run_underlying hut, sizeOf, typeInfo, hinf, Builtin.lenOf, hfc]
      · have hrun := run_append_nil (P := P) w t ty e inf z hut hinf hzz ⟨g, off, none⟩ ys.length c ns (by rw [hln, hsz]) hcn' (by omega) (by simp at hcap; omega) (by rw [hby]; simp at hb; omega)
        have hge := grownCap_ge w ys.length 0 e
        have hgm := grownCap_le_maxLen w ys.length 0 e (by simp at hcap; simp only [maxLen]; omega)
        obtain ⟨G', hs', hO'⟩ := (hset.drew gws).row gws p (e := e) (sz := ie.sz) (cap := grownCap w ys.length 0 e) (xs := ys) (ms := ns) (cur := ns.toArray ++ Builtin.zeroCells z.cells (grownCap w ys.length 0 e - ys.length))
          (by simp only [Array.size_append, List.size_toArray, size_zeroCells, hzs, hln, ← Nat.add_mul]; congr 1; omega) (by rw [← hln]; simp only [Array.toList_append]; exact List.take_left) hln hge hgm (DRs.drew hrn) hz h1n
        rw [hv]
        exact ⟨G', _, _, hrun, hs', hO'⟩
    · have hown : OwnR G w (u, 0) e ie.sz xs (a.eval (.tmp u)) := ⟨ms, ho, hr, hzx, h1, hl, hg⟩
      by_cases hroom : xs.length + ys.length ≤ cap
      · have hfit : xs.length * inf.size + ns.length ≤ cur.size := by rw [hsz, hln, hcs, ← Nat.add_mul]; exact Nat.mul_le_mul_right _ hroom
        have hrun := run_append_room (P := P) w t ty e inf hut hinf gx xs.length cap cur hh ⟨g, off, none⟩ ys.length c ns (by rw [hln, hsz]) hcn' h1n hroom hfit
        rw [hv] at hown
        obtain ⟨G', hs', hO'⟩ := hs.grow gws p (u := u) (ys := ys) (ns := ns) ⟨e, ie.sz, hu⟩ hown hv hh hcs htk ho.1 hln hroom hcm hrn hz h1n
        rw [hv]
        rw [hsz] at hrun
        exact ⟨G', _, _, hrun, hs', hO'⟩
      · have holds : ∀ j v, ms[j]? = some v → w.cell? ((⟨gx, 0, none⟩ : Addr).add j) = some v := ho.cells (g := gx) (by rw [hv]; rfl)
        have hrun := run_append_grow (P := P) w t ty e inf z hut hinf hzz ⟨gx, 0, none⟩ xs.length cap ms (by rw [ho.1, hsz]) holds ⟨g, off, none⟩ ys.length c ns (by rw [hln, hsz]) hcn' (by omega) (by omega) (growslice_fits (by omega) (by rw [hby]; exact hb))
        have hge := grownCap_ge w (xs.length + ys.length) cap e
        have hgm := grownCap_le_maxLen w (xs.length + ys.length) cap e (by simp only [maxLen]; omega)
        have hlen : (ms ++ ns).length = (xs.length + ys.length) * ie.sz := by rw [List.length_append, ho.1, hln, Nat.add_mul]
        obtain ⟨G', hs', hO'⟩ := (hset.drew gws).row gws p (e := e) (sz := ie.sz) (cap := grownCap w (xs.length + ys.length) cap e) (xs := xs ++ ys) (ms := ms ++ ns) (cur := ms.toArray ++ ns.toArray ++ Builtin.zeroCells z.cells (grownCap w (xs.length + ys.length) cap e - (xs.length + ys.length)))
          (by simp only [Array.size_append, List.size_toArray, size_zeroCells, hzs, ho.1, hln, ← Nat.add_mul]; congr 1; omega) (by rw [List.length_append, ← hlen]; simp only [Array.toList_append]; exact List.take_left) (by rw [hlen, List.length_append]) (by rw [List.length_append]; exact hge) hgm
          (by rw [List.flatMap_append]; exact DRs.drew (hr.app hrn))
          (fun x hx => by rcases List.mem_append.1 hx with hx | hx <;> first | exact hzx x hx | exact hz x hx)
          (fun v hv => by rcases List.mem_append.1 hv with hv | hv <;> first | exact h1 v hv | exact h1n v hv)
        rw [hv]
        rw [List.length_append] at hO'
        exact ⟨G', _, _, hrun, hs', hO'⟩
end
section
variable {P : Program} {NG : Nat} {GW : World → Prop} {io : List Nat} {w0 : World} {pd0 : Nat → Nat → Prop} {G G' : Gh} {env : Env} {a : Act} {w w' : World}
variable {R : Type} {K : Env → Option R} {r : R} {next : Act → World → Prop} {Q : Exit → Act → World → Prop} {o : Oper} {C : Cx} {ops : List Oper} {dr : Option (List Nat)}
theorem VR.sl_dr {xs : List VV} {m : Value} (h : VR G w (.sl xs) m) : DR G.pd w (.sl xs) m := h
theorem VR.ag_dr {xs : List VV} {m : Value} (h : VR G w (.ag xs) m) : DR G.pd w (.ag xs) m := h
theorem VR.tu_dr {xs : List VV} {m : Value} (h : VR G w (.tu xs) m) : DR G.pd w (.tu xs) m := h
theorem VR.pt_eq {t o : Nat} {m : Value} (h : VR G w (.pt t o) m) : m = .pointer (some ⟨G.bl t, o, none⟩) := h
theorem VR.vw_v {cs : List VV} {m : Value} (h : VR G w (.vw cs) m) : ViewR G w cs m := h
theorem VR.cells {v : VV} {m : Value} (h : VR G w v m) (hok : v.cells.all cellOk = true) : DRs G.pd w v.cells m.cells.toList ∧ ∀ u ∈ m.cells.toList, u.oneCell' = true := by
  cases v <;> first
    | exact DR.cells h hok
    | exact h.elim
    | (simp [VV.cells, cellOk] at hok; done)
theorem view_not {t : Nat} {v x : VV} (h : view t v = x) : (∀ e z xs, x ≠ .ow e z xs) ∧ x ≠ .nl := by
  subst h; cases v <;> simp [view]
theorem binop_sound {op : BinOp} {xt yt : TypeId} {x y : Operand} {b tb : Bool} {v : Value} (hb : b = true) (hop : o.op = .binOp op xt x y yt) (hs : Sim NG GW io w0 pd0 G env a w) (hv : vbin tb op (rdv env x) (rdv env y) = some (b, v)) (hbool : tb = true → P.underlying xt = some .bool) :
    (execOp a.eval o).run P w = .ok (.value v) w := by
  have hx := rdv_rel hs x
  have hy := rdv_rel hs y
  generalize rdv env x = vx at *
  generalize rdv env y = vy at *
  unfold vbin at hv
  split at hv
  · rename_i k n k' n'
    have ex := hx.sv
    have ey := hy.sv
    have hk : op = .shr ∨ k = k' := by
      split at hv
      · right; assumption
      · split at hv
        · left; rfl
        · cases hv
    have hv' : vint op k n n' = some (b, v) := by
      split at hv
      · exact hv
      · split at hv
        · exact hv
        · cases hv
    have := vint_run (P := P) (w := w) hv' hb xt k' hk
    unfold execOp
    rw [hop]
    simp only [ex, ey]
    have hg : (eqGuard op xt x y (.int k n) (.int k' n')).run P w = .ok () w := by
      unfold eqGuard
      cases op <;> simp
    simp [hg, this]
  · rename_i s s'
    have ex := hx.sv
    have ey := hy.sv
    have := vstr_run (P := P) (w := w) hv hb xt
    unfold execOp
    rw [hop]
    simp only [ex, ey]
    have hg : (eqGuard op xt x y (.string s) (.string s')).run P w = .ok () w := by
      unfold eqGuard
      cases op <;> simp
    simp [hg, this]
  · rename_i p q
    have ex := hx.sv
    have ey := hy.sv
    unfold execOp
    rw [hop]
    simp only [ex, ey]
    split at hv
    · cases hv
      have hu := hbool rfl
      simp [eqGuard, run_eql_bool w xt p q hu]
    · cases hv
      have hu := hbool rfl
      simp [eqGuard, run_neq_bool w xt p q hu]
    · cases hv
  · cases hv
end
section
variable {P : Program} {NG : Nat} {GW : World → Prop} {io : List Nat} {w0 : World} {pd0 : Nat → Nat → Prop} {G G' : Gh} {env : Env} {a : Act} {w w' : World}
variable {R : Type} {K : Env → Option R} {r : R} {next : Act → World → Prop} {Q : Exit → Act → World → Prop} {o : Oper} {C : Cx} {ops : List Oper} {dr : Option (List Nat)}
theorem bite_none {α : Type} {b : Bool} {x : Option α} {r : α} (h : bite b x none = some r) : b = true ∧ x = some r := by
  cases b
  · cases h
  · exact ⟨rfl, h⟩
theorem isBool_ok (hti : TIok P C.ti) {t : TypeId} (h : isBool C t = true) : P.underlying t = some .bool := by
  unfold isBool at h
  split at h
  · rename_i i hi
    have := hti.kind t i hi
    split at h
    · rename_i hk; rw [hk] at this; exact this
    · cases h
  · cases h
theorem vnew_some {d : Nat} {b : VV} (h : vnew dr d b env K = some r) : K ((env.map (kill d)).set d b) = some r := by
  unfold vnew at h
  cases dr with
  | none => simpa [frcL_eq, vset_eq] using h
  | some l =>
    simp only at h
    split at h
    · rename_i hany
      rw [vset_eq] at h
      have hany := (Bool.or_eq_false_iff.1 hany).1
      have : env.map (kill d) = env := by
        rw [List.any_eq_false] at hany
        conv => rhs; rw [← List.map_id env]
        exact List.map_congr_left fun v hv => kill_none (by simpa using hany v hv)
      rw [this]; exact h
    · cases h
theorem box_sound (hs : Sim NG GW io w0 pd0 G env a w) (gws : ∀ w w', GW w → Below NG w w' → GW w') (hn : Nx NG GW io w0 pd0 K r next) {d : Nat} (hd : o.dst = some d) {cs : List VV} {ms : List Value} {ty : TypeId} (hl : cs.length = ms.length) (hc : ∀ (i : Nat) v u, cs[i]? = some v → ms[i]? = some u → ∀ (G : Gh) (w' : World) (p : Nat × Nat), (∀ v m, DR (G.pd) w v m → DR G.pd w' v m) → True) (hc' : ∀ (i : Nat) v u, cs[i]? = some v → ms[i]? = some u → (v = .nl ∧ u = .slice none 0 0) ∨ DR G.pd w v u) (h1 : ∀ u ∈ ms, u.oneCell' = true)
    (hrun : (execOp a.eval o).run P w = .ok (.value (.pointer (some ⟨w.heap.size, 0, none⟩))) (w.alloc (.cells ms.toArray ty))) (h : vnew dr d (.bx cs) env K = some r) : o.wp P a w next Q := by
  obtain ⟨G', hs'⟩ := hs.fresh gws d (.bx cs) ms ty (.pointer (some ⟨w.heap.size, 0, none⟩)) (fun G' _ hb ho hp hd => by
    refine ⟨ms, ty, by rw [hb], by rw [hb]; exact heap_alloc_new w _, by rw [hb]; exact ho, fun k hk => hp k (by rw [hb] at hk; exact hk), hl, fun i v u hv hu => ?_, h1⟩
    rcases hc' i v u hv hu with ⟨rfl, rfl⟩ | h
    · rfl
    · have h' := hd v u h
      cases v <;> first
        | exact h'
        | (cases h'))
  refine wp_value hrun (hn G' _ _ _ ?_ (vnew_some h))
  rw [hd]; exact hs'
theorem alloc_sound (hti : TIok P C.ti) (hs : Sim NG GW io w0 pd0 G env a w) (gws : ∀ w w', GW w → Below NG w w' → GW w') (hn : Nx NG GW io w0 pd0 K r next) {ty : TypeId} (hop : o.op = .alloc ty) {i : TI} {d : Nat} (hi : C.ti ty = some i) (hd : o.dst = some d) (h : vnew dr d (.bx (i.zero.map zcell)) env K = some r) : o.wp P a w next Q := by
  obtain ⟨inf, z, hinf, hzz, hzc, hsz, hby, hzl, hz1, _⟩ := hti.info ty i hi
  refine box_sound (ms := i.zero) (ty := ty) hs gws hn hd (by simp) (fun _ _ _ _ _ _ _ _ _ => trivial) ?_ hz1 ?_ h
  · intro k v u hv hu
    rw [List.getElem?_map, hu] at hv
    cases hv
    unfold zcell
    split
    · exact .inl ⟨rfl, rfl⟩
    · exact .inr (.s _)
  · have : i.zero.toArray = z.cells := by rw [← hzc]
    unfold execOp
    rw [hop]
    simp only [Instr.alloc, Sem.run_bind, zeroValue, typeInfo, run_program, Result.andThen_ok, hinf, Sem.run_pure, hzz, newVar, newRow, run_newObj]
    rw [this]
    rfl
theorem boxop_sound (hti : TIok P C.ti) (hs : Sim NG GW io w0 pd0 G env a w) (gws : ∀ w w', GW w → Below NG w w' → GW w') (hn : Nx NG GW io w0 pd0 K r next) {ty : TypeId} {x : Operand} (hop : o.op = .box ty x) {i : TI} {d : Nat} (hi : C.ti ty = some i) (hd : o.dst = some d) (hl : (rdv env x).cells.length = i.sz) (hok : (rdv env x).cells.all cellOk = true) (h : vnew dr d (.bx (rdv env x).cells) env K = some r) : o.wp P a w next Q := by
  obtain ⟨hr, h1⟩ := (rdv_rel hs x).cells hok
  refine box_sound (ms := (a.eval x).cells.toList) (ty := ty) hs gws hn hd hr.length (fun _ _ _ _ _ _ _ _ _ => trivial) (fun k v u hv hu => .inr (hr.at hv hu)) h1 ?_ h
  unfold execOp
  rw [hop]
  simp only [Instr.box, newVar, newRow, Sem.run_bind, run_newObj, Result.andThen_ok, Sem.run_pure]
  rfl
theorem getB_bx {t : Nat} {cs : List VV} (h : getB dr env t = .bx cs) : get env t = .bx cs := by
  unfold getB at h
  split at h
  · split at h
    · cases h
    · exact h
  · exact h
theorem load_sound (hti : TIok P C.ti) (hs : Sim NG GW io w0 pd0 G env a w) (hn : Nx NG GW io w0 pd0 K r next) {ty : TypeId} {x : Operand} (hop : o.op = .load ty x) (h : vop C ops dr o env K = some r) : o.wp P a w next Q := by
  have hx := rdv_rel hs x
  have hex : ∀ m, (Instr.loadAt ty (a.eval x)).run P w = .ok m w → (execOp a.eval o).run P w = .ok (.value m) w := by
    intro m hm
    unfold execOp
    rw [hop]
    simp [hm]
  simp only [vop, hop] at h
  split at h
  · cases h
  rename_i i hi
  split at h
  · rename_i cs hv
    rw [hv] at hx
    split at h
    · rename_i v hvl
      obtain ⟨g, off, hm, u, hrun, hu⟩ := vload_view hti hi hvl hx.vw_v
      rw [hm, ← Nat.add_zero off] at hex
      exact val_sound hs hn (hex _ hrun) (VR.of_dr hu) h
    · cases h
  · rename_i t off hv
    rw [hv] at hx
    have hpt := hx.pt_eq
    have hslot := get_slot hs t
    split at h
    · rename_i cs hcs
      have hcs := getB_bx hcs
      rw [hcs] at hslot
      have hbox : BoxR G w t cs (a.eval (.tmp t)) := hslot
      split at h
      ·
        split at h
        · rename_i e' e z xs hk hc
          rw [vset_eq] at h
          obtain ⟨ms, bty, hpm, hh, ho, hnp, hl, hcr, h1⟩ := hbox
          have hoff : off < ms.length := by rw [← hl]; exact (List.getElem?_eq_some_iff.1 hc).1
          have hm := List.getElem?_eq_getElem hoff
          have hO : OwnR G w (t, off + 1) e z xs ms[off] := hcr off _ _ hc hm
          have hsz : i.sz = 1 := by
            obtain ⟨_, _, _, _, _, _, _, _, _, h8⟩ := hti.info ty i hi
            rw [hk] at h8; exact h8
          have hrun := run_load' (P := P) (w := w) hti hi (g := G.bl t) (off := off) (ms := [ms[off]]) (by simp [hsz]) (fun k u hu => by
            cases k with
            | zero => cases hu; rw [box_cell hh]; exact hm
            | succ k => simp at hu)
          have hld : ldv i [ms[off]] = ms[off] := by simp [ldv, isAgg', hk]
          rw [hld, ← hpt] at hrun
          let d := o.dst.getD 0
          have hsim : Sim NG GW io w0 pd0 (rehome G ms[off] (d, 0)) (env.set t (.bx (cs.set off (.sl xs)))) a w := by
            refine hs.evo (hO.evo (p' := (d, 0))) (by simp) ?_ hs.fr hs.gw (hO.owns hs) (hO.ownsp hs) hs.dv hs.old
            intro u v m hv hm'
            by_cases hu : t = u
            · subst hu
              rw [List.getElem?_set, if_pos rfl] at hv
              split at hv
              · cases hv
                have hq : a.eval (.tmp t) = m := by
                  obtain ⟨hlt, rfl⟩ := Array.getElem?_eq_some_iff.1 hm'
                  simp [Act.eval, hlt]
                rw [← hq]
                refine .inr ⟨ms, bty, hpm, hh, ?_, hnp, by simp [hl], ?_, h1⟩
                · simp only [rehome]
                  by_cases hb : ms[off].ownBlock = some (G.bl t)
                  · obtain ⟨_, _, _, _, _, _, hg⟩ := hO
                    have := ho.symm.trans (hg _ hb).1
                    simp at this
                  · rw [if_neg hb]; exact ho
                · intro j v u' hj hj'
                  rw [List.getElem?_set] at hj
                  by_cases hjo : off = j
                  · subst hjo
                    rw [if_pos rfl] at hj
                    split at hj
                    · cases hj
                      rw [hm] at hj'
                      cases hj'
                      exact OwnR.dr (hO.home (p' := (d, 0)))
                    · cases hj
                  · rw [if_neg hjo] at hj
                    have h2 := hcr j v u' hj hj'
                    cases v <;> first
                      | exact OwnR.other hO h2 (by simp; omega)
                      | exact h2
              · cases hv
            · rw [List.getElem?_set, if_neg hu] at hv
              exact .inl ⟨v, hv, rfl, fun e => hu e.symm, id, fun _ h => h.elim⟩
          refine wp_value (hex _ hrun) (hn _ _ _ _ (hsim.put o.dst fun d' hd' => ?_) (vput_some h))
          have : d = d' := by simp [d, hd']
          subst this
          exact hO.home
        · rename_i e' hk hc
          obtain ⟨ms, bty, hpm, hh, ho, hnp, hl, hcr, h1⟩ := hbox
          have hoff : off < ms.length := by rw [← hl]; exact (List.getElem?_eq_some_iff.1 hc).1
          have hm := List.getElem?_eq_getElem hoff
          have hO : ms[off] = .slice none 0 0 := hcr off _ _ hc hm
          have hsz : i.sz = 1 := by
            obtain ⟨_, _, _, _, _, _, _, _, _, h8⟩ := hti.info ty i hi
            rw [hk] at h8; exact h8
          have hrun := run_load' (P := P) (w := w) hti hi (g := G.bl t) (off := off) (ms := [ms[off]]) (by simp [hsz]) (fun k u hu => by
            cases k with
            | zero => cases hu; rw [box_cell hh]; exact hm
            | succ k => simp at hu)
          have hld : ldv i [ms[off]] = ms[off] := by simp [ldv, isAgg', hk]
          rw [hld, ← hpt] at hrun
          exact wp_value (hex _ hrun) (hn _ _ _ _ (hs.put o.dst fun d _ => (show SlotR G w d .nl _ from hO)) (vput_some h))
        · cases h
      · split at h
        · rename_i v hvl
          obtain ⟨u, hrun, hu⟩ := vload_box hti hi hvl hbox
          rw [← hpt] at hrun
          exact val_sound hs hn (hex _ hrun) (VR.of_dr hu) h
        · cases h
    · cases h
  · cases h
theorem store_sound (hti : TIok P C.ti) (gws : ∀ w w', GW w → Below NG w w' → GW w') (hs : Sim NG GW io w0 pd0 G env a w) (hn : Nx NG GW io w0 pd0 K r next) {ty : TypeId} {x y : Operand} (hop : o.op = .store ty x y) (h : vop C ops dr o env K = some r) : o.wp P a w next Q := by
  have hx := rdv_rel hs x
  have hy := rdv_rel hs y
  have hex : ∀ w', (Instr.storeAt ty (a.eval x) (a.eval y)).run P w = .ok () w' → (execOp a.eval o).run P w = .ok .skip w' := by
    intro w' hm
    unfold execOp
    rw [hop]
    simp [hm]
  simp only [vop, hop] at h
  split at h
  case h_2 => cases h
  rename_i i hdst hi
  have hput : ∀ a : Act, a.put o.dst undef = a := fun a => by rw [hdst]; rfl
  split at h
  · rename_i t off hv
    rw [hv] at hx
    have hpt := hx.pt_eq
    have hslot := get_slot hs t
    split at h
    case h_2 => cases h
    rename_i cs hcs
    rw [hcs] at hslot
    obtain ⟨ms, bty, hpm, hh, ho, hnp, hl, hcr, h1⟩ := (hslot : BoxR G w t cs (a.eval (.tmp t)))
    split at h
    case isFalse => cases h
    rename_i hcond
    obtain ⟨hlen, hfit, hok⟩ := hcond
    obtain ⟨hr, hr1⟩ := hy.cells hok
    have hrl := hr.length
    have hrun := run_store' (P := P) (w := w) hti hi (g := G.bl t) (off := off) (ms := ms) (ty := bty) (v := a.eval y) hh (by rw [← hrl]; exact hlen) (by rw [← hl]; exact hfit) hr1
    rw [← hpt] at hrun
    have hms' : ∀ u ∈ setCells ms off (a.eval y).cells.toList, u.oneCell' = true := setCells_all (p := fun u : Value => u.oneCell' = true) _ _ _ hr1 h1
    have plain_store : ∀ (env' : Env) (G' : Gh) (hs' : Sim NG GW io w0 pd0 G' env' a w) (hbl : G'.bl = G.bl) (hcr' : ∀ (i : Nat) v u, cs[i]? = some v → ms[i]? = some u → CellR G' w (t, i + 1) v u) (ho' : G'.own (G.bl t) = some (t, 0)) (hnp' : ∀ k, ¬ G'.pd (G.bl t) k) (cs' : List VV) (hl' : cs'.length = cs.length)
        (hc' : ∀ (j : Nat) v u, cs'[j]? = some v → (setCells ms off (a.eval y).cells.toList)[j]? = some u → ∀ w' : World, (∀ v m, DR G'.pd w v m → DR G'.pd w' v m) → (∀ p v m, p ≠ (t, 0) → CellR G' w p v m → CellR G' w' p v m) → CellR G' w' (t, j + 1) v u) (hK : K (env'.set t (.bx cs')) = some r), o.wp P a w next Q := by
      intro env' G' hs' hbl hcr' ho' hnp' cs' hl' hc' hK
      have hw := hs'.write gws (t := t) (ms := ms) (ms' := setCells ms off (a.eval y).cells.toList) (ty := bty) (by rw [hbl]; exact hh) (by rw [hbl]; exact ho') (by rw [hbl]; exact hnp') (.bx cs') (fun w' hh' hd hcell => by
        refine ⟨setCells ms off (a.eval y).cells.toList, bty, by rw [hbl]; exact hpm, hh', by rw [hbl]; exact ho', by rw [hbl]; exact hnp', by rw [hl', setCells_len]; exact hl, fun j v u hv hu => hc' j v u hv hu w' hd hcell, hms'⟩)
      refine wp_skip' (hex _ hrun) (hn G' _ _ _ ?_ hK)
      rw [hput, ← hbl]; exact hw
    have hdata : K (env.set t (.bx (setCells cs off (rdv env y).cells))) = some r → o.wp P a w next Q := by
      intro hK
      refine plain_store env G hs rfl hcr ho hnp _ (setCells_len _ _ _) (fun j v u hv hu w' hd hcell => ?_) hK
      rw [setCells_eq _ _ _ (by omega)] at hv
      rw [setCells_eq _ _ _ (by omega)] at hu
      have hto : (cs.take off).length = off := by simp; omega
      have hto' : (ms.take off).length = off := by simp; omega
      by_cases hj : j < off
      · rw [List.append_assoc, List.getElem?_append_left (by omega), List.getElem?_take, if_pos hj] at hv
        rw [List.append_assoc, List.getElem?_append_left (by omega), List.getElem?_take, if_pos hj] at hu
        exact hcell _ _ _ (by simp) (hcr j v u hv hu)
      · by_cases hj2 : j < off + (rdv env y).cells.length
        · rw [List.append_assoc, List.getElem?_append_right (by omega), List.getElem?_append_left (by omega), hto] at hv
          rw [List.append_assoc, List.getElem?_append_right (by omega), List.getElem?_append_left (by omega), hto'] at hu
          have hdr := hr.at hv hu
          have h3 := hd _ _ hdr
          cases v <;> first
            | exact h3
            | (cases h3)
        · rw [List.getElem?_append_right (by simp; omega), List.getElem?_drop] at hv
          rw [List.getElem?_append_right (by simp at *; omega), List.getElem?_drop] at hu
          simp only [List.length_append, hto, hto'] at hv hu
          rw [show off + (rdv env y).cells.length + (j - (off + (rdv env y).cells.length)) = j by omega] at hv
          rw [show off + (a.eval y).cells.toList.length + (j - (off + (a.eval y).cells.toList.length)) = j by omega] at hu
          exact hcell _ _ _ (by simp) (hcr j v u hv hu)
    split at h
    · rename_i u
      split at h
      · rename_i e z xs hgu
        rw [vset_eq, vset_eq] at h
        have hut : u ≠ t := fun e => by rw [e, hcs] at hgu; cases hgu
        obtain ⟨hs', hO⟩ := hs.away hgu (t, off + 1)
        have hO0 : OwnR G w (u, 0) e z xs (a.eval (.tmp u)) := by have := get_slot hs u; rw [hgu] at this; exact this
        have hcells : (rdv env (.tmp u)).cells = [.sl xs] := by simp [rdv, hgu, view, VV.cells]
        rw [hcells] at hrl hlen
        simp at hlen
        have hmc : (a.eval (.tmp u)).cells.toList = [a.eval (.tmp u)] := by
          obtain ⟨_, ho2, _⟩ := hO0
          rcases ho2.2 with ⟨hv, _⟩ | ⟨g, cap, cur, hv, _⟩ <;> rw [hv] <;> rfl
        refine plain_store _ _ hs' rfl ?_ ?_ hnp (cs.set off (.ow e z xs)) (by simp) ?_ h
        · intro j v m hv hm
          have h2 := hcr j v m hv hm
          cases v <;> first
            | exact OwnR.other hO0 h2 (fun e => by simp at e)
            | exact h2
        · simp only [rehome]
          by_cases hb : (a.eval (.tmp u)).ownBlock = some (G.bl t)
          · obtain ⟨_, _, _, _, _, _, hg⟩ := hO0
            have := ho.symm.trans (hg _ hb).1
            simp at this; exact absurd this.symm hut
          · rw [if_neg hb]; exact ho
        · intro j v m hv hm w' hd hcell
          rw [hmc] at hm
          simp only [setCells] at hm
          rw [List.getElem?_set] at hv hm
          by_cases hj : off = j
          · subst hj
            rw [if_pos rfl] at hv hm
            split at hv
            case isFalse => cases hv
            split at hm
            case isFalse => cases hm
            cases hv; cases hm
            exact hcell (t, off + 1) (.ow e z xs) _ (by simp) hO
          · rw [if_neg hj] at hv hm
            have h2 := hcr j v m hv hm
            refine hcell _ _ _ (by simp) ?_
            cases v <;> first
              | exact OwnR.other hO0 h2 (fun e => by simp at e)
              | exact h2
      · rename_i hgu
        rw [vset_eq] at h
        have hnil : a.eval (.tmp u) = .slice none 0 0 := by have := get_slot hs u; rw [hgu] at this; exact this
        refine plain_store env G hs rfl hcr ho hnp (cs.set off .nl) (by simp) ?_ h
        intro j v m hv hm w' hd hcell
        rw [hnil] at hm
        simp only [Value.cells, setCells] at hm
        rw [List.getElem?_set] at hv hm
        by_cases hj : off = j
        · subst hj
          rw [if_pos rfl] at hv hm
          split at hv
          case isFalse => cases hv
          split at hm
          case isFalse => cases hm
          cases hv; cases hm
          rfl
        · rw [if_neg hj] at hv hm
          exact hcell _ _ _ (by simp) (hcr j v m hv hm)
      · rw [vset_eq] at h; exact hdata h
    · rw [vset_eq] at h; exact hdata h
  · rename_i t j sz hv
    rw [hv] at hx
    have hpt : a.eval x = .pointer (some ⟨G.bl t, j.toNat * sz, none⟩) := hx
    have hslot := get_slot hs t
    split at h
    case h_2 => cases h
    rename_i e sz' xs hcs
    rw [hcs] at hslot
    obtain ⟨ms, hpm, hh, ho, hnp, hr0, hz, h1, hlx, h0, hB⟩ := (hslot : MadeR G w t e sz' xs (a.eval (.tmp t)))
    split at h
    case isFalse => cases h
    rename_i hcond
    obtain ⟨hlen, hsz, hsz', hok⟩ := hcond
    obtain ⟨hjb, h⟩ := bite_none h
    rw [frc_eq, vset_eq] at h
    obtain ⟨hr, hr1⟩ := hy.cells hok
    have hrl := hr.length
    subst hsz'
    have hj : j.toNat < xs.length := by
      simp at hjb; omega
    · have hms : ms.length = xs.length * sz := by rw [← hr0.length, flat_len hz]
      have hfit : j.toNat * sz + sz ≤ ms.length := by
        rw [hms, ← Nat.succ_mul]; exact Nat.mul_le_mul_right _ hj
      have hrun := run_store' (P := P) (w := w) hti hi (g := G.bl t) (off := j.toNat * sz) (ms := ms) (ty := e) (v := a.eval y) hh (by rw [← hrl]; exact hlen) (by rw [hsz]; exact hfit) hr1
      rw [← hpt] at hrun
      have hw := hs.write gws (t := t) (ms := ms) (ms' := setCells ms (j.toNat * sz) (a.eval y).cells.toList) (ty := e) hh ho hnp (.mr e sz (xs.set j.toNat (rdv env y))) (fun w' hh' hd hcell => by
        refine ⟨setCells ms (j.toNat * sz) (a.eval y).cells.toList, by rw [List.length_set]; exact hpm, hh', ho, hnp, ?_, widths_set hz (hlen.trans hsz), setCells_all (p := fun u : Value => u.oneCell' = true) _ _ _ hr1 h1, by rw [List.length_set]; exact hlx, h0, hB⟩
        rw [flat_set hz hj (hlen.trans hsz)]
        have hk : ∀ {vs : List VV} {us : List Value}, DRs G.pd w vs us → DRs G.pd w' vs us := fun {vs us} h => .of h.length fun i v m hv hm => hd _ _ (h.at hv hm)
        exact (hk hr).setCells _ (hk hr0))
      refine wp_skip' (hex _ hrun) (hn G _ _ _ ?_ h)
      rw [hput]; exact hw
  · cases h
end
section
variable {P : Program} {NG : Nat} {GW : World → Prop} {io : List Nat} {w0 : World} {pd0 : Nat → Nat → Prop} {G G' : Gh} {env : Env} {a : Act} {w w' : World}
variable {R : Type} {K : Env → Option R} {r : R} {next : Act → World → Prop} {Q : Exit → Act → World → Prop} {o : Oper} {C : Cx} {ops : List Oper} {dr : Option (List Nat)}
theorem vget_some {β : Type} {xs : List VV} {i : Int} {f : VV → Option β} {r : β} (h : vget xs i f = some r) : ∃ v, xs[i.toNat]? = some v ∧ f v = some r := by
  unfold vget at h
  split at h
  · exact ⟨_, by assumption, h⟩
  · cases h
theorem DR.sl_inv {pd : Nat → Nat → Prop} {xs : List VV} {m : Value} (h : DR pd w (.sl xs) m) : (xs = [] ∧ ∃ A c, m = .slice A 0 c) ∨ ∃ (g off c sz : Nat) (ms : List Value), m = .slice (some ⟨g, off, none⟩) xs.length c ∧ xs.length ≤ c ∧ xs.length ≤ maxLen ∧ (∀ x ∈ xs, x.cells.length = sz) ∧ DRs pd w (xs.flatMap VV.cells) ms ∧ (∀ m ∈ ms, m.oneCell' = true) ∧ ∀ (k : Nat) m, ms[k]? = some m → w.cell? ⟨g, off + k, none⟩ = some m ∧ pd g (off + k) := by
  cases h with
  | sl0 A c => exact .inl ⟨rfl, A, c, rfl⟩
  | sl _ g off c sz ms hc hm hz hr h1 hw => exact .inr ⟨g, off, c, sz, ms, rfl, hc, hm, hz, hr, h1, hw⟩
theorem fieldAddr_sound (hti : TIok P C.ti) (hs : Sim NG GW io w0 pd0 G env a w) (hn : Nx NG GW io w0 pd0 K r next) {st : TypeId} {x : Operand} {f : Nat} (hop : o.op = .fieldAddr st x f) (h : vop C ops dr o env K = some r) : o.wp P a w next Q := by
  have hx := rdv_rel hs x
  simp only [vop, hop] at h
  split at h
  case h_2 => cases h
  rename_i i hi
  split at h
  case h_2 => cases h
  rename_i fs hk
  split at h
  case h_2 => cases h
  rename_i off sz hf
  split at h
  case isTrue => cases h
  rename_i hz
  have hkd := hti.kind st i hi
  rw [hk] at hkd
  obtain ⟨fields, hu, _, hfs⟩ := hkd
  obtain ⟨fd, inf, hfd, hoff, hinf, hsz⟩ := hfs f off sz hf
  have hrun : ∀ g o', a.eval x = .pointer (some ⟨g, o', none⟩) → (execOp a.eval o).run P w = .ok (.value (.pointer (some ⟨g, o' + off, none⟩))) w := by
    intro g o' he
    unfold execOp
    rw [hop]
    simp only [he]
    simp [Instr.fieldAt, run_underlying hu, hfd, Instr.sureAddr, fieldPlace, sizeOf, typeInfo, hinf, hsz, hz, Addr.add_lit, hoff]
  split at h
  · rename_i t o' hv
    rw [hv] at hx
    exact val_sound (v := .pt t (o' + off)) hs hn (hrun _ _ hx.pt_eq) (show _ = _ from rfl) h
  · rename_i cs hv
    rw [hv] at hx
    obtain ⟨g, o', ms, hm, hr, h1, hc⟩ := hx.vw_v
    have hV : ViewR G w (cs.drop off) (.pointer (some ⟨g, o' + off, none⟩)) := ⟨g, o' + off, ms.drop off, rfl, hr.drop off, fun u hu => h1 u (List.mem_of_mem_drop hu), fun k u hu => by
      rw [List.getElem?_drop] at hu
      rw [Nat.add_assoc]; exact hc _ u hu⟩
    exact val_sound (v := .vw (cs.drop off)) hs hn (hrun _ _ hm) hV h
  · cases h
theorem indexAddr_sound (hti : TIok P C.ti) (hs : Sim NG GW io w0 pd0 G env a w) (hn : Nx NG GW io w0 pd0 K r next) {t : TypeId} {x ix : Operand} (hop : o.op = .indexAddr t x ix) (h : vop C ops dr o env K = some r) : o.wp P a w next Q := by
  have hx := rdv_rel hs x
  have hix := rdv_rel hs ix
  simp only [vop, hop] at h
  split at h
  case h_2 => cases h
  rename_i i hi
  split at h
  case h_2 => cases h
  rename_i e hk
  split at h
  case h_2 => cases h
  rename_i ie hie
  have hu := hti.kind t i hi
  rw [hk] at hu
  simp only at hu
  obtain ⟨inf, z, hinf, hzz, hzc, hsz, hby, hzl, hz1, _⟩ := hti.info e ie hie
  have hrun : ∀ g off len cap k (j : Int), a.eval x = .slice (some ⟨g, off, none⟩) len cap → a.eval ix = .int k j → 0 ≤ j → j < (len : Int) → (execOp a.eval o).run P w = .ok (.value (.pointer (some ⟨g, off + j.toNat * ie.sz, none⟩))) w := by
    intro g off len cap k j he1 he2 h0 h1
    unfold execOp
    rw [hop]
    simp only [he1, he2]
    simp [Instr.indexAt, run_underlying hu, asIntOf, h0, h1, sizeOf, typeInfo, hinf, hsz, Addr.add_lit]
  split at h
  · rename_i xs k j hvx hvi
    rw [hvx] at hx
    rw [hvi] at hix
    have hj := hix.sv
    obtain ⟨hb, h⟩ := bite_none h
    simp at hb
    obtain ⟨v, hv, h⟩ := vget_some h
    split at h
    case isFalse => cases h
    rename_i hvl
    rcases hx.sl_dr.sl_inv with ⟨rfl, _⟩ | ⟨g, off, c, sz, ms, hm, hc, hml, hz, hr, h1, hw⟩
    · simp at hv
    · have hsz' : sz = ie.sz := by rw [← hz v (List.mem_of_getElem? hv)]; exact hvl
      subst hsz'
      have hel := flat_elem hz hv
      have hV : ViewR G w v.cells (.pointer (some ⟨g, off + j.toNat * ie.sz, none⟩)) := by
        refine ⟨g, _, (ms.drop (j.toNat * ie.sz)).take ie.sz, rfl, hel ▸ (hr.drop _).take _, fun u hu => h1 u (List.mem_of_mem_drop (List.mem_of_mem_take hu)), fun q u hu => ?_⟩
        have h2 := hw _ _ (drop_take_get hu)
        rw [Nat.add_assoc]
        exact ⟨h2.1, hs.dv _ _ h2.2⟩
      exact val_sound (v := .vw v.cells) hs hn (hrun _ _ _ _ _ _ hm hj hb.1 hb.2) hV h
  · rename_i u n k j hvx hvi
    rw [hvx] at hx
    rw [hvi] at hix
    obtain ⟨hb, h⟩ := bite_none h
    simp at hb
    have hm : a.eval x = .slice (some ⟨G.bl u, 0, none⟩) n n := hx
    refine val_sound (v := .pe u j ie.sz) hs hn (hrun _ _ _ _ _ _ hm hix.sv hb.1 hb.2) ?_ h
    show _ = _
    rw [Nat.zero_add]
  · cases h
theorem append_sound (hti : TIok P C.ti) (gws : ∀ w w', GW w → Below NG w w' → GW w') (hs : Sim NG GW io w0 pd0 G env a w) (hn : Nx NG GW io w0 pd0 K r next) {c : Call} (hop : o.op = .call c) (hc : c.callee = .builtin .append) (h : vop C ops dr o env K = some r) : o.wp P a w next Q := by
  simp only [vop, hop, hc] at h
  split at h
  case h_2 => cases h
  rename_i u y t t' hargs hts
  split at h
  case isFalse => cases h
  rename_i htt
  have htt := Nat.eq_of_beq_eq_true htt
  subst htt
  split at h
  case h_2 => cases h
  rename_i i hi
  split at h
  case h_2 => cases h
  rename_i e hk
  split at h
  case h_2 => cases h
  rename_i ie hie
  split at h
  case isFalse => cases h
  rename_i hpos
  have hy := rdv_rel hs y
  have hca : c.args = #[.tmp u, y] := by rw [← Array.toArray_toList (xs := c.args), hargs]
  have hct : c.argTypes = #[t, t] := by rw [← Array.toArray_toList (xs := c.argTypes), hts]
  have key : ∀ xs ys, (get env u = .ow e ie.sz xs ∨ (get env u = .nl ∧ xs = [])) → rdv env y = .sl ys → (∀ x ∈ ys, x.cells.length = ie.sz) → (xs.length + ys.length) * ie.bytes ≤ 140737488355328 → vset u (.sl xs) env (fun env' => vput dr o.dst (.ow e ie.sz (xs ++ ys)) env' K) = some r → o.wp P a w next Q := by
    intro xs ys hu hvy hz hb hK
    rw [hvy] at hy
    rw [vset_eq] at hK
    obtain ⟨G', v', w', hrun, hs', hO⟩ := append_run (ty := o.type) hti hs gws hi hk hie hpos.1 hpos.2 (o.dst.getD 0, 0) hu hy.sl_dr hz hb
    have hex : (execOp a.eval o).run P w = .ok (.value v') w' := by
      unfold execOp
      rw [hop]
      simp only [resolve, hc, hca, hct, List.map_toArray, List.map_cons, List.map_nil]
      simp [invoke, builtin, hrun]
    refine wp_value hex (hn G' _ _ _ (hs'.put o.dst fun d hd => ?_) (vput_some hK))
    rw [hd] at hO
    exact hO
  split at h
  · rename_i e' z xs ys hgu hvy
    split at h
    case isFalse => cases h
    rename_i hez
    simp at hez
    obtain ⟨rfl, rfl⟩ := hez
    obtain ⟨hb, h⟩ := bite_none h
    simp at hb
    exact key xs ys (.inl hgu) hvy (fun x hx => by have := hb.2 x hx; simpa using this) hb.1 h
  · rename_i ys hgu hvy
    obtain ⟨hb, h⟩ := bite_none h
    simp at hb
    exact key [] ys (.inr ⟨hgu, rfl⟩) hvy (fun x hx => by have := hb.2 x hx; simpa using this) (by simpa using hb.1) (by simpa using h)
  · cases h
end
section
variable {P : Program} {NG : Nat} {GW : World → Prop} {io : List Nat} {w0 : World} {pd0 : Nat → Nat → Prop} {G G' : Gh} {env : Env} {a : Act} {w w' : World}
variable {R : Type} {K : Env → Option R} {r : R} {next : Act → World → Prop} {Q : Exit → Act → World → Prop} {o : Oper} {C : Cx} {ops : List Oper} {dr : Option (List Nat)}
theorem fill_cons (place : Nat → Option (Nat × Nat)) (cells : Array Value) (i off sz : Nat) (v : Value) (rest : List (Nat × Value)) (hp : place i = some (off, sz)) (hv : v.cells.size = sz) (hf : off + sz ≤ cells.size) :
    Instr.fill place cells ((i, v) :: rest) = Instr.fill place (setCells cells.toList off v.cells.toList).toArray rest := by
  rw [Instr.fill]
  simp only [hp]
  rw [if_neg (by simp; omega)]
  congr 1
  have := fold_setCells v.cells.toList cells off 0
  simp only [Nat.add_zero] at this
  rw [← this]
  simp only [Array.toArray_toList]
  rw [← Array.foldl_toList, Array.toList_zipIdx]
theorem fillv_sound (hs : Sim NG GW io w0 pd0 G env a w) {i : TI} {fs : List (Nat × Nat)} (hk : i.k = .agg fs) {place : Nat → Option (Nat × Nat)} (hp : ∀ j o z, fs[j]? = some (o, z) → place j = some (o, z)) : ∀ (parts : List (Nat × Operand)) (cs : List VV) (ms : List Value) (cs' : List VV), DRs G.pd w cs ms → (∀ u ∈ ms, u.oneCell' = true) → fillv i cs (parts.map fun p => (p.1, rdv env p.2)) = some cs' →
    ∃ ms', Instr.fill place ms.toArray (parts.map fun p => (p.1, a.eval p.2)) = some ms'.toArray ∧ DRs G.pd w cs' ms' ∧ ∀ u ∈ ms', u.oneCell' = true
  | [], cs, ms, cs', hr, h1, h => by
    cases h; exact ⟨ms, rfl, hr, h1⟩
  | (j, x) :: rest, cs, ms, cs', hr, h1, h => by
    simp only [List.map_cons, fillv, hk] at h
    split at h
    case h_2 => cases h
    rename_i off sz hf
    split at h
    case isFalse => cases h
    rename_i hc
    obtain ⟨hl, hfit, hok⟩ := hc
    obtain ⟨hr', h1'⟩ := (rdv_rel hs x).cells hok
    have hl' : (rdv env x).cells.length = (a.eval x).cells.toList.length := hr'.length
    have hlc := hr.length
    have hl : (rdv env x).cells.length = sz := hl
    have hes : (a.eval x).cells.size = sz := (Array.length_toList (xs := (a.eval x).cells)).symm.trans (hl'.symm.trans hl)
    obtain ⟨ms', hm', hr2, h2⟩ := fillv_sound hs hk hp rest _ _ cs' (hr'.setCells off hr) (setCells_all (p := fun u : Value => u.oneCell' = true) _ _ _ h1' h1) h
    refine ⟨ms', ?_, hr2, h2⟩
    rw [List.map_cons, fill_cons place _ j off sz _ _ (hp _ _ _ hf) hes (by rw [List.size_toArray]; omega)]
    exact hm'
theorem build_sound (hti : TIok P C.ti) (hs : Sim NG GW io w0 pd0 G env a w) (hn : Nx NG GW io w0 pd0 K r next) {t : TypeId} {parts : Array (Nat × Operand)} (hop : o.op = .build t parts) (h : vop C ops dr o env K = some r) : o.wp P a w next Q := by
  simp only [vop, hop] at h
  split at h
  case h_2 => cases h
  rename_i i hi
  split at h
  case h_2 => cases h
  rename_i fs hk
  split at h
  case h_2 => cases h
  rename_i cs hf
  obtain ⟨inf, z, hinf, hzz, hzc, hsz, hby, hzl, hz1, hagg⟩ := hti.info t i hi
  have hkd := hti.kind t i hi
  · rw [hk] at hkd hagg
    obtain ⟨fields, hu, hfl, hfs⟩ := hkd
    have hpl : fields.toList.mapM (fun f => (P.info? f.type).map fun i => (f.offset, i.size)) = some fs := by
      have : ∀ (l : List Field) (q : List (Nat × Nat)), l.length = q.length → (∀ (j : Nat) o z, q[j]? = some (o, z) → ∃ f inf, l[j]? = some f ∧ f.offset = o ∧ P.info? f.type = some inf ∧ inf.size = z) → l.mapM (fun f => (P.info? f.type).map fun i => (f.offset, i.size)) = some q := by
        intro l
        induction l with
        | nil => intro q hl _; cases q with
          | nil => rfl
          | cons _ _ => simp at hl
        | cons f l ih => intro q hl hq; cases q with
          | nil => simp at hl
          | cons p q =>
            obtain ⟨f', inf', e1, e2, e3, e4⟩ := hq 0 p.1 p.2 rfl
            cases e1
            have := ih q (by simpa using hl) fun j o z hj => hq (j + 1) o z (by simpa using hj)
            simp [List.mapM_cons, e3, this, e2, e4]
      refine this _ _ (by simpa using hfl) fun j o z hj => ?_
      obtain ⟨f, inf', e1, e2⟩ := hfs j o z hj
      exact ⟨f, inf', by simpa using e1, e2⟩
    obtain ⟨ms', hm', hr, h1⟩ := fillv_sound (place := (fs.toArray[·]?)) hs hk (fun j o z hj => by simpa using hj) parts.toList _ i.zero cs (liftcs_rel i.zero) hz1 hf
    have hb : P.built t (parts.map fun x => (x.1, a.eval x.2)).toList = some ms'.toArray := by
      unfold Program.built
      simp only [hinf, hu, hzz, hpl, Array.toList_map]
      have : z.cells = i.zero.toArray := by rw [← hzc]
      rw [this]
      exact hm'
    have hrun := run_build (P := P) w t _ _ hb
    refine val_sound (v := .ag cs) hs hn (m := .agg ms'.toArray) ?_ (VR.of_dr (.ag _ _ hr h1)) h
    unfold execOp
    rw [hop]
    simp only [Sem.run_bind]
    rw [hrun]
    rfl
end
end Go.Proofs.YtcfeihimmboghaaGreatDoor.VI

end
