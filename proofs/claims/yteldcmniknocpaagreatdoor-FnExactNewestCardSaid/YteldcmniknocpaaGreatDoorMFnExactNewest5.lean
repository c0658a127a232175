/- A part of the proof that the law FnExactNewest answers true at every input that its row speaks of. Conditions: the row's own. -/
import Derived.Test.YteldcmniknocpaaGreatDoorMFnExactNewest4
import Derived.Test.YteldcmniknocpaaGreatDoorMFnExactNewest3
import Derived.Test.YteldcmniknocpaaGreatDoorMFnExactNewest1
import Derived.Test.YteldcmniknocpaaGreatDoorMFnExactNewest0
import Derived.Test.YteldcmniknocpaaGreatDoorKFnExactNewest0
section
namespace Go.Proofs.YteldcmniknocpaaGreatDoor.VI
open Go Go.RowKit Go.Proofs.YteldcmniknocpaaGreatDoor.G Go.Proofs.YteldcmniknocpaaGreatDoorW.PrintWords
set_option maxRecDepth 100000
set_option linter.unusedVariables false
set_option linter.unusedSimpArgs false
theorem impl_SortVersions.giv {W : World} (hE : Glob FactE W) (hM : Glob FactM W) (hT : Glob FactT W) : ∀ vs r, impl_SortVersions.gv vs = some r → CallOk1 Tryz.prog W.heap.size (fun w => Below W.heap.size W w) 20 vs r := by
  intro vs r h
  unfold impl_SortVersions.gv at h
  split at h
  case h_2 => cases h
  rename_i q0
  obtain ⟨l0, hq0, h2⟩ := obind_some h
  obtain rfl := unS_inv _ _ hq0
  obtain ⟨q, hq, rfl⟩ := Option.map_eq_some_iff.1 h2
  refine giv_ok ⟨_, Tryz.func20, by kernel_rfl, by kernel_rfl⟩ rfl fun w ms pd hw hd => ?_
  obtain ⟨m0, ms0, rfl, h0, hd⟩ := drs_cons hd
  obtain rfl := drs_nil hd
  unfold impl_SortVersions.f at hq
  by_cases hsm : l0.length ≤ 1048576 ∧ (∀ x ∈ l0, x.size ≤ 1048576)
  case neg => rw [if_neg hsm] at hq; cases hq
  rw [if_pos hsm] at hq
  obtain rfl := Option.some.inj hq
  obtain ⟨k0, hk⟩ := U.pre_ev l0 hsm.1 hsm.2
  have hpre := hk k0 (Nat.le_refl _)
  have hL : (l0.filter fun s => U.isVer (U.L s)).map U.L = (l0.map U.L).filter U.isVer := by rw [List.filter_map]; rfl
  have hlen : (l0.filter fun s => U.isVer (U.L s)).length ≤ 1048576 := Nat.le_trans (List.length_filter_le _ _) hsm.1
  have hvr : ∀ x ∈ (l0.filter fun s => U.isVer (U.L s)).map U.L, U.isVer x = true ∧ x.length ≤ 1048576 := by
    intro x hx
    obtain ⟨b, hb, rfl⟩ := List.mem_map.1 hx
    obtain ⟨hb1, hb2⟩ := List.mem_filter.1 hb
    exact ⟨hb2, by have h8 := hsm.2 b hb1; have h9 := U.size_L b; omega⟩
  refine calls_of_wp Tryz.func20 (show Tryz.f20.body = some code20 by kernel_rfl) (pre_wp hE hM hT hw h0 hpre fun G' env' a' w1 hs' h3 h24 => ?_)
  have hsl := get_slot hs' 3
  rw [h3] at hsl
  obtain ⟨us, ho, hr, hz, hu1, hul, hgo⟩ := (hsl : OwnR G' w1 (3, 0) 9 1 _ _)
  rw [hs'.B] at ho
  obtain ⟨T, D⟩ := a'
  have hdf : D = [] := hs'.df
  subst hdf
  obtain ⟨x0, x1, x2, x3, x4, x5, x6, x7, x8, x9, x10, x11, x12, x13, x14, x15, x16, x17, x18, x19, x20, x21, x22, x23, rfl⟩ := arr24 (T := T) h24
  have ho' : w1.ownsRow w.heap.size 9 1 x3 ((l0.filter fun s => U.isVer (U.L s)).map VV.str).length us := ho
  clear ho hgo
  have hus : us = ((l0.filter fun s => U.isVer (U.L s)).map U.L).map encStr := by
    have e : ((l0.filter fun s => U.isVer (U.L s)).map VV.str).flatMap VV.cells = ((l0.filter fun s => U.isVer (U.L s)).map Value.string).map VV.s := by
      generalize (l0.filter fun s => U.isVer (U.L s)) = l
      induction l with
      | nil => rfl
      | cons x l ih => rw [List.map_cons, List.flatMap_cons, ih]; rfl
    rw [e] at hr
    rw [drs_s _ hr, List.map_map]
    exact List.map_congr_left fun b _ => str_enc b
  rw [List.length_map] at ho'
  have hbw : Below w.heap.size w w1 := ⟨hs'.fr.os, hs'.fr.tape, hs'.fr.output, hs'.fr.size, fun k hk => hs'.fr.block k hk (by simp)⟩
  have hgw : Below W.heap.size W w1 := hs'.gw
  rw [← hL]
  generalize hvs : (l0.filter fun s => U.isVer (U.L s)) = vs at *
  clear hvs hpre hk hs' h3 h24 hr hz hu1 hul
  have enc_map : ∀ l : List (List UInt8), (l.map U.S).map Value.string = l.map encStr := fun l => by rw [List.map_map]; rfl
  by_cases h0l : vs = []
  ·
    subst h0l
    obtain ⟨A, c, rfl⟩ : ∃ A c, x3 = .slice A 0 c := by
      rcases ho'.2 with ⟨rfl, _⟩ | ⟨g, cap, cur, rfl, _⟩
      · exact ⟨_, _, rfl⟩
      · exact ⟨_, _, rfl⟩
    refine tail_wp (P1 := fun a b => b = a) (Tryz.slices_SortFunc_none (α := Int) A c _ w1) (fun w2 h2 => ⟨.slice A 0 c, ?_⟩)
    subst h2
    refine (Tryz.slices_Compact_string_empty A c w2).mono fun e w' ⟨h5, h6⟩ => ⟨h5, ?_⟩
    subst h6
    have hus0 : us = [] := by rw [hus]; rfl
    subst hus0
    exact ⟨hbw, resOf_ow (mk := Value.string) (xs := ([] : List ByteArray)) (fun _ => rfl) (Nat.zero_le _) ho'⟩
  ·
    rcases ho'.2 with ⟨_, h5⟩ | ⟨g, cap, cur, rfl, hg, hb, hc1, hc2, hc3, hc4⟩
    · exact absurd (List.eq_nil_of_length_eq_zero h5) h0l
    have hmp : ((vs.map U.L).attach.map fun x => (⟨x.1, hvr x.1 x.2⟩ : Ver)).map Subtype.val = vs.map U.L := by
      rw [List.map_map]
      exact List.attach_map_subtype_val _
    generalize hds : ((vs.map U.L).attach.map fun x => (⟨x.1, hvr x.1 x.2⟩ : Ver)) = s at hmp
    have hsl : s.length = vs.length := by have := congrArg List.length hmp; simpa using this
    haveI : Inhabited Ver := ⟨s.head (by intro h; rw [h] at hsl; exact h0l (List.eq_nil_of_length_eq_zero hsl.symm))⟩
    have hgl : g < w1.heap.size := (Array.getElem?_eq_some_iff.1 hb).1
    have hH : Go.Sort.Holds encV w1 g 0 s.toArray := holds_val (by
      rw [hmp]
      refine holds_of_block hb ?_
      rw [← hus, ← hc4, List.length_map, Nat.mul_one])
    have C1 := sort_calls hE hM hT hgw (cap := cap) (by have := hw.size; omega) hgl s.toArray hH (by rw [List.size_toArray]; omega)
    rw [List.size_toArray, hsl] at C1
    refine tail_wp (P1 := fun a b => ∃ n os, b = sortWorld encV a g 0 n (s.mergeSort fun x y => !(ltOf cfV) y x).toArray os) C1 (fun w2 h2 => ?_)
    obtain ⟨n, os, h2⟩ := h2
    obtain ⟨zs, hz1, hz2, hz3, hz4, hz5⟩ := row_end (w := w1) (w1 := w2) (B := w.heap.size) (g := g) (cap := cap) (n := n) (os := os) (cur := cur) (l := vs.map U.L) (s := s) (fun x hx => (hvr x hx).1) hmp hg hb (by rw [List.length_map]; exact hc1) hc2 hc3 h2
    rw [List.length_map] at hz1
    refine ⟨.slice (some ⟨g, 0, none⟩) (Lib.compact zs).length cap, ?_⟩
    have C2 := Tryz.slices_Compact_string g 0 cap zs w2 hz4 (by omega) (by omega)
    rw [hz1] at C2
    refine C2.mono fun e w3 ⟨h6, q, h7⟩ => ⟨h6, ?_⟩
    rw [← hz1] at h7
    have hown := hz5 w3 q h7
    have hb2 : Below w.heap.size w w2 := by rw [h2]; exact below_sort (W := w) hbw hg
    have hb3 : Below w.heap.size w w3 := by
      rw [h7, ← Go.Sort.grow_empty (Go.Sort.putRow _ _ _ _ _)]
      exact below_sort (W := w) (enc := encStr) (os := #[]) hb2 hg
    refine ⟨hb3, resOf_ow (mk := Value.string) (fun _ => rfl) ?_ ?_⟩
    · rw [List.length_map, ← hz2]; simp only [maxLen]; omega
    · rw [enc_map, List.length_map, ← hz2]; exact hown
theorem given_ok {W : World} (hE : Glob FactE W) (hM : Glob FactM W) (hT : Glob FactT W) : GivenOk Tryz.prog W.heap.size (fun w => Below W.heap.size W w) Gv := by
  intro f g vs r hg hr
  unfold Gv at hg
  split at hg
  · cases hg; exact impl_SortVersions.giv hE hM hT vs r hr
  · exact given_ok0 hE hM hT _ g vs r hg hr
end Go.Proofs.YteldcmniknocpaaGreatDoor.VI

end
section
namespace Go.Proofs.YteldcmniknocpaaGreatDoor.VI
open Go Go.RowKit Go.Proofs.YteldcmniknocpaaGreatDoor.G Go.Proofs.YteldcmniknocpaaGreatDoorW.PrintWords
set_option maxRecDepth 100000
set_option maxHeartbeats 1000000
set_option linter.unusedVariables false
theorem impl_SortVersions.vi {m : Nat} {Gv : FuncId → Option (List VV → Option (VV × List VV))} (hG : Base Gv) (hL20 : Gv 20 = some impl_SortVersions.gv) (hm : 1 ≤ m) (l0 : List ByteArray) : Im (fun r => (.ow 9 1 (r.map VV.str), [])) (impl_SortVersions.f l0) (callv Tryz.prog ti keep Gv m 20 [.sl (l0.map VV.str)]) := by
  obtain ⟨m, rfl⟩ : ∃ m', m = m' + 1 := ⟨m - 1, by omega⟩
  rw [show callv Tryz.prog ti keep Gv (m + 1) 20 _ = _ from callv_given hL20]
  intro r h
  show obind (unS (l0.map VV.str)) _ = _
  rw [unS_map]
  show (impl_SortVersions.f l0).map _ = _
  rw [h]
  rfl
end Go.Proofs.YteldcmniknocpaaGreatDoor.VI

end
section
namespace Go.Proofs.YteldcmniknocpaaGreatDoor.VI
open Go Go.RowKit Go.Proofs.YteldcmniknocpaaGreatDoor.G Go.Proofs.YteldcmniknocpaaGreatDoorW.PrintWords
set_option maxRecDepth 100000
set_option maxHeartbeats 1000000
attribute [local irreducible] bite obind vget
theorem impl_Newest.vi {k m : Nat} {Gv : FuncId → Option (List VV → Option (VV × List VV))} (hG : Base Gv) (hL20 : Gv 20 = some impl_SortVersions.gv) (hm : k + 8 ≤ m) (l0 : List ByteArray) : Im (fun r => (.str r, [])) (impl_Newest.f k l0) (callv Tryz.prog ti keep Gv m 17 [.sl (l0.map VV.str)]) := by
  obtain ⟨m, rfl⟩ : ∃ m', m = m' + 1 := ⟨m - 1, by omega⟩
  rw [show callv Tryz.prog ti keep Gv (m + 1) 17 _ = _ from callv_enter ((hG 17 (by decide)).trans rfl) Tryz.func17 (by kernel_rfl) rfl rfl]
  unfold impl_Newest.f
  repeat' first
    | (with_reducible first | exact Im.none | refine Im.ite (fun h => ?_) (fun h => ?_) | refine Im.sbind ?_)
    | ((conv => arg 3; whnf); first
      | ((with_reducible refine Im.fin ?_); exact zr)
      | ((with_reducible refine Im.anyo ?_ ?_); (next => kernel_rfl))
      | ((with_reducible refine Im.bite_t ?_ ?_); (next => exact zd))
      | ((with_reducible refine Im.must ?_ ?_); (next => exact zd))
      | ((with_reducible refine Im.bite_f ?_ ?_); (next => exact zd))
      | (with_reducible refine Im.byl ?_)
      | ((with_reducible refine Im.vget ByteArray.empty ?_ ?_ ?_); (next => exact zd); (next => exact zd))
      | ((with_reducible refine Im.vget z51 ?_ ?_ ?_); (next => exact zd); (next => exact zd))
      | ((with_reducible refine Im.vget z44 ?_ ?_ ?_); (next => exact zd); (next => exact zd))
      | ((with_reducible refine Im.vget z124 ?_ ?_ ?_); (next => exact zd); (next => exact zd))
      | ((with_reducible refine Im.vget z66 ?_ ?_ ?_); (next => exact zd); (next => exact zd))
      | ((with_reducible refine Im.vget z97 ?_ ?_ ?_); (next => exact zd); (next => exact zd))
      | ((with_reducible refine Im.vget (0 : Int) ?_ ?_ ?_); (next => exact zd); (next => exact zd))
      | ((with_reducible refine Im.vget false ?_ ?_ ?_); (next => exact zd); (next => exact zd))
      | ((with_reducible refine Im.call (impl_ReadVersion.vi hG ?_ _) ?_ (fun r hr => ?_)); (next => omega); (next => exact zr))
      | ((with_reducible refine Im.call (impl_SortVersions.vi hG hL20 ?_ _) ?_ (fun r hr => ?_)); (next => omega); (next => exact zr))
      | ((with_reducible refine Im.loop (S := fun s : List ByteArray × Int => [.un, .un, .un, .ow 9 1 (s.1.map VV.str), .int s.2, .un, .un, .un, .un, .un, .un, .un, .un, .un, .un, .un, .un, .un, .un, .un, .un, .un, .un, .un, .un, .un, .un, .un, .un, .un, .un, .un, .un, .un, .un, .un, .un, .un, .un, .un, .un]) (L := fun k s => impl_Newest.l0 k s.1 s.2) _ ?_ ?_ _ _ ⟨_, _⟩ _ (Nat.le_refl _) zo ?_)
         (next => intro s; rfl)
         (next =>
           intro k1 M1 ⟨x3, x4⟩ hk1 hM1 ih1
           conv => arg 2; simp only [impl_Newest.l0]
           repeat' first
             | (with_reducible first | exact Im.none | refine Im.ite (fun h => ?_) (fun h => ?_) | refine Im.sbind ?_)
             | ((conv => arg 3; whnf); first
               | ((with_reducible refine Im.fin ?_); exact zr)
               | ((with_reducible refine Im.anyo ?_ ?_); (next => kernel_rfl))
               | ((with_reducible refine Im.bite_t ?_ ?_); (next => exact zd))
               | ((with_reducible refine Im.must ?_ ?_); (next => exact zd))
               | ((with_reducible refine Im.bite_f ?_ ?_); (next => exact zd))
               | (with_reducible refine Im.byl ?_)
               | ((with_reducible refine Im.vget ByteArray.empty ?_ ?_ ?_); (next => exact zd); (next => exact zd))
               | ((with_reducible refine Im.vget z51 ?_ ?_ ?_); (next => exact zd); (next => exact zd))
               | ((with_reducible refine Im.vget z44 ?_ ?_ ?_); (next => exact zd); (next => exact zd))
               | ((with_reducible refine Im.vget z124 ?_ ?_ ?_); (next => exact zd); (next => exact zd))
               | ((with_reducible refine Im.vget z66 ?_ ?_ ?_); (next => exact zd); (next => exact zd))
               | ((with_reducible refine Im.vget z97 ?_ ?_ ?_); (next => exact zd); (next => exact zd))
               | ((with_reducible refine Im.vget (0 : Int) ?_ ?_ ?_); (next => exact zd); (next => exact zd))
               | ((with_reducible refine Im.vget false ?_ ?_ ?_); (next => exact zd); (next => exact zd))
               | ((with_reducible refine Im.call (impl_ReadVersion.vi hG ?_ _) ?_ (fun r hr => ?_)); (next => omega); (next => exact zr))
               | ((with_reducible refine Im.call (impl_SortVersions.vi hG hL20 ?_ _) ?_ (fun r hr => ?_)); (next => omega); (next => exact zr))
               | ((with_reducible refine ih1 _ ⟨_, _⟩ _ ?_ ?_); (next => exact zo); exact zr)
               | exact zm | exact zx | fail)
           all_goals skip)
         exact zr)
      | exact zm | exact zx | fail)
  all_goals skip
theorem laws_eqStringS.vi {k m : Nat} {Gv : FuncId → Option (List VV → Option (VV × List VV))} (hG : Base Gv) (hm : k + 1 ≤ m) (l0 : List ByteArray) (l1 : List ByteArray) : Im (fun r => (.bool r, [])) (laws_eqStringS.f k l0 l1) (callv Tryz.prog ti keep Gv m 18 [.sl (l0.map VV.str), .sl (l1.map VV.str)]) := by
  obtain ⟨m, rfl⟩ : ∃ m', m = m' + 1 := ⟨m - 1, by omega⟩
  rw [show callv Tryz.prog ti keep Gv (m + 1) 18 _ = _ from callv_enter ((hG 18 (by decide)).trans rfl) Tryz.func18 (by kernel_rfl) rfl rfl]
  unfold laws_eqStringS.f
  repeat' first
    | (with_reducible first | exact Im.none | refine Im.ite (fun h => ?_) (fun h => ?_) | refine Im.sbind ?_)
    | ((conv => arg 3; whnf); first
      | ((with_reducible refine Im.fin ?_); exact zr)
      | ((with_reducible refine Im.anyo ?_ ?_); (next => kernel_rfl))
      | ((with_reducible refine Im.bite_t ?_ ?_); (next => exact zd))
      | ((with_reducible refine Im.must ?_ ?_); (next => exact zd))
      | ((with_reducible refine Im.bite_f ?_ ?_); (next => exact zd))
      | (with_reducible refine Im.byl ?_)
      | ((with_reducible refine Im.vget ByteArray.empty ?_ ?_ ?_); (next => exact zd); (next => exact zd))
      | ((with_reducible refine Im.vget z51 ?_ ?_ ?_); (next => exact zd); (next => exact zd))
      | ((with_reducible refine Im.vget z44 ?_ ?_ ?_); (next => exact zd); (next => exact zd))
      | ((with_reducible refine Im.vget z124 ?_ ?_ ?_); (next => exact zd); (next => exact zd))
      | ((with_reducible refine Im.vget z66 ?_ ?_ ?_); (next => exact zd); (next => exact zd))
      | ((with_reducible refine Im.vget z97 ?_ ?_ ?_); (next => exact zd); (next => exact zd))
      | ((with_reducible refine Im.vget (0 : Int) ?_ ?_ ?_); (next => exact zd); (next => exact zd))
      | ((with_reducible refine Im.vget false ?_ ?_ ?_); (next => exact zd); (next => exact zd))
      | ((with_reducible refine Im.loop (S := fun s : List ByteArray × List ByteArray × Int => [.sl (s.1.map VV.str), .sl (s.2.1.map VV.str), .un, .un, .un, .int s.2.2, .un, .un, .un, .un, .un, .un, .un, .un, .un, .un, .un, .un, .un, .un, .un, .un, .un, .un, .un, .un]) (L := fun k s => laws_eqStringS.l0 k s.1 s.2.1 s.2.2) _ ?_ ?_ _ _ ⟨_, _, _⟩ _ (Nat.le_refl _) zo ?_)
         (next => intro s; rfl)
         (next =>
           intro k1 M1 ⟨x0, x1, x5⟩ hk1 hM1 ih1
           conv => arg 2; simp only [laws_eqStringS.l0]
           repeat' first
             | (with_reducible first | exact Im.none | refine Im.ite (fun h => ?_) (fun h => ?_) | refine Im.sbind ?_)
             | ((conv => arg 3; whnf); first
               | ((with_reducible refine Im.fin ?_); exact zr)
               | ((with_reducible refine Im.anyo ?_ ?_); (next => kernel_rfl))
               | ((with_reducible refine Im.bite_t ?_ ?_); (next => exact zd))
               | ((with_reducible refine Im.must ?_ ?_); (next => exact zd))
               | ((with_reducible refine Im.bite_f ?_ ?_); (next => exact zd))
               | (with_reducible refine Im.byl ?_)
               | ((with_reducible refine Im.vget ByteArray.empty ?_ ?_ ?_); (next => exact zd); (next => exact zd))
               | ((with_reducible refine Im.vget z51 ?_ ?_ ?_); (next => exact zd); (next => exact zd))
               | ((with_reducible refine Im.vget z44 ?_ ?_ ?_); (next => exact zd); (next => exact zd))
               | ((with_reducible refine Im.vget z124 ?_ ?_ ?_); (next => exact zd); (next => exact zd))
               | ((with_reducible refine Im.vget z66 ?_ ?_ ?_); (next => exact zd); (next => exact zd))
               | ((with_reducible refine Im.vget z97 ?_ ?_ ?_); (next => exact zd); (next => exact zd))
               | ((with_reducible refine Im.vget (0 : Int) ?_ ?_ ?_); (next => exact zd); (next => exact zd))
               | ((with_reducible refine Im.vget false ?_ ?_ ?_); (next => exact zd); (next => exact zd))
               | ((with_reducible refine ih1 _ ⟨_, _, _⟩ _ ?_ ?_); (next => exact zo); exact zr)
               | exact zm | exact zx | fail)
           all_goals skip)
         exact zr)
      | exact zm | exact zx | fail)
  all_goals skip
theorem laws_szStringS.vi {k m : Nat} {Gv : FuncId → Option (List VV → Option (VV × List VV))} (hG : Base Gv) (hm : k + 1 ≤ m) (l0 : List ByteArray) (a1 : Int) : Im (fun r => (.int r, [])) (laws_szStringS.f k l0 a1) (callv Tryz.prog ti keep Gv m 14 [.sl (l0.map VV.str), .int a1]) := by
  obtain ⟨m, rfl⟩ : ∃ m', m = m' + 1 := ⟨m - 1, by omega⟩
  rw [show callv Tryz.prog ti keep Gv (m + 1) 14 _ = _ from callv_enter ((hG 14 (by decide)).trans rfl) Tryz.func14 (by kernel_rfl) rfl rfl]
  unfold laws_szStringS.f
  repeat' first
    | (with_reducible first | exact Im.none | refine Im.ite (fun h => ?_) (fun h => ?_) | refine Im.sbind ?_)
    | ((conv => arg 3; whnf); first
      | ((with_reducible refine Im.fin ?_); exact zr)
      | ((with_reducible refine Im.anyo ?_ ?_); (next => kernel_rfl))
      | ((with_reducible refine Im.bite_t ?_ ?_); (next => exact zd))
      | ((with_reducible refine Im.must ?_ ?_); (next => exact zd))
      | ((with_reducible refine Im.bite_f ?_ ?_); (next => exact zd))
      | (with_reducible refine Im.byl ?_)
      | ((with_reducible refine Im.vget ByteArray.empty ?_ ?_ ?_); (next => exact zd); (next => exact zd))
      | ((with_reducible refine Im.vget z51 ?_ ?_ ?_); (next => exact zd); (next => exact zd))
      | ((with_reducible refine Im.vget z44 ?_ ?_ ?_); (next => exact zd); (next => exact zd))
      | ((with_reducible refine Im.vget z124 ?_ ?_ ?_); (next => exact zd); (next => exact zd))
      | ((with_reducible refine Im.vget z66 ?_ ?_ ?_); (next => exact zd); (next => exact zd))
      | ((with_reducible refine Im.vget z97 ?_ ?_ ?_); (next => exact zd); (next => exact zd))
      | ((with_reducible refine Im.vget (0 : Int) ?_ ?_ ?_); (next => exact zd); (next => exact zd))
      | ((with_reducible refine Im.vget false ?_ ?_ ?_); (next => exact zd); (next => exact zd))
      | ((with_reducible refine Im.loop (S := fun s : List ByteArray × Int × Int => [.sl (s.1.map VV.str), .int s.2.1, .un, .un, .un, .int s.2.2, .un, .un, .un, .un, .un, .un, .un, .un, .un, .un, .un, .un, .un, .un, .un, .un, .un, .un, .un, .un, .un, .un]) (L := fun k s => laws_szStringS.l0 k s.1 s.2.1 s.2.2) _ ?_ ?_ _ _ ⟨_, _, _⟩ _ (Nat.le_refl _) zo ?_)
         (next => intro s; rfl)
         (next =>
           intro k1 M1 ⟨x0, x1, x5⟩ hk1 hM1 ih1
           conv => arg 2; simp only [laws_szStringS.l0]
           repeat' first
             | (with_reducible first | exact Im.none | refine Im.ite (fun h => ?_) (fun h => ?_) | refine Im.sbind ?_)
             | ((conv => arg 3; whnf); first
               | ((with_reducible refine Im.fin ?_); exact zr)
               | ((with_reducible refine Im.anyo ?_ ?_); (next => kernel_rfl))
               | ((with_reducible refine Im.bite_t ?_ ?_); (next => exact zd))
               | ((with_reducible refine Im.must ?_ ?_); (next => exact zd))
               | ((with_reducible refine Im.bite_f ?_ ?_); (next => exact zd))
               | (with_reducible refine Im.byl ?_)
               | ((with_reducible refine Im.vget ByteArray.empty ?_ ?_ ?_); (next => exact zd); (next => exact zd))
               | ((with_reducible refine Im.vget z51 ?_ ?_ ?_); (next => exact zd); (next => exact zd))
               | ((with_reducible refine Im.vget z44 ?_ ?_ ?_); (next => exact zd); (next => exact zd))
               | ((with_reducible refine Im.vget z124 ?_ ?_ ?_); (next => exact zd); (next => exact zd))
               | ((with_reducible refine Im.vget z66 ?_ ?_ ?_); (next => exact zd); (next => exact zd))
               | ((with_reducible refine Im.vget z97 ?_ ?_ ?_); (next => exact zd); (next => exact zd))
               | ((with_reducible refine Im.vget (0 : Int) ?_ ?_ ?_); (next => exact zd); (next => exact zd))
               | ((with_reducible refine Im.vget false ?_ ?_ ?_); (next => exact zd); (next => exact zd))
               | ((with_reducible refine ih1 _ ⟨_, _, _⟩ _ ?_ ?_); (next => exact zo); exact zr)
               | exact zm | exact zx | fail)
           all_goals skip)
         exact zr)
      | exact zm | exact zx | fail)
  all_goals skip
theorem laws_toStringS.vi {k m : Nat} {Gv : FuncId → Option (List VV → Option (VV × List VV))} (hG : Base Gv) (hm : k + 1 ≤ m) (l0 : List ByteArray) : Im (fun r => (.ow 9 1 (r.map VV.str), [])) (laws_toStringS.f k l0) (callv Tryz.prog ti keep Gv m 16 [.sl (l0.map VV.str)]) := by
  obtain ⟨m, rfl⟩ : ∃ m', m = m' + 1 := ⟨m - 1, by omega⟩
  rw [show callv Tryz.prog ti keep Gv (m + 1) 16 _ = _ from callv_enter ((hG 16 (by decide)).trans rfl) Tryz.func16 (by kernel_rfl) rfl rfl]
  unfold laws_toStringS.f
  repeat' first
    | (with_reducible first | exact Im.none | refine Im.ite (fun h => ?_) (fun h => ?_) | refine Im.sbind ?_)
    | ((conv => arg 3; whnf); first
      | ((with_reducible refine Im.fin ?_); exact zr)
      | ((with_reducible refine Im.anyo ?_ ?_); (next => kernel_rfl))
      | ((with_reducible refine Im.bite_t ?_ ?_); (next => exact zd))
      | ((with_reducible refine Im.must ?_ ?_); (next => exact zd))
      | ((with_reducible refine Im.bite_f ?_ ?_); (next => exact zd))
      | (with_reducible refine Im.byl ?_)
      | ((with_reducible refine Im.vget ByteArray.empty ?_ ?_ ?_); (next => exact zd); (next => exact zd))
      | ((with_reducible refine Im.vget z51 ?_ ?_ ?_); (next => exact zd); (next => exact zd))
      | ((with_reducible refine Im.vget z44 ?_ ?_ ?_); (next => exact zd); (next => exact zd))
      | ((with_reducible refine Im.vget z124 ?_ ?_ ?_); (next => exact zd); (next => exact zd))
      | ((with_reducible refine Im.vget z66 ?_ ?_ ?_); (next => exact zd); (next => exact zd))
      | ((with_reducible refine Im.vget z97 ?_ ?_ ?_); (next => exact zd); (next => exact zd))
      | ((with_reducible refine Im.vget (0 : Int) ?_ ?_ ?_); (next => exact zd); (next => exact zd))
      | ((with_reducible refine Im.vget false ?_ ?_ ?_); (next => exact zd); (next => exact zd))
      | ((with_reducible refine Im.loop (S := fun s : List ByteArray × List ByteArray × Int => [.sl (s.1.map VV.str), .un, .un, .sr 7 s.2.1.length, .int s.2.2, .un, .un, .mr 9 1 (s.2.1.map VV.str), .un, .un, .un, .un, .un, .un, .un, .un, .un, .un, .un, .un, .un, .un]) (L := fun k s => laws_toStringS.l0 k s.1 s.2.1 s.2.2) _ ?_ ?_ _ _ ⟨_, _, _⟩ _ (Nat.le_refl _) zo ?_)
         (next => intro s; rfl)
         (next =>
           intro k1 M1 ⟨x0, x3, x4⟩ hk1 hM1 ih1
           conv => arg 2; simp only [laws_toStringS.l0]
           repeat' first
             | (with_reducible first | exact Im.none | refine Im.ite (fun h => ?_) (fun h => ?_) | refine Im.sbind ?_)
             | ((conv => arg 3; whnf); first
               | ((with_reducible refine Im.fin ?_); exact zr)
               | ((with_reducible refine Im.anyo ?_ ?_); (next => kernel_rfl))
               | ((with_reducible refine Im.bite_t ?_ ?_); (next => exact zd))
               | ((with_reducible refine Im.must ?_ ?_); (next => exact zd))
               | ((with_reducible refine Im.bite_f ?_ ?_); (next => exact zd))
               | (with_reducible refine Im.byl ?_)
               | ((with_reducible refine Im.vget ByteArray.empty ?_ ?_ ?_); (next => exact zd); (next => exact zd))
               | ((with_reducible refine Im.vget z51 ?_ ?_ ?_); (next => exact zd); (next => exact zd))
               | ((with_reducible refine Im.vget z44 ?_ ?_ ?_); (next => exact zd); (next => exact zd))
               | ((with_reducible refine Im.vget z124 ?_ ?_ ?_); (next => exact zd); (next => exact zd))
               | ((with_reducible refine Im.vget z66 ?_ ?_ ?_); (next => exact zd); (next => exact zd))
               | ((with_reducible refine Im.vget z97 ?_ ?_ ?_); (next => exact zd); (next => exact zd))
               | ((with_reducible refine Im.vget (0 : Int) ?_ ?_ ?_); (next => exact zd); (next => exact zd))
               | ((with_reducible refine Im.vget false ?_ ?_ ?_); (next => exact zd); (next => exact zd))
               | ((with_reducible refine ih1 _ ⟨_, _, _⟩ _ ?_ ?_); (next => exact zo); exact zr)
               | exact zm | exact zx | fail)
           all_goals skip)
         exact zr)
      | exact zm | exact zx | fail)
  all_goals skip
theorem spec_l02Less.vi {m : Nat} {Gv : FuncId → Option (List VV → Option (VV × List VV))} (hG : Base Gv) (hm : 1 ≤ m) (a0 : Int) (a1 : Int) : Im (fun r => (.int r, [])) (spec_l02Less.f a0 a1) (callv Tryz.prog ti keep Gv m 68 [.int a0, .int a1]) := by
  obtain ⟨m, rfl⟩ : ∃ m', m = m' + 1 := ⟨m - 1, by omega⟩
  rw [show callv Tryz.prog ti keep Gv (m + 1) 68 _ = _ from callv_enter ((hG 68 (by decide)).trans rfl) Tryz.func68 (by kernel_rfl) rfl rfl]
  unfold spec_l02Less.f
  repeat' first
    | (with_reducible first | exact Im.none | refine Im.ite (fun h => ?_) (fun h => ?_) | refine Im.sbind ?_)
    | ((conv => arg 3; whnf); first
      | ((with_reducible refine Im.fin ?_); exact zr)
      | ((with_reducible refine Im.anyo ?_ ?_); (next => kernel_rfl))
      | ((with_reducible refine Im.bite_t ?_ ?_); (next => exact zd))
      | ((with_reducible refine Im.must ?_ ?_); (next => exact zd))
      | ((with_reducible refine Im.bite_f ?_ ?_); (next => exact zd))
      | (with_reducible refine Im.byl ?_)
      | ((with_reducible refine Im.vget ByteArray.empty ?_ ?_ ?_); (next => exact zd); (next => exact zd))
      | ((with_reducible refine Im.vget z51 ?_ ?_ ?_); (next => exact zd); (next => exact zd))
      | ((with_reducible refine Im.vget z44 ?_ ?_ ?_); (next => exact zd); (next => exact zd))
      | ((with_reducible refine Im.vget z124 ?_ ?_ ?_); (next => exact zd); (next => exact zd))
      | ((with_reducible refine Im.vget z66 ?_ ?_ ?_); (next => exact zd); (next => exact zd))
      | ((with_reducible refine Im.vget z97 ?_ ?_ ?_); (next => exact zd); (next => exact zd))
      | ((with_reducible refine Im.vget (0 : Int) ?_ ?_ ?_); (next => exact zd); (next => exact zd))
      | ((with_reducible refine Im.vget false ?_ ?_ ?_); (next => exact zd); (next => exact zd))
      | exact zm | exact zx | fail)
  all_goals skip
theorem spec_DecText.vi {k m : Nat} {Gv : FuncId → Option (List VV → Option (VV × List VV))} (hG : Base Gv) (hm : k + 1 ≤ m) (a0 : Int) : Im (fun r => (.str r, [])) (spec_DecText.f k a0) (callv Tryz.prog ti keep Gv m 98 [.int a0]) := by
  obtain ⟨m, rfl⟩ : ∃ m', m = m' + 1 := ⟨m - 1, by omega⟩
  rw [show callv Tryz.prog ti keep Gv (m + 1) 98 _ = _ from callv_enter ((hG 98 (by decide)).trans rfl) Tryz.func98 (by kernel_rfl) rfl rfl]
  unfold spec_DecText.f
  repeat' first
    | (with_reducible first | exact Im.none | refine Im.ite (fun h => ?_) (fun h => ?_) | refine Im.sbind ?_)
    | ((conv => arg 3; whnf); first
      | ((with_reducible refine Im.fin ?_); exact zr)
      | ((with_reducible refine Im.anyo ?_ ?_); (next => kernel_rfl))
      | ((with_reducible refine Im.bite_t ?_ ?_); (next => exact zd))
      | ((with_reducible refine Im.must ?_ ?_); (next => exact zd))
      | ((with_reducible refine Im.bite_f ?_ ?_); (next => exact zd))
      | (with_reducible refine Im.byl ?_)
      | ((with_reducible refine Im.vget ByteArray.empty ?_ ?_ ?_); (next => exact zd); (next => exact zd))
      | ((with_reducible refine Im.vget z51 ?_ ?_ ?_); (next => exact zd); (next => exact zd))
      | ((with_reducible refine Im.vget z44 ?_ ?_ ?_); (next => exact zd); (next => exact zd))
      | ((with_reducible refine Im.vget z124 ?_ ?_ ?_); (next => exact zd); (next => exact zd))
      | ((with_reducible refine Im.vget z66 ?_ ?_ ?_); (next => exact zd); (next => exact zd))
      | ((with_reducible refine Im.vget z97 ?_ ?_ ?_); (next => exact zd); (next => exact zd))
      | ((with_reducible refine Im.vget (0 : Int) ?_ ?_ ?_); (next => exact zd); (next => exact zd))
      | ((with_reducible refine Im.vget false ?_ ?_ ?_); (next => exact zd); (next => exact zd))
      | ((with_reducible refine Im.loop (S := fun s : Int × ByteArray × Int => [.int s.1, .un, .un, .str s.2.1, .int s.2.2, .un, .un, .un, .un, .un, .un, .un, .un, .un, .un, .un, .un, .un, .un, .un, .un, .un, .un, .un, .un, .un, .un, .un, .un, .un]) (L := fun k s => spec_DecText.l0 k s.1 s.2.1 s.2.2) _ ?_ ?_ _ _ ⟨_, _, _⟩ _ (Nat.le_refl _) zo ?_)
         (next => intro s; rfl)
         (next =>
           intro k1 M1 ⟨x0, x3, x4⟩ hk1 hM1 ih1
           conv => arg 2; simp only [spec_DecText.l0]
           repeat' first
             | (with_reducible first | exact Im.none | refine Im.ite (fun h => ?_) (fun h => ?_) | refine Im.sbind ?_)
             | ((conv => arg 3; whnf); first
               | ((with_reducible refine Im.fin ?_); exact zr)
               | ((with_reducible refine Im.anyo ?_ ?_); (next => kernel_rfl))
               | ((with_reducible refine Im.bite_t ?_ ?_); (next => exact zd))
               | ((with_reducible refine Im.must ?_ ?_); (next => exact zd))
               | ((with_reducible refine Im.bite_f ?_ ?_); (next => exact zd))
               | (with_reducible refine Im.byl ?_)
               | ((with_reducible refine Im.vget ByteArray.empty ?_ ?_ ?_); (next => exact zd); (next => exact zd))
               | ((with_reducible refine Im.vget z51 ?_ ?_ ?_); (next => exact zd); (next => exact zd))
               | ((with_reducible refine Im.vget z44 ?_ ?_ ?_); (next => exact zd); (next => exact zd))
               | ((with_reducible refine Im.vget z124 ?_ ?_ ?_); (next => exact zd); (next => exact zd))
               | ((with_reducible refine Im.vget z66 ?_ ?_ ?_); (next => exact zd); (next => exact zd))
               | ((with_reducible refine Im.vget z97 ?_ ?_ ?_); (next => exact zd); (next => exact zd))
               | ((with_reducible refine Im.vget (0 : Int) ?_ ?_ ?_); (next => exact zd); (next => exact zd))
               | ((with_reducible refine Im.vget false ?_ ?_ ?_); (next => exact zd); (next => exact zd))
               | ((with_reducible refine ih1 _ ⟨_, _, _⟩ _ ?_ ?_); (next => exact zo); exact zr)
               | exact zm | exact zx | fail)
           all_goals skip)
         exact zr)
      | exact zm | exact zx | fail)
  all_goals skip
theorem spec_l01In.vi {m : Nat} {Gv : FuncId → Option (List VV → Option (VV × List VV))} (hG : Base Gv) (hm : 1 ≤ m) (a0 : Int) (a1 : Int) (a2 : Int) : Im (fun r => (.bool r, [])) (spec_l01In.f a0 a1 a2) (callv Tryz.prog ti keep Gv m 76 [.int a0, .int a1, .int a2]) := by
  obtain ⟨m, rfl⟩ : ∃ m', m = m' + 1 := ⟨m - 1, by omega⟩
  rw [show callv Tryz.prog ti keep Gv (m + 1) 76 _ = _ from callv_enter ((hG 76 (by decide)).trans rfl) Tryz.func76 (by kernel_rfl) rfl rfl]
  unfold spec_l01In.f
  repeat' first
    | (with_reducible first | exact Im.none | refine Im.ite (fun h => ?_) (fun h => ?_) | refine Im.sbind ?_)
    | ((conv => arg 3; whnf); first
      | ((with_reducible refine Im.fin ?_); exact zr)
      | ((with_reducible refine Im.anyo ?_ ?_); (next => kernel_rfl))
      | ((with_reducible refine Im.bite_t ?_ ?_); (next => exact zd))
      | ((with_reducible refine Im.must ?_ ?_); (next => exact zd))
      | ((with_reducible refine Im.bite_f ?_ ?_); (next => exact zd))
      | (with_reducible refine Im.byl ?_)
      | ((with_reducible refine Im.vget ByteArray.empty ?_ ?_ ?_); (next => exact zd); (next => exact zd))
      | ((with_reducible refine Im.vget z51 ?_ ?_ ?_); (next => exact zd); (next => exact zd))
      | ((with_reducible refine Im.vget z44 ?_ ?_ ?_); (next => exact zd); (next => exact zd))
      | ((with_reducible refine Im.vget z124 ?_ ?_ ?_); (next => exact zd); (next => exact zd))
      | ((with_reducible refine Im.vget z66 ?_ ?_ ?_); (next => exact zd); (next => exact zd))
      | ((with_reducible refine Im.vget z97 ?_ ?_ ?_); (next => exact zd); (next => exact zd))
      | ((with_reducible refine Im.vget (0 : Int) ?_ ?_ ?_); (next => exact zd); (next => exact zd))
      | ((with_reducible refine Im.vget false ?_ ?_ ?_); (next => exact zd); (next => exact zd))
      | exact zm | exact zx | fail)
  all_goals skip
theorem spec_ReadDec.vi {k m : Nat} {Gv : FuncId → Option (List VV → Option (VV × List VV))} (hG : Base Gv) (hm : k + 2 ≤ m) (a0 : ByteArray) : Im (fun r => (.int r, [])) (spec_ReadDec.f k a0) (callv Tryz.prog ti keep Gv m 66 [.str a0]) := by
  obtain ⟨m, rfl⟩ : ∃ m', m = m' + 1 := ⟨m - 1, by omega⟩
  rw [show callv Tryz.prog ti keep Gv (m + 1) 66 _ = _ from callv_enter ((hG 66 (by decide)).trans rfl) Tryz.func66 (by kernel_rfl) rfl rfl]
  unfold spec_ReadDec.f
  repeat' first
    | (with_reducible first | exact Im.none | refine Im.ite (fun h => ?_) (fun h => ?_) | refine Im.sbind ?_)
    | ((conv => arg 3; whnf); first
      | ((with_reducible refine Im.fin ?_); exact zr)
      | ((with_reducible refine Im.anyo ?_ ?_); (next => kernel_rfl))
      | ((with_reducible refine Im.bite_t ?_ ?_); (next => exact zd))
      | ((with_reducible refine Im.must ?_ ?_); (next => exact zd))
      | ((with_reducible refine Im.bite_f ?_ ?_); (next => exact zd))
      | (with_reducible refine Im.byl ?_)
      | ((with_reducible refine Im.vget ByteArray.empty ?_ ?_ ?_); (next => exact zd); (next => exact zd))
      | ((with_reducible refine Im.vget z51 ?_ ?_ ?_); (next => exact zd); (next => exact zd))
      | ((with_reducible refine Im.vget z44 ?_ ?_ ?_); (next => exact zd); (next => exact zd))
      | ((with_reducible refine Im.vget z124 ?_ ?_ ?_); (next => exact zd); (next => exact zd))
      | ((with_reducible refine Im.vget z66 ?_ ?_ ?_); (next => exact zd); (next => exact zd))
      | ((with_reducible refine Im.vget z97 ?_ ?_ ?_); (next => exact zd); (next => exact zd))
      | ((with_reducible refine Im.vget (0 : Int) ?_ ?_ ?_); (next => exact zd); (next => exact zd))
      | ((with_reducible refine Im.vget false ?_ ?_ ?_); (next => exact zd); (next => exact zd))
      | ((with_reducible refine Im.call (spec_DecText.vi hG ?_ _) ?_ (fun r hr => ?_)); (next => omega); (next => exact zr))
      | ((with_reducible refine Im.call (spec_l01In.vi hG ?_ _ _ _) ?_ (fun r hr => ?_)); (next => omega); (next => exact zr))
      | ((with_reducible refine Im.loop (S := fun s : ByteArray × Int × Int => [.str s.1, .un, .un, .int s.2.1, .int s.2.2, .un, .un, .un, .un, .un, .un, .un, .un, .un, .un, .un, .un, .un, .un, .un, .un, .un, .un, .un, .un, .un, .un, .un, .un, .un, .un, .un, .un, .un, .un, .un, .un, .un, .un]) (L := fun k s => spec_ReadDec.l0 k s.1 s.2.1 s.2.2) _ ?_ ?_ _ _ ⟨_, _, _⟩ _ (Nat.le_refl _) zo ?_)
         (next => intro s; rfl)
         (next =>
           intro k1 M1 ⟨x0, x3, x4⟩ hk1 hM1 ih1
           conv => arg 2; simp only [spec_ReadDec.l0]
           repeat' first
             | (with_reducible first | exact Im.none | refine Im.ite (fun h => ?_) (fun h => ?_) | refine Im.sbind ?_)
             | ((conv => arg 3; whnf); first
               | ((with_reducible refine Im.fin ?_); exact zr)
               | ((with_reducible refine Im.anyo ?_ ?_); (next => kernel_rfl))
               | ((with_reducible refine Im.bite_t ?_ ?_); (next => exact zd))
               | ((with_reducible refine Im.must ?_ ?_); (next => exact zd))
               | ((with_reducible refine Im.bite_f ?_ ?_); (next => exact zd))
               | (with_reducible refine Im.byl ?_)
               | ((with_reducible refine Im.vget ByteArray.empty ?_ ?_ ?_); (next => exact zd); (next => exact zd))
               | ((with_reducible refine Im.vget z51 ?_ ?_ ?_); (next => exact zd); (next => exact zd))
               | ((with_reducible refine Im.vget z44 ?_ ?_ ?_); (next => exact zd); (next => exact zd))
               | ((with_reducible refine Im.vget z124 ?_ ?_ ?_); (next => exact zd); (next => exact zd))
               | ((with_reducible refine Im.vget z66 ?_ ?_ ?_); (next => exact zd); (next => exact zd))
               | ((with_reducible refine Im.vget z97 ?_ ?_ ?_); (next => exact zd); (next => exact zd))
               | ((with_reducible refine Im.vget (0 : Int) ?_ ?_ ?_); (next => exact zd); (next => exact zd))
               | ((with_reducible refine Im.vget false ?_ ?_ ?_); (next => exact zd); (next => exact zd))
               | ((with_reducible refine Im.call (spec_DecText.vi hG ?_ _) ?_ (fun r hr => ?_)); (next => omega); (next => exact zr))
               | ((with_reducible refine Im.call (spec_l01In.vi hG ?_ _ _ _) ?_ (fun r hr => ?_)); (next => omega); (next => exact zr))
               | ((with_reducible refine ih1 _ ⟨_, _, _⟩ _ ?_ ?_); (next => exact zo); exact zr)
               | exact zm | exact zx | fail)
           all_goals skip)
         exact zr)
      | exact zm | exact zx | fail)
  all_goals skip
theorem spec_l02Texts.vi {m : Nat} {Gv : FuncId → Option (List VV → Option (VV × List VV))} (hG : Base Gv) (hm : 1 ≤ m) (a0 : ByteArray) (a1 : ByteArray) : Im (fun r => (.int r, [])) (spec_l02Texts.f a0 a1) (callv Tryz.prog ti keep Gv m 100 [.str a0, .str a1]) := by
  obtain ⟨m, rfl⟩ : ∃ m', m = m' + 1 := ⟨m - 1, by omega⟩
  rw [show callv Tryz.prog ti keep Gv (m + 1) 100 _ = _ from callv_enter ((hG 100 (by decide)).trans rfl) Tryz.func100 (by kernel_rfl) rfl rfl]
  unfold spec_l02Texts.f
  repeat' first
    | (with_reducible first | exact Im.none | refine Im.ite (fun h => ?_) (fun h => ?_) | refine Im.sbind ?_)
    | ((conv => arg 3; whnf); first
      | ((with_reducible refine Im.fin ?_); exact zr)
      | ((with_reducible refine Im.anyo ?_ ?_); (next => kernel_rfl))
      | ((with_reducible refine Im.bite_t ?_ ?_); (next => exact zd))
      | ((with_reducible refine Im.must ?_ ?_); (next => exact zd))
      | ((with_reducible refine Im.bite_f ?_ ?_); (next => exact zd))
      | (with_reducible refine Im.byl ?_)
      | ((with_reducible refine Im.vget ByteArray.empty ?_ ?_ ?_); (next => exact zd); (next => exact zd))
      | ((with_reducible refine Im.vget z51 ?_ ?_ ?_); (next => exact zd); (next => exact zd))
      | ((with_reducible refine Im.vget z44 ?_ ?_ ?_); (next => exact zd); (next => exact zd))
      | ((with_reducible refine Im.vget z124 ?_ ?_ ?_); (next => exact zd); (next => exact zd))
      | ((with_reducible refine Im.vget z66 ?_ ?_ ?_); (next => exact zd); (next => exact zd))
      | ((with_reducible refine Im.vget z97 ?_ ?_ ?_); (next => exact zd); (next => exact zd))
      | ((with_reducible refine Im.vget (0 : Int) ?_ ?_ ?_); (next => exact zd); (next => exact zd))
      | ((with_reducible refine Im.vget false ?_ ?_ ?_); (next => exact zd); (next => exact zd))
      | exact zm | exact zx | fail)
  all_goals skip
theorem spec_l02Part.vi {k m : Nat} {Gv : FuncId → Option (List VV → Option (VV × List VV))} (hG : Base Gv) (hm : k + 3 ≤ m) (a0 : ByteArray) (a1 : ByteArray) : Im (fun r => (.int r, [])) (spec_l02Part.f k a0 a1) (callv Tryz.prog ti keep Gv m 69 [.str a0, .str a1]) := by
  obtain ⟨m, rfl⟩ : ∃ m', m = m' + 1 := ⟨m - 1, by omega⟩
  rw [show callv Tryz.prog ti keep Gv (m + 1) 69 _ = _ from callv_enter ((hG 69 (by decide)).trans rfl) Tryz.func69 (by kernel_rfl) rfl rfl]
  unfold spec_l02Part.f
  repeat' first
    | ((with_reducible refine Im.nat (fun k => spec_l02Part.j0 k _ _ _ _ _) _ ?_ (fun kj hkj => ?_)); (next => rfl); (conv => arg 2; simp only [spec_l02Part.j0, Bool.false_eq_true, reduceIte]))
    | (with_reducible first | exact Im.none | refine Im.ite (fun h => ?_) (fun h => ?_) | refine Im.sbind ?_)
    | ((conv => arg 3; whnf); first
      | ((with_reducible refine Im.fin ?_); exact zr)
      | ((with_reducible refine Im.anyo ?_ ?_); (next => kernel_rfl))
      | ((with_reducible refine Im.bite_t ?_ ?_); (next => exact zd))
      | ((with_reducible refine Im.must ?_ ?_); (next => exact zd))
      | ((with_reducible refine Im.bite_f ?_ ?_); (next => exact zd))
      | (with_reducible refine Im.byl ?_)
      | ((with_reducible refine Im.vget ByteArray.empty ?_ ?_ ?_); (next => exact zd); (next => exact zd))
      | ((with_reducible refine Im.vget z51 ?_ ?_ ?_); (next => exact zd); (next => exact zd))
      | ((with_reducible refine Im.vget z44 ?_ ?_ ?_); (next => exact zd); (next => exact zd))
      | ((with_reducible refine Im.vget z124 ?_ ?_ ?_); (next => exact zd); (next => exact zd))
      | ((with_reducible refine Im.vget z66 ?_ ?_ ?_); (next => exact zd); (next => exact zd))
      | ((with_reducible refine Im.vget z97 ?_ ?_ ?_); (next => exact zd); (next => exact zd))
      | ((with_reducible refine Im.vget (0 : Int) ?_ ?_ ?_); (next => exact zd); (next => exact zd))
      | ((with_reducible refine Im.vget false ?_ ?_ ?_); (next => exact zd); (next => exact zd))
      | ((with_reducible refine Im.call (spec_ReadDec.vi hG ?_ _) ?_ (fun r hr => ?_)); (next => omega); (next => exact zr))
      | ((with_reducible refine Im.call (spec_l02Less.vi hG ?_ _ _) ?_ (fun r hr => ?_)); (next => omega); (next => exact zr))
      | ((with_reducible refine Im.call (spec_l02Texts.vi hG ?_ _ _) ?_ (fun r hr => ?_)); (next => omega); (next => exact zr))
      | exact zm | exact zx | fail)
  all_goals skip
theorem spec_CompareVersion.vi {k m : Nat} {Gv : FuncId → Option (List VV → Option (VV × List VV))} (hG : Base Gv) (hm : k + 4 ≤ m) (a0_0 : Int) (a0_1 : Int) (a0_2 : Int) (l0_3 : List ByteArray) (a1_0 : Int) (a1_1 : Int) (a1_2 : Int) (l1_3 : List ByteArray) : Im (fun r => (.int r, [])) (spec_CompareVersion.f k a0_0 a0_1 a0_2 l0_3 a1_0 a1_1 a1_2 l1_3) (callv Tryz.prog ti keep Gv m 38 [.ag [.int a0_0, .int a0_1, .int a0_2, .sl (l0_3.map VV.str)], .ag [.int a1_0, .int a1_1, .int a1_2, .sl (l1_3.map VV.str)]]) := by
  obtain ⟨m, rfl⟩ : ∃ m', m = m' + 1 := ⟨m - 1, by omega⟩
  rw [show callv Tryz.prog ti keep Gv (m + 1) 38 _ = _ from callv_enter ((hG 38 (by decide)).trans rfl) Tryz.func38 (by kernel_rfl) rfl rfl]
  unfold spec_CompareVersion.f
  repeat' first
    | (with_reducible first | exact Im.none | refine Im.ite (fun h => ?_) (fun h => ?_) | refine Im.sbind ?_)
    | ((conv => arg 3; whnf); first
      | ((with_reducible refine Im.fin ?_); exact zr)
      | ((with_reducible refine Im.anyo ?_ ?_); (next => kernel_rfl))
      | ((with_reducible refine Im.bite_t ?_ ?_); (next => exact zd))
      | ((with_reducible refine Im.must ?_ ?_); (next => exact zd))
      | ((with_reducible refine Im.bite_f ?_ ?_); (next => exact zd))
      | (with_reducible refine Im.byl ?_)
      | ((with_reducible refine Im.vget ByteArray.empty ?_ ?_ ?_); (next => exact zd); (next => exact zd))
      | ((with_reducible refine Im.vget z51 ?_ ?_ ?_); (next => exact zd); (next => exact zd))
      | ((with_reducible refine Im.vget z44 ?_ ?_ ?_); (next => exact zd); (next => exact zd))
      | ((with_reducible refine Im.vget z124 ?_ ?_ ?_); (next => exact zd); (next => exact zd))
      | ((with_reducible refine Im.vget z66 ?_ ?_ ?_); (next => exact zd); (next => exact zd))
      | ((with_reducible refine Im.vget z97 ?_ ?_ ?_); (next => exact zd); (next => exact zd))
      | ((with_reducible refine Im.vget (0 : Int) ?_ ?_ ?_); (next => exact zd); (next => exact zd))
      | ((with_reducible refine Im.vget false ?_ ?_ ?_); (next => exact zd); (next => exact zd))
      | ((with_reducible refine Im.call (spec_l02Less.vi hG ?_ _ _) ?_ (fun r hr => ?_)); (next => omega); (next => exact zr))
      | ((with_reducible refine Im.call (spec_l02Part.vi hG ?_ _ _) ?_ (fun r hr => ?_)); (next => omega); (next => exact zr))
      | ((with_reducible refine Im.loop (S := fun s : List Int × Int × Int × Int × Int × List ByteArray × Int × Int × Int × List ByteArray => [.un, .un, .bx [.int s.2.2.1, .int s.2.2.2.1, .int s.2.2.2.2.1, .sl (s.2.2.2.2.2.1.map VV.str)], .bx [.int s.2.2.2.2.2.2.1, .int s.2.2.2.2.2.2.2.1, .int s.2.2.2.2.2.2.2.2.1, .sl (s.2.2.2.2.2.2.2.2.2.map VV.str)], .un, .ow 3 1 (s.1.map VV.int), .int s.2.1, .un, .un, .un, .un, .un, .un, .un, .un, .un, .un, .un, .un, .un, .un, .un, .un, .un, .un, .un, .un, .un, .un, .un, .un, .un, .un, .un, .un, .un, .un, .un, .un, .un, .un, .un, .un, .un, .un, .un, .un, .un, .un, .un, .un, .un, .un, .un, .un, .un, .un, .un, .un, .un, .un, .un, .un, .un, .un, .un, .un, .un, .un, .un, .un, .un, .un, .un, .un, .un, .un, .un, .un, .un, .un, .un, .un, .un, .un, .un, .un, .un, .un, .un]) (L := fun k s => spec_CompareVersion.l0 k s.1 s.2.1 s.2.2.1 s.2.2.2.1 s.2.2.2.2.1 s.2.2.2.2.2.1 s.2.2.2.2.2.2.1 s.2.2.2.2.2.2.2.1 s.2.2.2.2.2.2.2.2.1 s.2.2.2.2.2.2.2.2.2) _ ?_ ?_ _ _ ⟨_, _, _, _, _, _, _, _, _, _⟩ _ (Nat.le_refl _) zo ?_)
         (next => intro s; rfl)
         (next =>
           intro k1 M1 ⟨x5, x6, x156000, x156001, x156002, x156003, x157000, x157001, x157002, x157003⟩ hk1 hM1 ih1
           conv => arg 2; simp only [spec_CompareVersion.l0]
           repeat' first
             | ((with_reducible refine Im.nat (fun k => spec_CompareVersion.j1 k _ _ _ _ _ _ _ _ _) _ ?_ (fun kj hkj => ?_)); (next => rfl); (conv => arg 2; simp only [spec_CompareVersion.j1, Bool.false_eq_true, reduceIte]))
             | (with_reducible first | exact Im.none | refine Im.ite (fun h => ?_) (fun h => ?_) | refine Im.sbind ?_)
             | ((conv => arg 3; whnf); first
               | ((with_reducible refine Im.fin ?_); exact zr)
               | ((with_reducible refine Im.anyo ?_ ?_); (next => kernel_rfl))
               | ((with_reducible refine Im.bite_t ?_ ?_); (next => exact zd))
               | ((with_reducible refine Im.must ?_ ?_); (next => exact zd))
               | ((with_reducible refine Im.bite_f ?_ ?_); (next => exact zd))
               | (with_reducible refine Im.byl ?_)
               | ((with_reducible refine Im.vget ByteArray.empty ?_ ?_ ?_); (next => exact zd); (next => exact zd))
               | ((with_reducible refine Im.vget z51 ?_ ?_ ?_); (next => exact zd); (next => exact zd))
               | ((with_reducible refine Im.vget z44 ?_ ?_ ?_); (next => exact zd); (next => exact zd))
               | ((with_reducible refine Im.vget z124 ?_ ?_ ?_); (next => exact zd); (next => exact zd))
               | ((with_reducible refine Im.vget z66 ?_ ?_ ?_); (next => exact zd); (next => exact zd))
               | ((with_reducible refine Im.vget z97 ?_ ?_ ?_); (next => exact zd); (next => exact zd))
               | ((with_reducible refine Im.vget (0 : Int) ?_ ?_ ?_); (next => exact zd); (next => exact zd))
               | ((with_reducible refine Im.vget false ?_ ?_ ?_); (next => exact zd); (next => exact zd))
               | ((with_reducible refine Im.call (spec_l02Less.vi hG ?_ _ _) ?_ (fun r hr => ?_)); (next => omega); (next => exact zr))
               | ((with_reducible refine Im.call (spec_l02Part.vi hG ?_ _ _) ?_ (fun r hr => ?_)); (next => omega); (next => exact zr))
               | ((with_reducible refine ih1 _ ⟨_, _, _, _, _, _, _, _, _, _⟩ _ ?_ ?_); (next => exact zo); exact zr)
               | ((with_reducible refine Im.loop (S := fun s : Int × Int × Int × Int × List ByteArray × Int × Int × Int × List ByteArray => [.un, .un, .bx [.int s.2.1, .int s.2.2.1, .int s.2.2.2.1, .sl (s.2.2.2.2.1.map VV.str)], .bx [.int s.2.2.2.2.2.1, .int s.2.2.2.2.2.2.1, .int s.2.2.2.2.2.2.2.1, .sl (s.2.2.2.2.2.2.2.2.map VV.str)], .un, .un, .un, .int s.1, .un, .un, .un, .un, .un, .un, .un, .un, .un, .un, .un, .un, .un, .un, .un, .un, .un, .un, .un, .un, .un, .un, .un, .un, .un, .un, .un, .un, .un, .un, .un, .un, .un, .un, .un, .un, .un, .un, .un, .un, .un, .un, .un, .un, .un, .un, .un, .un, .un, .un, .un, .un, .un, .un, .un, .un, .un, .un, .un, .un, .un, .un, .un, .un, .un, .un, .un, .un, .un, .un, .un, .un, .un, .un, .un, .un, .un, .un, .un, .un, .un, .un]) (L := fun k s => spec_CompareVersion.l1 k s.1 s.2.1 s.2.2.1 s.2.2.2.1 s.2.2.2.2.1 s.2.2.2.2.2.1 s.2.2.2.2.2.2.1 s.2.2.2.2.2.2.2.1 s.2.2.2.2.2.2.2.2) _ ?_ ?_ _ _ ⟨_, _, _, _, _, _, _, _, _⟩ _ (Nat.le_refl _) zo ?_)
                  (next => intro s; rfl)
                  (next =>
                    intro k2 M2 ⟨x7, x156000, x156001, x156002, x156003, x157000, x157001, x157002, x157003⟩ hk2 hM2 ih2
                    conv => arg 2; simp only [spec_CompareVersion.l1]
                    repeat' first
                      | ((with_reducible refine Im.nat (fun k => spec_CompareVersion.j3 k _ _ _ _ _ _ _ _ _ _) _ ?_ (fun kj hkj => ?_)); (next => rfl); (conv => arg 2; simp only [spec_CompareVersion.j3, Bool.false_eq_true, reduceIte]))
                      | (with_reducible first | exact Im.none | refine Im.ite (fun h => ?_) (fun h => ?_) | refine Im.sbind ?_)
                      | ((conv => arg 3; whnf); first
                        | ((with_reducible refine Im.fin ?_); exact zr)
                        | ((with_reducible refine Im.anyo ?_ ?_); (next => kernel_rfl))
                        | ((with_reducible refine Im.bite_t ?_ ?_); (next => exact zd))
                        | ((with_reducible refine Im.must ?_ ?_); (next => exact zd))
                        | ((with_reducible refine Im.bite_f ?_ ?_); (next => exact zd))
                        | (with_reducible refine Im.byl ?_)
                        | ((with_reducible refine Im.vget ByteArray.empty ?_ ?_ ?_); (next => exact zd); (next => exact zd))
                        | ((with_reducible refine Im.vget z51 ?_ ?_ ?_); (next => exact zd); (next => exact zd))
                        | ((with_reducible refine Im.vget z44 ?_ ?_ ?_); (next => exact zd); (next => exact zd))
                        | ((with_reducible refine Im.vget z124 ?_ ?_ ?_); (next => exact zd); (next => exact zd))
                        | ((with_reducible refine Im.vget z66 ?_ ?_ ?_); (next => exact zd); (next => exact zd))
                        | ((with_reducible refine Im.vget z97 ?_ ?_ ?_); (next => exact zd); (next => exact zd))
                        | ((with_reducible refine Im.vget (0 : Int) ?_ ?_ ?_); (next => exact zd); (next => exact zd))
                        | ((with_reducible refine Im.vget false ?_ ?_ ?_); (next => exact zd); (next => exact zd))
                        | ((with_reducible refine Im.call (spec_l02Less.vi hG ?_ _ _) ?_ (fun r hr => ?_)); (next => omega); (next => exact zr))
                        | ((with_reducible refine Im.call (spec_l02Part.vi hG ?_ _ _) ?_ (fun r hr => ?_)); (next => omega); (next => exact zr))
                        | ((with_reducible refine ih2 _ ⟨_, _, _, _, _, _, _, _, _⟩ _ ?_ ?_); (next => exact zo); exact zr)
                        | exact zm | exact zx | fail)
                    all_goals skip)
                  exact zr)
               | exact zm | exact zx | fail)
           all_goals skip)
         exact zr)
      | exact zm | exact zx | fail)
  all_goals skip
theorem spec_l01Great.vi {m : Nat} {Gv : FuncId → Option (List VV → Option (VV × List VV))} (hG : Base Gv) (hm : 2 ≤ m) (a0 : Int) : Im (fun r => (.bool r, [])) (spec_l01Great.f a0) (callv Tryz.prog ti keep Gv m 155 [.byte a0]) := by
  obtain ⟨m, rfl⟩ : ∃ m', m = m' + 1 := ⟨m - 1, by omega⟩
  rw [show callv Tryz.prog ti keep Gv (m + 1) 155 _ = _ from callv_enter ((hG 155 (by decide)).trans rfl) Tryz.func155 (by kernel_rfl) rfl rfl]
  unfold spec_l01Great.f
  repeat' first
    | (with_reducible first | exact Im.none | refine Im.ite (fun h => ?_) (fun h => ?_) | refine Im.sbind ?_)
    | ((conv => arg 3; whnf); first
      | ((with_reducible refine Im.fin ?_); exact zr)
      | ((with_reducible refine Im.anyo ?_ ?_); (next => kernel_rfl))
      | ((with_reducible refine Im.bite_t ?_ ?_); (next => exact zd))
      | ((with_reducible refine Im.must ?_ ?_); (next => exact zd))
      | ((with_reducible refine Im.bite_f ?_ ?_); (next => exact zd))
      | (with_reducible refine Im.byl ?_)
      | ((with_reducible refine Im.vget ByteArray.empty ?_ ?_ ?_); (next => exact zd); (next => exact zd))
      | ((with_reducible refine Im.vget z51 ?_ ?_ ?_); (next => exact zd); (next => exact zd))
      | ((with_reducible refine Im.vget z44 ?_ ?_ ?_); (next => exact zd); (next => exact zd))
      | ((with_reducible refine Im.vget z124 ?_ ?_ ?_); (next => exact zd); (next => exact zd))
      | ((with_reducible refine Im.vget z66 ?_ ?_ ?_); (next => exact zd); (next => exact zd))
      | ((with_reducible refine Im.vget z97 ?_ ?_ ?_); (next => exact zd); (next => exact zd))
      | ((with_reducible refine Im.vget (0 : Int) ?_ ?_ ?_); (next => exact zd); (next => exact zd))
      | ((with_reducible refine Im.vget false ?_ ?_ ?_); (next => exact zd); (next => exact zd))
      | ((with_reducible refine Im.call (spec_l01In.vi hG ?_ _ _ _) ?_ (fun r hr => ?_)); (next => omega); (next => exact zr))
      | exact zm | exact zx | fail)
  all_goals skip
theorem spec_l01Letter.vi {m : Nat} {Gv : FuncId → Option (List VV → Option (VV × List VV))} (hG : Base Gv) (hm : 2 ≤ m) (a0 : Int) : Im (fun r => (.bool r, [])) (spec_l01Letter.f a0) (callv Tryz.prog ti keep Gv m 74 [.byte a0]) := by
  obtain ⟨m, rfl⟩ : ∃ m', m = m' + 1 := ⟨m - 1, by omega⟩
  rw [show callv Tryz.prog ti keep Gv (m + 1) 74 _ = _ from callv_enter ((hG 74 (by decide)).trans rfl) Tryz.func74 (by kernel_rfl) rfl rfl]
  unfold spec_l01Letter.f
  repeat' first
    | (with_reducible first | exact Im.none | refine Im.ite (fun h => ?_) (fun h => ?_) | refine Im.sbind ?_)
    | ((conv => arg 3; whnf); first
      | ((with_reducible refine Im.fin ?_); exact zr)
      | ((with_reducible refine Im.anyo ?_ ?_); (next => kernel_rfl))
      | ((with_reducible refine Im.bite_t ?_ ?_); (next => exact zd))
      | ((with_reducible refine Im.must ?_ ?_); (next => exact zd))
      | ((with_reducible refine Im.bite_f ?_ ?_); (next => exact zd))
      | (with_reducible refine Im.byl ?_)
      | ((with_reducible refine Im.vget ByteArray.empty ?_ ?_ ?_); (next => exact zd); (next => exact zd))
      | ((with_reducible refine Im.vget z51 ?_ ?_ ?_); (next => exact zd); (next => exact zd))
      | ((with_reducible refine Im.vget z44 ?_ ?_ ?_); (next => exact zd); (next => exact zd))
      | ((with_reducible refine Im.vget z124 ?_ ?_ ?_); (next => exact zd); (next => exact zd))
      | ((with_reducible refine Im.vget z66 ?_ ?_ ?_); (next => exact zd); (next => exact zd))
      | ((with_reducible refine Im.vget z97 ?_ ?_ ?_); (next => exact zd); (next => exact zd))
      | ((with_reducible refine Im.vget (0 : Int) ?_ ?_ ?_); (next => exact zd); (next => exact zd))
      | ((with_reducible refine Im.vget false ?_ ?_ ?_); (next => exact zd); (next => exact zd))
      | ((with_reducible refine Im.call (spec_l01In.vi hG ?_ _ _ _) ?_ (fun r hr => ?_)); (next => omega); (next => exact zr))
      | exact zm | exact zx | fail)
  all_goals skip
theorem spec_l02Digits.vi {k m : Nat} {Gv : FuncId → Option (List VV → Option (VV × List VV))} (hG : Base Gv) (hm : k + 2 ≤ m) (a0 : ByteArray) : Im (fun r => (.bool r, [])) (spec_l02Digits.f k a0) (callv Tryz.prog ti keep Gv m 156 [.str a0]) := by
  obtain ⟨m, rfl⟩ : ∃ m', m = m' + 1 := ⟨m - 1, by omega⟩
  rw [show callv Tryz.prog ti keep Gv (m + 1) 156 _ = _ from callv_enter ((hG 156 (by decide)).trans rfl) Tryz.func156 (by kernel_rfl) rfl rfl]
  unfold spec_l02Digits.f
  repeat' first
    | (with_reducible first | exact Im.none | refine Im.ite (fun h => ?_) (fun h => ?_) | refine Im.sbind ?_)
    | ((conv => arg 3; whnf); first
      | ((with_reducible refine Im.fin ?_); exact zr)
      | ((with_reducible refine Im.anyo ?_ ?_); (next => kernel_rfl))
      | ((with_reducible refine Im.bite_t ?_ ?_); (next => exact zd))
      | ((with_reducible refine Im.must ?_ ?_); (next => exact zd))
      | ((with_reducible refine Im.bite_f ?_ ?_); (next => exact zd))
      | (with_reducible refine Im.byl ?_)
      | ((with_reducible refine Im.vget ByteArray.empty ?_ ?_ ?_); (next => exact zd); (next => exact zd))
      | ((with_reducible refine Im.vget z51 ?_ ?_ ?_); (next => exact zd); (next => exact zd))
      | ((with_reducible refine Im.vget z44 ?_ ?_ ?_); (next => exact zd); (next => exact zd))
      | ((with_reducible refine Im.vget z124 ?_ ?_ ?_); (next => exact zd); (next => exact zd))
      | ((with_reducible refine Im.vget z66 ?_ ?_ ?_); (next => exact zd); (next => exact zd))
      | ((with_reducible refine Im.vget z97 ?_ ?_ ?_); (next => exact zd); (next => exact zd))
      | ((with_reducible refine Im.vget (0 : Int) ?_ ?_ ?_); (next => exact zd); (next => exact zd))
      | ((with_reducible refine Im.vget false ?_ ?_ ?_); (next => exact zd); (next => exact zd))
      | ((with_reducible refine Im.call (spec_l01In.vi hG ?_ _ _ _) ?_ (fun r hr => ?_)); (next => omega); (next => exact zr))
      | ((with_reducible refine Im.loop (S := fun s : ByteArray × Int => [.str s.1, .un, .un, .int s.2, .un, .un, .un, .un, .un, .un, .un, .un, .un, .un, .un, .un, .un, .un]) (L := fun k s => spec_l02Digits.l0 k s.1 s.2) _ ?_ ?_ _ _ ⟨_, _⟩ _ (Nat.le_refl _) zo ?_)
         (next => intro s; rfl)
         (next =>
           intro k1 M1 ⟨x0, x3⟩ hk1 hM1 ih1
           conv => arg 2; simp only [spec_l02Digits.l0]
           repeat' first
             | (with_reducible first | exact Im.none | refine Im.ite (fun h => ?_) (fun h => ?_) | refine Im.sbind ?_)
             | ((conv => arg 3; whnf); first
               | ((with_reducible refine Im.fin ?_); exact zr)
               | ((with_reducible refine Im.anyo ?_ ?_); (next => kernel_rfl))
               | ((with_reducible refine Im.bite_t ?_ ?_); (next => exact zd))
               | ((with_reducible refine Im.must ?_ ?_); (next => exact zd))
               | ((with_reducible refine Im.bite_f ?_ ?_); (next => exact zd))
               | (with_reducible refine Im.byl ?_)
               | ((with_reducible refine Im.vget ByteArray.empty ?_ ?_ ?_); (next => exact zd); (next => exact zd))
               | ((with_reducible refine Im.vget z51 ?_ ?_ ?_); (next => exact zd); (next => exact zd))
               | ((with_reducible refine Im.vget z44 ?_ ?_ ?_); (next => exact zd); (next => exact zd))
               | ((with_reducible refine Im.vget z124 ?_ ?_ ?_); (next => exact zd); (next => exact zd))
               | ((with_reducible refine Im.vget z66 ?_ ?_ ?_); (next => exact zd); (next => exact zd))
               | ((with_reducible refine Im.vget z97 ?_ ?_ ?_); (next => exact zd); (next => exact zd))
               | ((with_reducible refine Im.vget (0 : Int) ?_ ?_ ?_); (next => exact zd); (next => exact zd))
               | ((with_reducible refine Im.vget false ?_ ?_ ?_); (next => exact zd); (next => exact zd))
               | ((with_reducible refine Im.call (spec_l01In.vi hG ?_ _ _ _) ?_ (fun r hr => ?_)); (next => omega); (next => exact zr))
               | ((with_reducible refine ih1 _ ⟨_, _⟩ _ ?_ ?_); (next => exact zo); exact zr)
               | exact zm | exact zx | fail)
           all_goals skip)
         exact zr)
      | exact zm | exact zx | fail)
  all_goals skip
theorem spec_l02Pre.vi {k m : Nat} {Gv : FuncId → Option (List VV → Option (VV × List VV))} (hG : Base Gv) (hm : k + 3 ≤ m) (a0 : ByteArray) : Im (fun r => (.bool r, [])) (spec_l02Pre.f k a0) (callv Tryz.prog ti keep Gv m 133 [.str a0]) := by
  obtain ⟨m, rfl⟩ : ∃ m', m = m' + 1 := ⟨m - 1, by omega⟩
  rw [show callv Tryz.prog ti keep Gv (m + 1) 133 _ = _ from callv_enter ((hG 133 (by decide)).trans rfl) Tryz.func133 (by kernel_rfl) rfl rfl]
  unfold spec_l02Pre.f
  repeat' first
    | (with_reducible first | exact Im.none | refine Im.ite (fun h => ?_) (fun h => ?_) | refine Im.sbind ?_)
    | ((conv => arg 3; whnf); first
      | ((with_reducible refine Im.fin ?_); exact zr)
      | ((with_reducible refine Im.anyo ?_ ?_); (next => kernel_rfl))
      | ((with_reducible refine Im.bite_t ?_ ?_); (next => exact zd))
      | ((with_reducible refine Im.must ?_ ?_); (next => exact zd))
      | ((with_reducible refine Im.bite_f ?_ ?_); (next => exact zd))
      | (with_reducible refine Im.byl ?_)
      | ((with_reducible refine Im.vget ByteArray.empty ?_ ?_ ?_); (next => exact zd); (next => exact zd))
      | ((with_reducible refine Im.vget z51 ?_ ?_ ?_); (next => exact zd); (next => exact zd))
      | ((with_reducible refine Im.vget z44 ?_ ?_ ?_); (next => exact zd); (next => exact zd))
      | ((with_reducible refine Im.vget z124 ?_ ?_ ?_); (next => exact zd); (next => exact zd))
      | ((with_reducible refine Im.vget z66 ?_ ?_ ?_); (next => exact zd); (next => exact zd))
      | ((with_reducible refine Im.vget z97 ?_ ?_ ?_); (next => exact zd); (next => exact zd))
      | ((with_reducible refine Im.vget (0 : Int) ?_ ?_ ?_); (next => exact zd); (next => exact zd))
      | ((with_reducible refine Im.vget false ?_ ?_ ?_); (next => exact zd); (next => exact zd))
      | ((with_reducible refine Im.call (spec_ReadDec.vi hG ?_ _) ?_ (fun r hr => ?_)); (next => omega); (next => exact zr))
      | ((with_reducible refine Im.call (spec_l01Great.vi hG ?_ _) ?_ (fun r hr => ?_)); (next => omega); (next => exact zr))
      | ((with_reducible refine Im.call (spec_l01In.vi hG ?_ _ _ _) ?_ (fun r hr => ?_)); (next => omega); (next => exact zr))
      | ((with_reducible refine Im.call (spec_l01Letter.vi hG ?_ _) ?_ (fun r hr => ?_)); (next => omega); (next => exact zr))
      | ((with_reducible refine Im.call (spec_l02Digits.vi hG ?_ _) ?_ (fun r hr => ?_)); (next => omega); (next => exact zr))
      | ((with_reducible refine Im.loop (S := fun s : ByteArray × Int => [.str s.1, .un, .un, .int s.2, .un, .un, .un, .un, .un, .un, .un, .un, .un, .un, .un, .un, .un, .un, .un, .un, .un, .un, .un, .un, .un, .un, .un, .un, .un, .un, .un, .un, .un, .un, .un, .un, .un, .un, .un, .un, .un]) (L := fun k s => spec_l02Pre.l0 k s.1 s.2) _ ?_ ?_ _ _ ⟨_, _⟩ _ (Nat.le_refl _) zo ?_)
         (next => intro s; rfl)
         (next =>
           intro k1 M1 ⟨x0, x3⟩ hk1 hM1 ih1
           conv => arg 2; simp only [spec_l02Pre.l0]
           repeat' first
             | (with_reducible first | exact Im.none | refine Im.ite (fun h => ?_) (fun h => ?_) | refine Im.sbind ?_)
             | ((conv => arg 3; whnf); first
               | ((with_reducible refine Im.fin ?_); exact zr)
               | ((with_reducible refine Im.anyo ?_ ?_); (next => kernel_rfl))
               | ((with_reducible refine Im.bite_t ?_ ?_); (next => exact zd))
               | ((with_reducible refine Im.must ?_ ?_); (next => exact zd))
               | ((with_reducible refine Im.bite_f ?_ ?_); (next => exact zd))
               | (with_reducible refine Im.byl ?_)
               | ((with_reducible refine Im.vget ByteArray.empty ?_ ?_ ?_); (next => exact zd); (next => exact zd))
               | ((with_reducible refine Im.vget z51 ?_ ?_ ?_); (next => exact zd); (next => exact zd))
               | ((with_reducible refine Im.vget z44 ?_ ?_ ?_); (next => exact zd); (next => exact zd))
               | ((with_reducible refine Im.vget z124 ?_ ?_ ?_); (next => exact zd); (next => exact zd))
               | ((with_reducible refine Im.vget z66 ?_ ?_ ?_); (next => exact zd); (next => exact zd))
               | ((with_reducible refine Im.vget z97 ?_ ?_ ?_); (next => exact zd); (next => exact zd))
               | ((with_reducible refine Im.vget (0 : Int) ?_ ?_ ?_); (next => exact zd); (next => exact zd))
               | ((with_reducible refine Im.vget false ?_ ?_ ?_); (next => exact zd); (next => exact zd))
               | ((with_reducible refine Im.call (spec_ReadDec.vi hG ?_ _) ?_ (fun r hr => ?_)); (next => omega); (next => exact zr))
               | ((with_reducible refine Im.call (spec_l01Great.vi hG ?_ _) ?_ (fun r hr => ?_)); (next => omega); (next => exact zr))
               | ((with_reducible refine Im.call (spec_l01In.vi hG ?_ _ _ _) ?_ (fun r hr => ?_)); (next => omega); (next => exact zr))
               | ((with_reducible refine Im.call (spec_l01Letter.vi hG ?_ _) ?_ (fun r hr => ?_)); (next => omega); (next => exact zr))
               | ((with_reducible refine Im.call (spec_l02Digits.vi hG ?_ _) ?_ (fun r hr => ?_)); (next => omega); (next => exact zr))
               | ((with_reducible refine ih1 _ ⟨_, _⟩ _ ?_ ?_); (next => exact zo); exact zr)
               | exact zm | exact zx | fail)
           all_goals skip)
         exact zr)
      | exact zm | exact zx | fail)
  all_goals skip
theorem spec_VersionOk.vi {k m : Nat} {Gv : FuncId → Option (List VV → Option (VV × List VV))} (hG : Base Gv) (hm : k + 4 ≤ m) (a0_0 : Int) (a0_1 : Int) (a0_2 : Int) (l0_3 : List ByteArray) : Im (fun r => (.bool r, [])) (spec_VersionOk.f k a0_0 a0_1 a0_2 l0_3) (callv Tryz.prog ti keep Gv m 99 [.ag [.int a0_0, .int a0_1, .int a0_2, .sl (l0_3.map VV.str)]]) := by
  obtain ⟨m, rfl⟩ : ∃ m', m = m' + 1 := ⟨m - 1, by omega⟩
  rw [show callv Tryz.prog ti keep Gv (m + 1) 99 _ = _ from callv_enter ((hG 99 (by decide)).trans rfl) Tryz.func99 (by kernel_rfl) rfl rfl]
  unfold spec_VersionOk.f
  repeat' first
    | (with_reducible first | exact Im.none | refine Im.ite (fun h => ?_) (fun h => ?_) | refine Im.sbind ?_)
    | ((conv => arg 3; whnf); first
      | ((with_reducible refine Im.fin ?_); exact zr)
      | ((with_reducible refine Im.anyo ?_ ?_); (next => kernel_rfl))
      | ((with_reducible refine Im.bite_t ?_ ?_); (next => exact zd))
      | ((with_reducible refine Im.must ?_ ?_); (next => exact zd))
      | ((with_reducible refine Im.bite_f ?_ ?_); (next => exact zd))
      | (with_reducible refine Im.byl ?_)
      | ((with_reducible refine Im.vget ByteArray.empty ?_ ?_ ?_); (next => exact zd); (next => exact zd))
      | ((with_reducible refine Im.vget z51 ?_ ?_ ?_); (next => exact zd); (next => exact zd))
      | ((with_reducible refine Im.vget z44 ?_ ?_ ?_); (next => exact zd); (next => exact zd))
      | ((with_reducible refine Im.vget z124 ?_ ?_ ?_); (next => exact zd); (next => exact zd))
      | ((with_reducible refine Im.vget z66 ?_ ?_ ?_); (next => exact zd); (next => exact zd))
      | ((with_reducible refine Im.vget z97 ?_ ?_ ?_); (next => exact zd); (next => exact zd))
      | ((with_reducible refine Im.vget (0 : Int) ?_ ?_ ?_); (next => exact zd); (next => exact zd))
      | ((with_reducible refine Im.vget false ?_ ?_ ?_); (next => exact zd); (next => exact zd))
      | ((with_reducible refine Im.call (spec_l01In.vi hG ?_ _ _ _) ?_ (fun r hr => ?_)); (next => omega); (next => exact zr))
      | ((with_reducible refine Im.call (spec_l02Pre.vi hG ?_ _) ?_ (fun r hr => ?_)); (next => omega); (next => exact zr))
      | ((with_reducible refine Im.loop (S := fun s : Int × Int × Int × Int × List ByteArray => [.un, .bx [.int s.2.1, .int s.2.2.1, .int s.2.2.2.1, .sl (s.2.2.2.2.map VV.str)], .un, .int s.1, .un, .un, .un, .un, .un, .un, .un, .un, .un, .un, .un, .un, .un, .un, .un, .un, .un, .un, .un, .un, .un, .un, .un, .un, .un, .un, .un, .un, .un, .un, .un, .un, .un]) (L := fun k s => spec_VersionOk.l0 k s.1 s.2.1 s.2.2.1 s.2.2.2.1 s.2.2.2.2) _ ?_ ?_ _ _ ⟨_, _, _, _, _⟩ _ (Nat.le_refl _) zo ?_)
         (next => intro s; rfl)
         (next =>
           intro k1 M1 ⟨x3, x123000, x123001, x123002, x123003⟩ hk1 hM1 ih1
           conv => arg 2; simp only [spec_VersionOk.l0]
           repeat' first
             | (with_reducible first | exact Im.none | refine Im.ite (fun h => ?_) (fun h => ?_) | refine Im.sbind ?_)
             | ((conv => arg 3; whnf); first
               | ((with_reducible refine Im.fin ?_); exact zr)
               | ((with_reducible refine Im.anyo ?_ ?_); (next => kernel_rfl))
               | ((with_reducible refine Im.bite_t ?_ ?_); (next => exact zd))
               | ((with_reducible refine Im.must ?_ ?_); (next => exact zd))
               | ((with_reducible refine Im.bite_f ?_ ?_); (next => exact zd))
               | (with_reducible refine Im.byl ?_)
               | ((with_reducible refine Im.vget ByteArray.empty ?_ ?_ ?_); (next => exact zd); (next => exact zd))
               | ((with_reducible refine Im.vget z51 ?_ ?_ ?_); (next => exact zd); (next => exact zd))
               | ((with_reducible refine Im.vget z44 ?_ ?_ ?_); (next => exact zd); (next => exact zd))
               | ((with_reducible refine Im.vget z124 ?_ ?_ ?_); (next => exact zd); (next => exact zd))
               | ((with_reducible refine Im.vget z66 ?_ ?_ ?_); (next => exact zd); (next => exact zd))
               | ((with_reducible refine Im.vget z97 ?_ ?_ ?_); (next => exact zd); (next => exact zd))
               | ((with_reducible refine Im.vget (0 : Int) ?_ ?_ ?_); (next => exact zd); (next => exact zd))
               | ((with_reducible refine Im.vget false ?_ ?_ ?_); (next => exact zd); (next => exact zd))
               | ((with_reducible refine Im.call (spec_l01In.vi hG ?_ _ _ _) ?_ (fun r hr => ?_)); (next => omega); (next => exact zr))
               | ((with_reducible refine Im.call (spec_l02Pre.vi hG ?_ _) ?_ (fun r hr => ?_)); (next => omega); (next => exact zr))
               | ((with_reducible refine ih1 _ ⟨_, _, _, _, _⟩ _ ?_ ?_); (next => exact zo); exact zr)
               | exact zm | exact zx | fail)
           all_goals skip)
         exact zr)
      | exact zm | exact zx | fail)
  all_goals skip
theorem spec_VersionText.vi {k m : Nat} {Gv : FuncId → Option (List VV → Option (VV × List VV))} (hG : Base Gv) (hm : k + 5 ≤ m) (a0_0 : Int) (a0_1 : Int) (a0_2 : Int) (l0_3 : List ByteArray) : Im (fun r => (.str r, [])) (spec_VersionText.f k a0_0 a0_1 a0_2 l0_3) (callv Tryz.prog ti keep Gv m 67 [.ag [.int a0_0, .int a0_1, .int a0_2, .sl (l0_3.map VV.str)]]) := by
  obtain ⟨m, rfl⟩ : ∃ m', m = m' + 1 := ⟨m - 1, by omega⟩
  rw [show callv Tryz.prog ti keep Gv (m + 1) 67 _ = _ from callv_enter ((hG 67 (by decide)).trans rfl) Tryz.func67 (by kernel_rfl) rfl rfl]
  unfold spec_VersionText.f
  repeat' first
    | (with_reducible first | exact Im.none | refine Im.ite (fun h => ?_) (fun h => ?_) | refine Im.sbind ?_)
    | ((conv => arg 3; whnf); first
      | ((with_reducible refine Im.fin ?_); exact zr)
      | ((with_reducible refine Im.anyo ?_ ?_); (next => kernel_rfl))
      | ((with_reducible refine Im.bite_t ?_ ?_); (next => exact zd))
      | ((with_reducible refine Im.must ?_ ?_); (next => exact zd))
      | ((with_reducible refine Im.bite_f ?_ ?_); (next => exact zd))
      | (with_reducible refine Im.byl ?_)
      | ((with_reducible refine Im.vget ByteArray.empty ?_ ?_ ?_); (next => exact zd); (next => exact zd))
      | ((with_reducible refine Im.vget z51 ?_ ?_ ?_); (next => exact zd); (next => exact zd))
      | ((with_reducible refine Im.vget z44 ?_ ?_ ?_); (next => exact zd); (next => exact zd))
      | ((with_reducible refine Im.vget z124 ?_ ?_ ?_); (next => exact zd); (next => exact zd))
      | ((with_reducible refine Im.vget z66 ?_ ?_ ?_); (next => exact zd); (next => exact zd))
      | ((with_reducible refine Im.vget z97 ?_ ?_ ?_); (next => exact zd); (next => exact zd))
      | ((with_reducible refine Im.vget (0 : Int) ?_ ?_ ?_); (next => exact zd); (next => exact zd))
      | ((with_reducible refine Im.vget false ?_ ?_ ?_); (next => exact zd); (next => exact zd))
      | ((with_reducible refine Im.call (spec_DecText.vi hG ?_ _) ?_ (fun r hr => ?_)); (next => omega); (next => exact zr))
      | ((with_reducible refine Im.call (spec_VersionOk.vi hG ?_ _ _ _ _) ?_ (fun r hr => ?_)); (next => omega); (next => exact zr))
      | ((with_reducible refine Im.loop (S := fun s : ByteArray × Int × Int × Int × Int × List ByteArray => [.un, .bx [.int s.2.2.1, .int s.2.2.2.1, .int s.2.2.2.2.1, .sl (s.2.2.2.2.2.map VV.str)], .un, .str s.1, .int s.2.1, .un, .un, .un, .un, .un, .un, .un, .un, .un, .un, .un, .un, .un, .un, .un, .un, .un, .un, .un, .un, .un, .un, .un, .un, .un, .un, .un, .un, .un, .un, .un, .un, .un, .un, .un, .un, .un, .un, .un, .un, .un, .un]) (L := fun k s => spec_VersionText.l0 k s.1 s.2.1 s.2.2.1 s.2.2.2.1 s.2.2.2.2.1 s.2.2.2.2.2) _ ?_ ?_ _ _ ⟨_, _, _, _, _, _⟩ _ (Nat.le_refl _) zo ?_)
         (next => intro s; rfl)
         (next =>
           intro k1 M1 ⟨x3, x4, x129000, x129001, x129002, x129003⟩ hk1 hM1 ih1
           conv => arg 2; simp only [spec_VersionText.l0]
           repeat' first
             | (with_reducible first | exact Im.none | refine Im.ite (fun h => ?_) (fun h => ?_) | refine Im.sbind ?_)
             | ((conv => arg 3; whnf); first
               | ((with_reducible refine Im.fin ?_); exact zr)
               | ((with_reducible refine Im.anyo ?_ ?_); (next => kernel_rfl))
               | ((with_reducible refine Im.bite_t ?_ ?_); (next => exact zd))
               | ((with_reducible refine Im.must ?_ ?_); (next => exact zd))
               | ((with_reducible refine Im.bite_f ?_ ?_); (next => exact zd))
               | (with_reducible refine Im.byl ?_)
               | ((with_reducible refine Im.vget ByteArray.empty ?_ ?_ ?_); (next => exact zd); (next => exact zd))
               | ((with_reducible refine Im.vget z51 ?_ ?_ ?_); (next => exact zd); (next => exact zd))
               | ((with_reducible refine Im.vget z44 ?_ ?_ ?_); (next => exact zd); (next => exact zd))
               | ((with_reducible refine Im.vget z124 ?_ ?_ ?_); (next => exact zd); (next => exact zd))
               | ((with_reducible refine Im.vget z66 ?_ ?_ ?_); (next => exact zd); (next => exact zd))
               | ((with_reducible refine Im.vget z97 ?_ ?_ ?_); (next => exact zd); (next => exact zd))
               | ((with_reducible refine Im.vget (0 : Int) ?_ ?_ ?_); (next => exact zd); (next => exact zd))
               | ((with_reducible refine Im.vget false ?_ ?_ ?_); (next => exact zd); (next => exact zd))
               | ((with_reducible refine Im.call (spec_DecText.vi hG ?_ _) ?_ (fun r hr => ?_)); (next => omega); (next => exact zr))
               | ((with_reducible refine Im.call (spec_VersionOk.vi hG ?_ _ _ _ _) ?_ (fun r hr => ?_)); (next => omega); (next => exact zr))
               | ((with_reducible refine ih1 _ ⟨_, _, _, _, _, _⟩ _ ?_ ?_); (next => exact zo); exact zr)
               | exact zm | exact zx | fail)
           all_goals skip)
         exact zr)
      | exact zm | exact zx | fail)
  all_goals skip
theorem spec_l01At.vi {k m : Nat} {Gv : FuncId → Option (List VV → Option (VV × List VV))} (hG : Base Gv) (hm : k + 1 ≤ m) (a0 : ByteArray) (a1 : Int) : Im (fun r => (.int r, [])) (spec_l01At.f k a0 a1) (callv Tryz.prog ti keep Gv m 35 [.str a0, .byte a1]) := by
  obtain ⟨m, rfl⟩ : ∃ m', m = m' + 1 := ⟨m - 1, by omega⟩
  rw [show callv Tryz.prog ti keep Gv (m + 1) 35 _ = _ from callv_enter ((hG 35 (by decide)).trans rfl) Tryz.func35 (by kernel_rfl) rfl rfl]
  unfold spec_l01At.f
  repeat' first
    | (with_reducible first | exact Im.none | refine Im.ite (fun h => ?_) (fun h => ?_) | refine Im.sbind ?_)
    | ((conv => arg 3; whnf); first
      | ((with_reducible refine Im.fin ?_); exact zr)
      | ((with_reducible refine Im.anyo ?_ ?_); (next => kernel_rfl))
      | ((with_reducible refine Im.bite_t ?_ ?_); (next => exact zd))
      | ((with_reducible refine Im.must ?_ ?_); (next => exact zd))
      | ((with_reducible refine Im.bite_f ?_ ?_); (next => exact zd))
      | (with_reducible refine Im.byl ?_)
      | ((with_reducible refine Im.vget ByteArray.empty ?_ ?_ ?_); (next => exact zd); (next => exact zd))
      | ((with_reducible refine Im.vget z51 ?_ ?_ ?_); (next => exact zd); (next => exact zd))
      | ((with_reducible refine Im.vget z44 ?_ ?_ ?_); (next => exact zd); (next => exact zd))
      | ((with_reducible refine Im.vget z124 ?_ ?_ ?_); (next => exact zd); (next => exact zd))
      | ((with_reducible refine Im.vget z66 ?_ ?_ ?_); (next => exact zd); (next => exact zd))
      | ((with_reducible refine Im.vget z97 ?_ ?_ ?_); (next => exact zd); (next => exact zd))
      | ((with_reducible refine Im.vget (0 : Int) ?_ ?_ ?_); (next => exact zd); (next => exact zd))
      | ((with_reducible refine Im.vget false ?_ ?_ ?_); (next => exact zd); (next => exact zd))
      | ((with_reducible refine Im.loop (S := fun s : ByteArray × Int × Int => [.str s.1, .byte s.2.1, .un, .un, .un, .int s.2.2, .un, .un, .un, .un, .un, .un, .un, .un, .un, .un, .un, .un]) (L := fun k s => spec_l01At.l0 k s.1 s.2.1 s.2.2) _ ?_ ?_ _ _ ⟨_, _, _⟩ _ (Nat.le_refl _) zo ?_)
         (next => intro s; rfl)
         (next =>
           intro k1 M1 ⟨x0, x1, x5⟩ hk1 hM1 ih1
           conv => arg 2; simp only [spec_l01At.l0]
           repeat' first
             | (with_reducible first | exact Im.none | refine Im.ite (fun h => ?_) (fun h => ?_) | refine Im.sbind ?_)
             | ((conv => arg 3; whnf); first
               | ((with_reducible refine Im.fin ?_); exact zr)
               | ((with_reducible refine Im.anyo ?_ ?_); (next => kernel_rfl))
               | ((with_reducible refine Im.bite_t ?_ ?_); (next => exact zd))
               | ((with_reducible refine Im.must ?_ ?_); (next => exact zd))
               | ((with_reducible refine Im.bite_f ?_ ?_); (next => exact zd))
               | (with_reducible refine Im.byl ?_)
               | ((with_reducible refine Im.vget ByteArray.empty ?_ ?_ ?_); (next => exact zd); (next => exact zd))
               | ((with_reducible refine Im.vget z51 ?_ ?_ ?_); (next => exact zd); (next => exact zd))
               | ((with_reducible refine Im.vget z44 ?_ ?_ ?_); (next => exact zd); (next => exact zd))
               | ((with_reducible refine Im.vget z124 ?_ ?_ ?_); (next => exact zd); (next => exact zd))
               | ((with_reducible refine Im.vget z66 ?_ ?_ ?_); (next => exact zd); (next => exact zd))
               | ((with_reducible refine Im.vget z97 ?_ ?_ ?_); (next => exact zd); (next => exact zd))
               | ((with_reducible refine Im.vget (0 : Int) ?_ ?_ ?_); (next => exact zd); (next => exact zd))
               | ((with_reducible refine Im.vget false ?_ ?_ ?_); (next => exact zd); (next => exact zd))
               | ((with_reducible refine ih1 _ ⟨_, _, _⟩ _ ?_ ?_); (next => exact zo); exact zr)
               | exact zm | exact zx | fail)
           all_goals skip)
         exact zr)
      | exact zm | exact zx | fail)
  all_goals skip
theorem spec_l01Cut.vi {k m : Nat} {Gv : FuncId → Option (List VV → Option (VV × List VV))} (hG : Base Gv) (hm : k + 1 ≤ m) (a0 : ByteArray) (a1 : Int) : Im (fun r => (.ow 9 1 (r.map VV.str), [])) (spec_l01Cut.f k a0 a1) (callv Tryz.prog ti keep Gv m 65 [.str a0, .byte a1]) := by
  obtain ⟨m, rfl⟩ : ∃ m', m = m' + 1 := ⟨m - 1, by omega⟩
  rw [show callv Tryz.prog ti keep Gv (m + 1) 65 _ = _ from callv_enter ((hG 65 (by decide)).trans rfl) Tryz.func65 (by kernel_rfl) rfl rfl]
  unfold spec_l01Cut.f
  repeat' first
    | (with_reducible first | exact Im.none | refine Im.ite (fun h => ?_) (fun h => ?_) | refine Im.sbind ?_)
    | ((conv => arg 3; whnf); first
      | ((with_reducible refine Im.fin ?_); exact zr)
      | ((with_reducible refine Im.anyo ?_ ?_); (next => kernel_rfl))
      | ((with_reducible refine Im.bite_t ?_ ?_); (next => exact zd))
      | ((with_reducible refine Im.must ?_ ?_); (next => exact zd))
      | ((with_reducible refine Im.bite_f ?_ ?_); (next => exact zd))
      | (with_reducible refine Im.byl ?_)
      | ((with_reducible refine Im.vget ByteArray.empty ?_ ?_ ?_); (next => exact zd); (next => exact zd))
      | ((with_reducible refine Im.vget z51 ?_ ?_ ?_); (next => exact zd); (next => exact zd))
      | ((with_reducible refine Im.vget z44 ?_ ?_ ?_); (next => exact zd); (next => exact zd))
      | ((with_reducible refine Im.vget z124 ?_ ?_ ?_); (next => exact zd); (next => exact zd))
      | ((with_reducible refine Im.vget z66 ?_ ?_ ?_); (next => exact zd); (next => exact zd))
      | ((with_reducible refine Im.vget z97 ?_ ?_ ?_); (next => exact zd); (next => exact zd))
      | ((with_reducible refine Im.vget (0 : Int) ?_ ?_ ?_); (next => exact zd); (next => exact zd))
      | ((with_reducible refine Im.vget false ?_ ?_ ?_); (next => exact zd); (next => exact zd))
      | ((with_reducible refine Im.loop (S := fun s : ByteArray × Int × List ByteArray × Int × Int => [.str s.1, .byte s.2.1, .un, .un, .un, .ow 9 1 (s.2.2.1.map VV.str), .int s.2.2.2.1, .int s.2.2.2.2, .un, .un, .un, .un, .un, .un, .un, .un, .un, .un, .un, .un, .un, .un, .un, .un, .un, .un, .un, .un, .un, .un, .un, .un, .un, .un, .un]) (L := fun k s => spec_l01Cut.l0 k s.1 s.2.1 s.2.2.1 s.2.2.2.1 s.2.2.2.2) _ ?_ ?_ _ _ ⟨_, _, _, _, _⟩ _ (Nat.le_refl _) zo ?_)
         (next => intro s; rfl)
         (next =>
           intro k1 M1 ⟨x0, x1, x5, x6, x7⟩ hk1 hM1 ih1
           conv => arg 2; simp only [spec_l01Cut.l0]
           repeat' first
             | (with_reducible first | exact Im.none | refine Im.ite (fun h => ?_) (fun h => ?_) | refine Im.sbind ?_)
             | ((conv => arg 3; whnf); first
               | ((with_reducible refine Im.fin ?_); exact zr)
               | ((with_reducible refine Im.anyo ?_ ?_); (next => kernel_rfl))
               | ((with_reducible refine Im.bite_t ?_ ?_); (next => exact zd))
               | ((with_reducible refine Im.must ?_ ?_); (next => exact zd))
               | ((with_reducible refine Im.bite_f ?_ ?_); (next => exact zd))
               | (with_reducible refine Im.byl ?_)
               | ((with_reducible refine Im.vget ByteArray.empty ?_ ?_ ?_); (next => exact zd); (next => exact zd))
               | ((with_reducible refine Im.vget z51 ?_ ?_ ?_); (next => exact zd); (next => exact zd))
               | ((with_reducible refine Im.vget z44 ?_ ?_ ?_); (next => exact zd); (next => exact zd))
               | ((with_reducible refine Im.vget z124 ?_ ?_ ?_); (next => exact zd); (next => exact zd))
               | ((with_reducible refine Im.vget z66 ?_ ?_ ?_); (next => exact zd); (next => exact zd))
               | ((with_reducible refine Im.vget z97 ?_ ?_ ?_); (next => exact zd); (next => exact zd))
               | ((with_reducible refine Im.vget (0 : Int) ?_ ?_ ?_); (next => exact zd); (next => exact zd))
               | ((with_reducible refine Im.vget false ?_ ?_ ?_); (next => exact zd); (next => exact zd))
               | ((with_reducible refine ih1 _ ⟨_, _, _, _, _⟩ _ ?_ ?_); (next => exact zo); exact zr)
               | exact zm | exact zx | fail)
           all_goals skip)
         exact zr)
      | exact zm | exact zx | fail)
  all_goals skip
theorem spec_ReadVersion.vi {k m : Nat} {Gv : FuncId → Option (List VV → Option (VV × List VV))} (hG : Base Gv) (hm : k + 6 ≤ m) (a0 : ByteArray) : Im (fun r => (.tu [.ag [.int r.1, .int r.2.1, .int r.2.2.1, .sl (r.2.2.2.1.map VV.str)], .bool r.2.2.2.2], [])) (spec_ReadVersion.f k a0) (callv Tryz.prog ti keep Gv m 37 [.str a0]) := by
  obtain ⟨m, rfl⟩ : ∃ m', m = m' + 1 := ⟨m - 1, by omega⟩
  rw [show callv Tryz.prog ti keep Gv (m + 1) 37 _ = _ from callv_enter ((hG 37 (by decide)).trans rfl) Tryz.func37 (by kernel_rfl) rfl rfl]
  unfold spec_ReadVersion.f
  repeat' first
    | ((with_reducible refine Im.nat (fun k => spec_ReadVersion.j0 k _ _ _ _ _ _) _ ?_ (fun kj hkj => ?_)); (next => rfl); (conv => arg 2; simp only [spec_ReadVersion.j0, Bool.false_eq_true, reduceIte]))
    | (with_reducible first | exact Im.none | refine Im.ite (fun h => ?_) (fun h => ?_) | refine Im.sbind ?_)
    | ((conv => arg 3; whnf); first
      | ((with_reducible refine Im.fin ?_); exact zr)
      | ((with_reducible refine Im.anyo ?_ ?_); (next => kernel_rfl))
      | ((with_reducible refine Im.bite_t ?_ ?_); (next => exact zd))
      | ((with_reducible refine Im.must ?_ ?_); (next => exact zd))
      | ((with_reducible refine Im.bite_f ?_ ?_); (next => exact zd))
      | (with_reducible refine Im.byl ?_)
      | ((with_reducible refine Im.vget ByteArray.empty ?_ ?_ ?_); (next => exact zd); (next => exact zd))
      | ((with_reducible refine Im.vget z51 ?_ ?_ ?_); (next => exact zd); (next => exact zd))
      | ((with_reducible refine Im.vget z44 ?_ ?_ ?_); (next => exact zd); (next => exact zd))
      | ((with_reducible refine Im.vget z124 ?_ ?_ ?_); (next => exact zd); (next => exact zd))
      | ((with_reducible refine Im.vget z66 ?_ ?_ ?_); (next => exact zd); (next => exact zd))
      | ((with_reducible refine Im.vget z97 ?_ ?_ ?_); (next => exact zd); (next => exact zd))
      | ((with_reducible refine Im.vget (0 : Int) ?_ ?_ ?_); (next => exact zd); (next => exact zd))
      | ((with_reducible refine Im.vget false ?_ ?_ ?_); (next => exact zd); (next => exact zd))
      | ((with_reducible refine Im.call (spec_ReadDec.vi hG ?_ _) ?_ (fun r hr => ?_)); (next => omega); (next => exact zr))
      | ((with_reducible refine Im.call (spec_VersionText.vi hG ?_ _ _ _ _) ?_ (fun r hr => ?_)); (next => omega); (next => exact zr))
      | ((with_reducible refine Im.call (spec_l01At.vi hG ?_ _ _) ?_ (fun r hr => ?_)); (next => omega); (next => exact zr))
      | ((with_reducible refine Im.call (spec_l01Cut.vi hG ?_ _ _) ?_ (fun r hr => ?_)); (next => omega); (next => exact zr))
      | exact zm | exact zx | fail)
  all_goals skip
theorem spec_SortVersions.vi {k m : Nat} {Gv : FuncId → Option (List VV → Option (VV × List VV))} (hG : Base Gv) (hm : k + 7 ≤ m) (l0 : List ByteArray) : Im (fun r => (.sl (r.map VV.str), [])) (spec_SortVersions.f k l0) (callv Tryz.prog ti keep Gv m 19 [.sl (l0.map VV.str)]) := by
  obtain ⟨m, rfl⟩ : ∃ m', m = m' + 1 := ⟨m - 1, by omega⟩
  rw [show callv Tryz.prog ti keep Gv (m + 1) 19 _ = _ from callv_enter ((hG 19 (by decide)).trans rfl) Tryz.func19 (by kernel_rfl) rfl rfl]
  unfold spec_SortVersions.f
  repeat' first
    | (with_reducible first | exact Im.none | refine Im.ite (fun h => ?_) (fun h => ?_) | refine Im.sbind ?_)
    | ((conv => arg 3; whnf); first
      | ((with_reducible refine Im.fin ?_); exact zr)
      | ((with_reducible refine Im.anyo ?_ ?_); (next => kernel_rfl))
      | ((with_reducible refine Im.bite_t ?_ ?_); (next => exact zd))
      | ((with_reducible refine Im.must ?_ ?_); (next => exact zd))
      | ((with_reducible refine Im.bite_f ?_ ?_); (next => exact zd))
      | (with_reducible refine Im.byl ?_)
      | ((with_reducible refine Im.vget ByteArray.empty ?_ ?_ ?_); (next => exact zd); (next => exact zd))
      | ((with_reducible refine Im.vget z51 ?_ ?_ ?_); (next => exact zd); (next => exact zd))
      | ((with_reducible refine Im.vget z44 ?_ ?_ ?_); (next => exact zd); (next => exact zd))
      | ((with_reducible refine Im.vget z124 ?_ ?_ ?_); (next => exact zd); (next => exact zd))
      | ((with_reducible refine Im.vget z66 ?_ ?_ ?_); (next => exact zd); (next => exact zd))
      | ((with_reducible refine Im.vget z97 ?_ ?_ ?_); (next => exact zd); (next => exact zd))
      | ((with_reducible refine Im.vget (0 : Int) ?_ ?_ ?_); (next => exact zd); (next => exact zd))
      | ((with_reducible refine Im.vget false ?_ ?_ ?_); (next => exact zd); (next => exact zd))
      | ((with_reducible refine Im.call (spec_CompareVersion.vi hG ?_ _ _ _ _ _ _ _ _) ?_ (fun r hr => ?_)); (next => omega); (next => exact zr))
      | ((with_reducible refine Im.call (spec_ReadVersion.vi hG ?_ _) ?_ (fun r hr => ?_)); (next => omega); (next => exact zr))
      | ((with_reducible refine Im.loop (S := fun s : List ByteArray × List ByteArray × Int => [.sl (s.1.map VV.str), .un, .un, .ow 9 1 (s.2.1.map VV.str), .int s.2.2, .un, .un, .un, .un, .un, .un, .un, .un, .un, .un, .un, .un, .un, .un, .un, .un, .un, .un, .un, .un, .un, .un, .un, .un, .un, .un, .un, .un, .un, .un, .un, .un, .un, .un, .un, .un, .un, .un, .un, .un, .un, .un, .un, .un, .un, .un, .un, .un, .un, .un, .un, .un, .un, .un, .un, .un, .un, .un, .un, .un, .un, .un, .un, .un, .un, .un, .un, .un, .un, .un, .un]) (L := fun k s => spec_SortVersions.l0 k s.1 s.2.1 s.2.2) _ ?_ ?_ _ _ ⟨_, _, _⟩ _ (Nat.le_refl _) zo ?_)
         (next => intro s; rfl)
         (next =>
           intro k1 M1 ⟨x0, x3, x4⟩ hk1 hM1 ih1
           conv => arg 2; simp only [spec_SortVersions.l0]
           repeat' first
             | (with_reducible first | exact Im.none | refine Im.ite (fun h => ?_) (fun h => ?_) | refine Im.sbind ?_)
             | ((conv => arg 3; whnf); first
               | ((with_reducible refine Im.fin ?_); exact zr)
               | ((with_reducible refine Im.anyo ?_ ?_); (next => kernel_rfl))
               | ((with_reducible refine Im.bite_t ?_ ?_); (next => exact zd))
               | ((with_reducible refine Im.must ?_ ?_); (next => exact zd))
               | ((with_reducible refine Im.bite_f ?_ ?_); (next => exact zd))
               | (with_reducible refine Im.byl ?_)
               | ((with_reducible refine Im.vget ByteArray.empty ?_ ?_ ?_); (next => exact zd); (next => exact zd))
               | ((with_reducible refine Im.vget z51 ?_ ?_ ?_); (next => exact zd); (next => exact zd))
               | ((with_reducible refine Im.vget z44 ?_ ?_ ?_); (next => exact zd); (next => exact zd))
               | ((with_reducible refine Im.vget z124 ?_ ?_ ?_); (next => exact zd); (next => exact zd))
               | ((with_reducible refine Im.vget z66 ?_ ?_ ?_); (next => exact zd); (next => exact zd))
               | ((with_reducible refine Im.vget z97 ?_ ?_ ?_); (next => exact zd); (next => exact zd))
               | ((with_reducible refine Im.vget (0 : Int) ?_ ?_ ?_); (next => exact zd); (next => exact zd))
               | ((with_reducible refine Im.vget false ?_ ?_ ?_); (next => exact zd); (next => exact zd))
               | ((with_reducible refine Im.call (spec_CompareVersion.vi hG ?_ _ _ _ _ _ _ _ _) ?_ (fun r hr => ?_)); (next => omega); (next => exact zr))
               | ((with_reducible refine Im.call (spec_ReadVersion.vi hG ?_ _) ?_ (fun r hr => ?_)); (next => omega); (next => exact zr))
               | ((with_reducible refine ih1 _ ⟨_, _, _⟩ _ ?_ ?_); (next => exact zo); exact zr)
               | ((with_reducible refine Im.loop (S := fun s : List ByteArray × List ByteArray × Int × Int × Int × Int × Int × List ByteArray => [.sl (s.1.map VV.str), .un, .un, .ow 9 1 (s.2.1.map VV.str), .int s.2.2.1, .bx [.int s.2.2.2.2.1, .int s.2.2.2.2.2.1, .int s.2.2.2.2.2.2.1, .sl (s.2.2.2.2.2.2.2.map VV.str)], .un, .int s.2.2.2.1, .un, .un, .un, .un, .un, .un, .un, .un, .un, .un, .un, .un, .un, .un, .un, .un, .un, .un, .un, .un, .un, .un, .un, .un, .un, .un, .un, .un, .un, .un, .un, .un, .un, .un, .un, .un, .un, .un, .un, .un, .un, .un, .un, .un, .un, .un, .un, .un, .un, .un, .un, .un, .un, .un, .un, .un, .un, .un, .un, .un, .un, .un, .un, .un, .un, .un, .un, .un]) (L := fun k s => spec_SortVersions.l1 k s.1 s.2.1 s.2.2.1 s.2.2.2.1 s.2.2.2.2.1 s.2.2.2.2.2.1 s.2.2.2.2.2.2.1 s.2.2.2.2.2.2.2) _ ?_ ?_ _ _ ⟨_, _, _, _, _, _, _, _⟩ _ (Nat.le_refl _) zo ?_)
                  (next => intro s; rfl)
                  (next =>
                    intro k2 M2 ⟨x0, x3, x4, x7, x900000, x900001, x900002, x900003⟩ hk2 hM2 ih2
                    conv => arg 2; simp only [spec_SortVersions.l1]
                    repeat' first
                      | ((with_reducible refine Im.nat (fun k => spec_SortVersions.j1 k _ _ _ _) _ ?_ (fun kj hkj => ?_)); (next => rfl); (conv => arg 2; simp only [spec_SortVersions.j1, Bool.false_eq_true, reduceIte]))
                      | (with_reducible first | exact Im.none | refine Im.ite (fun h => ?_) (fun h => ?_) | refine Im.sbind ?_)
                      | ((conv => arg 3; whnf); first
                        | ((with_reducible refine Im.fin ?_); exact zr)
                        | ((with_reducible refine Im.anyo ?_ ?_); (next => kernel_rfl))
                        | ((with_reducible refine Im.bite_t ?_ ?_); (next => exact zd))
                        | ((with_reducible refine Im.must ?_ ?_); (next => exact zd))
                        | ((with_reducible refine Im.bite_f ?_ ?_); (next => exact zd))
                        | (with_reducible refine Im.byl ?_)
                        | ((with_reducible refine Im.vget ByteArray.empty ?_ ?_ ?_); (next => exact zd); (next => exact zd))
                        | ((with_reducible refine Im.vget z51 ?_ ?_ ?_); (next => exact zd); (next => exact zd))
                        | ((with_reducible refine Im.vget z44 ?_ ?_ ?_); (next => exact zd); (next => exact zd))
                        | ((with_reducible refine Im.vget z124 ?_ ?_ ?_); (next => exact zd); (next => exact zd))
                        | ((with_reducible refine Im.vget z66 ?_ ?_ ?_); (next => exact zd); (next => exact zd))
                        | ((with_reducible refine Im.vget z97 ?_ ?_ ?_); (next => exact zd); (next => exact zd))
                        | ((with_reducible refine Im.vget (0 : Int) ?_ ?_ ?_); (next => exact zd); (next => exact zd))
                        | ((with_reducible refine Im.vget false ?_ ?_ ?_); (next => exact zd); (next => exact zd))
                        | ((with_reducible refine Im.call (spec_CompareVersion.vi hG ?_ _ _ _ _ _ _ _ _) ?_ (fun r hr => ?_)); (next => omega); (next => exact zr))
                        | ((with_reducible refine Im.call (spec_ReadVersion.vi hG ?_ _) ?_ (fun r hr => ?_)); (next => omega); (next => exact zr))
                        | ((with_reducible refine ih1 _ ⟨_, _, _⟩ _ ?_ ?_); (next => exact zo); exact zr)
                        | ((with_reducible refine ih2 _ ⟨_, _, _, _, _, _, _, _⟩ _ ?_ ?_); (next => exact zo); exact zr)
                        | exact zm | exact zx | fail)
                    all_goals skip)
                  exact zr)
               | exact zm | exact zx | fail)
           all_goals skip)
         exact zr)
      | exact zm | exact zx | fail)
  all_goals skip
theorem spec_Newest.vi {k m : Nat} {Gv : FuncId → Option (List VV → Option (VV × List VV))} (hG : Base Gv) (hm : k + 8 ≤ m) (l0 : List ByteArray) : Im (fun r => (.str r, [])) (spec_Newest.f k l0) (callv Tryz.prog ti keep Gv m 15 [.sl (l0.map VV.str)]) := by
  obtain ⟨m, rfl⟩ : ∃ m', m = m' + 1 := ⟨m - 1, by omega⟩
  rw [show callv Tryz.prog ti keep Gv (m + 1) 15 _ = _ from callv_enter ((hG 15 (by decide)).trans rfl) Tryz.func15 (by kernel_rfl) rfl rfl]
  unfold spec_Newest.f
  repeat' first
    | (with_reducible first | exact Im.none | refine Im.ite (fun h => ?_) (fun h => ?_) | refine Im.sbind ?_)
    | ((conv => arg 3; whnf); first
      | ((with_reducible refine Im.fin ?_); exact zr)
      | ((with_reducible refine Im.anyo ?_ ?_); (next => kernel_rfl))
      | ((with_reducible refine Im.bite_t ?_ ?_); (next => exact zd))
      | ((with_reducible refine Im.must ?_ ?_); (next => exact zd))
      | ((with_reducible refine Im.bite_f ?_ ?_); (next => exact zd))
      | (with_reducible refine Im.byl ?_)
      | ((with_reducible refine Im.vget ByteArray.empty ?_ ?_ ?_); (next => exact zd); (next => exact zd))
      | ((with_reducible refine Im.vget z51 ?_ ?_ ?_); (next => exact zd); (next => exact zd))
      | ((with_reducible refine Im.vget z44 ?_ ?_ ?_); (next => exact zd); (next => exact zd))
      | ((with_reducible refine Im.vget z124 ?_ ?_ ?_); (next => exact zd); (next => exact zd))
      | ((with_reducible refine Im.vget z66 ?_ ?_ ?_); (next => exact zd); (next => exact zd))
      | ((with_reducible refine Im.vget z97 ?_ ?_ ?_); (next => exact zd); (next => exact zd))
      | ((with_reducible refine Im.vget (0 : Int) ?_ ?_ ?_); (next => exact zd); (next => exact zd))
      | ((with_reducible refine Im.vget false ?_ ?_ ?_); (next => exact zd); (next => exact zd))
      | ((with_reducible refine Im.call (spec_SortVersions.vi hG ?_ _) ?_ (fun r hr => ?_)); (next => omega); (next => exact zr))
      | ((with_reducible refine Im.call (spec_l01At.vi hG ?_ _ _) ?_ (fun r hr => ?_)); (next => omega); (next => exact zr))
      | ((with_reducible refine Im.loop (S := fun s : List ByteArray × ByteArray × Int => [.un, .un, .un, .sl (s.1.map VV.str), .str s.2.1, .int s.2.2, .un, .un, .un, .un, .un, .un, .un, .un, .un, .un, .un, .un, .un, .un, .un, .un, .un, .un, .un, .un, .un, .un, .un, .un, .un, .un, .un, .un, .un, .un, .un, .un]) (L := fun k s => spec_Newest.l0 k s.1 s.2.1 s.2.2) _ ?_ ?_ _ _ ⟨_, _, _⟩ _ (Nat.le_refl _) zo ?_)
         (next => intro s; rfl)
         (next =>
           intro k1 M1 ⟨x3, x4, x5⟩ hk1 hM1 ih1
           conv => arg 2; simp only [spec_Newest.l0]
           repeat' first
             | (with_reducible first | exact Im.none | refine Im.ite (fun h => ?_) (fun h => ?_) | refine Im.sbind ?_)
             | ((conv => arg 3; whnf); first
               | ((with_reducible refine Im.fin ?_); exact zr)
               | ((with_reducible refine Im.anyo ?_ ?_); (next => kernel_rfl))
               | ((with_reducible refine Im.bite_t ?_ ?_); (next => exact zd))
               | ((with_reducible refine Im.must ?_ ?_); (next => exact zd))
               | ((with_reducible refine Im.bite_f ?_ ?_); (next => exact zd))
               | (with_reducible refine Im.byl ?_)
               | ((with_reducible refine Im.vget ByteArray.empty ?_ ?_ ?_); (next => exact zd); (next => exact zd))
               | ((with_reducible refine Im.vget z51 ?_ ?_ ?_); (next => exact zd); (next => exact zd))
               | ((with_reducible refine Im.vget z44 ?_ ?_ ?_); (next => exact zd); (next => exact zd))
               | ((with_reducible refine Im.vget z124 ?_ ?_ ?_); (next => exact zd); (next => exact zd))
               | ((with_reducible refine Im.vget z66 ?_ ?_ ?_); (next => exact zd); (next => exact zd))
               | ((with_reducible refine Im.vget z97 ?_ ?_ ?_); (next => exact zd); (next => exact zd))
               | ((with_reducible refine Im.vget (0 : Int) ?_ ?_ ?_); (next => exact zd); (next => exact zd))
               | ((with_reducible refine Im.vget false ?_ ?_ ?_); (next => exact zd); (next => exact zd))
               | ((with_reducible refine Im.call (spec_SortVersions.vi hG ?_ _) ?_ (fun r hr => ?_)); (next => omega); (next => exact zr))
               | ((with_reducible refine Im.call (spec_l01At.vi hG ?_ _ _) ?_ (fun r hr => ?_)); (next => omega); (next => exact zr))
               | ((with_reducible refine ih1 _ ⟨_, _, _⟩ _ ?_ ?_); (next => exact zo); exact zr)
               | exact zm | exact zx | fail)
           all_goals skip)
         exact zr)
      | exact zm | exact zx | fail)
  all_goals skip
theorem laws_FnExactNewest.vi {k m : Nat} {Gv : FuncId → Option (List VV → Option (VV × List VV))} (hG : Base Gv) (hL20 : Gv 20 = some impl_SortVersions.gv) (hm : k + 9 ≤ m) (l0 : List ByteArray) : Im (fun r => (.bool r, [])) (laws_FnExactNewest.f k l0) (callv Tryz.prog ti keep Gv m 5 [.sl (l0.map VV.str)]) := by
  obtain ⟨m, rfl⟩ : ∃ m', m = m' + 1 := ⟨m - 1, by omega⟩
  rw [show callv Tryz.prog ti keep Gv (m + 1) 5 _ = _ from callv_enter ((hG 5 (by decide)).trans rfl) Tryz.func5 (by kernel_rfl) rfl rfl]
  unfold laws_FnExactNewest.f
  repeat' first
    | (with_reducible first | exact Im.none | refine Im.ite (fun h => ?_) (fun h => ?_) | refine Im.sbind ?_)
    | ((conv => arg 3; whnf); first
      | ((with_reducible refine Im.fin ?_); exact zr)
      | ((with_reducible refine Im.anyo ?_ ?_); (next => kernel_rfl))
      | ((with_reducible refine Im.bite_t ?_ ?_); (next => exact zd))
      | ((with_reducible refine Im.must ?_ ?_); (next => exact zd))
      | ((with_reducible refine Im.bite_f ?_ ?_); (next => exact zd))
      | (with_reducible refine Im.byl ?_)
      | ((with_reducible refine Im.vget ByteArray.empty ?_ ?_ ?_); (next => exact zd); (next => exact zd))
      | ((with_reducible refine Im.vget z51 ?_ ?_ ?_); (next => exact zd); (next => exact zd))
      | ((with_reducible refine Im.vget z44 ?_ ?_ ?_); (next => exact zd); (next => exact zd))
      | ((with_reducible refine Im.vget z124 ?_ ?_ ?_); (next => exact zd); (next => exact zd))
      | ((with_reducible refine Im.vget z66 ?_ ?_ ?_); (next => exact zd); (next => exact zd))
      | ((with_reducible refine Im.vget z97 ?_ ?_ ?_); (next => exact zd); (next => exact zd))
      | ((with_reducible refine Im.vget (0 : Int) ?_ ?_ ?_); (next => exact zd); (next => exact zd))
      | ((with_reducible refine Im.vget false ?_ ?_ ?_); (next => exact zd); (next => exact zd))
      | ((with_reducible refine Im.call (impl_Newest.vi hG hL20 ?_ _) ?_ (fun r hr => ?_)); (next => omega); (next => exact zr))
      | ((with_reducible refine Im.call (laws_eqStringS.vi hG ?_ _ _) ?_ (fun r hr => ?_)); (next => omega); (next => exact zr))
      | ((with_reducible refine Im.call (laws_szStringS.vi hG ?_ _ _) ?_ (fun r hr => ?_)); (next => omega); (next => exact zr))
      | ((with_reducible refine Im.call (laws_toStringS.vi hG ?_ _) ?_ (fun r hr => ?_)); (next => omega); (next => exact zr))
      | ((with_reducible refine Im.call (spec_Newest.vi hG ?_ _) ?_ (fun r hr => ?_)); (next => omega); (next => exact zr))
      | exact zm | exact zx | fail)
  all_goals skip
end Go.Proofs.YteldcmniknocpaaGreatDoor.VI

end
section
namespace Go.Proofs.YteldcmniknocpaaGreatDoor.VI
open Go Go.RowKit Go.Proofs.YteldcmniknocpaaGreatDoor.G Go.Proofs.YteldcmniknocpaaGreatDoorW.PrintWords
set_option maxRecDepth 100000
set_option linter.unusedVariables false
set_option linter.unusedSimpArgs false
theorem kv51 : KV k51 (fun x => (e51 x).cells) := kv_iso (kv_pair kv_string kv_string) (fun _ => rfl)
theorem kv44 : KV k44 (fun x => (e44 x).cells) := kv_iso (kv_pair kv_string (kv_pair kv_string (kv_pair kv_string (kv_pair (kv_slice (d := k51) (enc := e51) kv51) (kv_pair kv_bool (kv_slice (d := Kd.string) (enc := VV.str) kv_string)))))) (fun _ => rfl)
theorem kv124 : KV k124 (fun x => (e124 x).cells) := kv_iso (kv_pair kv_string kv_string) (fun _ => rfl)
theorem kv66 : KV k66 (fun x => (e66 x).cells) := kv_iso (kv_pair kv_string (kv_pair kv_string (kv_pair kv_string (kv_pair (kv_slice (d := k124) (enc := e124) kv124) (kv_pair kv_bool (kv_slice (d := Kd.string) (enc := VV.str) kv_string)))))) (fun _ => rfl)
theorem kv97 : KV k97 (fun x => (e97 x).cells) := kv_iso (kv_pair kv_string kv_string) (fun _ => rfl)
end Go.Proofs.YteldcmniknocpaaGreatDoor.VI
namespace Go.Proofs.YteldcmniknocpaaGreatDoor.G
open Go Go.RowKit Go.Proofs.YteldcmniknocpaaGreatDoorW.PrintWords Go.Proofs.YteldcmniknocpaaGreatDoor.VI
set_option maxRecDepth 100000
set_option linter.unusedVariables false
set_option linter.unusedSimpArgs false
theorem laws_FnExactNewest.calls (k : Nat) (A0 : Option Addr) (c0 : Nat) (l0 : List ByteArray) (r : Bool) (w : World) (hr0 : Kd.C Kd.string w A0 l0.length l0) (hc0 : l0.length ≤ c0) (hGE : Glob FactE w) (hGM : Glob FactM w) (hGT : Glob FactT w) (hr_ : r = true) (h : laws_FnExactNewest.f k l0 = some r) :
  Calls Tryz.prog 5 #[.slice A0 l0.length c0] w fun e w' => e = .returned (.bool r) ∧ Below w.heap.size w w' := by
  have gws : ∀ a b, Below w.heap.size w a → Below w.heap.size a b → Below w.heap.size w b := fun a b h1 h2 => h1.trans h2
  have hok := callv_ok (P := Tryz.prog) (NG := w.heap.size) (GW := fun a => Below w.heap.size w a) VI.hti gws (keep := keep) (Gv := Gv) (given_ok hGE hGM hGT) (fun C hC hc => any_sound (by kernel_rfl) (by rw [hC]; exact VI.hti) gws hc) (k + 9)
  exact CallOk1.calls (hok 5 _ _ rfl (laws_FnExactNewest.vi (k := k) (m := k + 9) base1 rfl (Nat.le_refl _) l0 r h)) (Below.refl _ _) (Nat.le_refl _) (.cons _ _ _ _ (dr_row (enc := VV.str) kv_string hc0 hr0) .nil)
end Go.Proofs.YteldcmniknocpaaGreatDoor.G

end
section
namespace Go.Proofs.YteldcmniknocpaaGreatDoor.U
open Go Go.RowKit Go.Proofs.YteldcmniknocpaaGreatDoorW.PrintWords Go.Proofs.YteldcmniknocpaaGreatDoor.G
set_option linter.unusedVariables false
set_option linter.unusedSimpArgs false
theorem ins_take (s : B) : ∀ (j : Nat) (out : List B), (∀ w ∈ out.take j, cmpS w s < 0) → ins cmpS s out = out.take j ++ ins cmpS s (out.drop j)
  | 0, out, _ => by simp
  | j + 1, [], _ => by simp
  | j + 1, w :: r, h => by
    rw [ins, if_pos (h w (by simp)), ins_take s j r fun x hx => h x (by simp [hx])]
    simp
theorem rd_S (out : List B) (j : Nat) (h : j < out.length) : rdOf ByteArray.empty (out.map S) (j : Int) = S (out.getD j []) := by
  unfold rdOf
  rw [List.getD_eq_getElem?_getD, List.getD_eq_getElem?_getD]
  simp [h]
theorem splice (out : List B) (s : ByteArray) (j : Nat) (hj : j ≤ out.length) : ([] ++ ((out.map S).take ((j : Int)).toNat).drop (Int.toNat 0)) ++ [s] ++ ((out.map S).take (Int.toNat ((out.map S).length : Int))).drop ((j : Int)).toNat = (out.take j ++ L s :: out.drop j).map S := by
  rw [Int.toNat_natCast, Int.toNat_natCast, List.take_length, List.nil_append]
  simp [List.map_take, List.map_drop]
theorem sort_ins (l : List ByteArray) (hl : l.length ≤ 1048576) (i : Nat) (hi : i < l.length) (out : List B) (hol : out.length ≤ 1048576) (ho : ∀ w ∈ out, w.length ≤ 1048576) {r : List ByteArray}
    (h : Ev (fun k => spec_SortVersions.l0 k l ((ins cmpS (L (l.getD i ByteArray.empty)) out).map S) ((i + 1 : Nat) : Int)) r) : ∀ e j, j + e = out.length → (∀ w ∈ out.take j, cmpS w (L (l.getD i ByteArray.empty)) < 0) →
    Ev (fun k => spec_SortVersions.l1 k l (out.map S) (i : Int) (j : Int) (readVer (L (l.getD i ByteArray.empty))).1 (readVer (L (l.getD i ByteArray.empty))).2.1 (readVer (L (l.getD i ByteArray.empty))).2.2.1 (readVer (L (l.getD i ByteArray.empty))).2.2.2.1) r := by
  have es : rdOf ByteArray.empty l (i : Int) = l.getD i ByteArray.empty := rfl
  generalize hs : l.getD i ByteArray.empty = s at *
  have hml : (out.map S).length = out.length := List.length_map ..
  intro e
  induction e with
  | zero =>
    intro j hj hlt
    have hins : ins cmpS (L s) out = out.take j ++ L s :: out.drop j := by
      rw [ins_take (L s) j out hlt, List.drop_of_length_le (by omega)]; rfl
    rw [hins, ← splice out s j (by omega)] at h
    refine Ev.step (f := fun k => spec_SortVersions.j1 k l (out.map S) (i : Int) (j : Int)) (fun k => by rw [spec_SortVersions.l1, if_neg (by omega)]) ?_
    refine Ev.step (fun k => by rw [spec_SortVersions.j1, if_neg (by omega), if_pos (by omega), if_pos (by omega), if_pos (by omega), if_pos (by omega), if_pos (by omega), es, wa1 i (by omega)]) ?_
    exact h
  | succ e ih =>
    intro j hj hlt
    have hjl : j < out.length := by omega
    have hw := ho _ (getD_mem out j [] hjl)
    refine Ev.step (fun k => by rw [spec_SortVersions.l1, if_pos (by omega), if_pos (by omega), rd_S out j hjl, wa1 j (by omega)]) ?_
    have hrv := spec_ReadVersion_ev (S (out.getD j [])) (by rw [size_S]; exact hw)
    rw [L_S] at hrv
    refine Ev.bind hrv (Ev.bind (spec_compare_ev (out.getD j []) (L s)) ?_)
    have hdrop := drop_getD out j [] hjl
    by_cases hc : cmpS (out.getD j []) (L s) < 0
    · refine ev_neg (by omega) (ih (j + 1) (by omega) fun w hw' => ?_)
      rw [List.take_succ_eq_append_getElem hjl, List.mem_append, List.mem_singleton] at hw'
      rcases hw' with hw' | rfl
      · exact hlt w hw'
      · rw [List.getD_eq_getElem?_getD, List.getElem?_eq_getElem hjl] at hc; exact hc
    · refine ev_pos (by omega) ?_
      by_cases he : out.getD j [] = L s
      · have hins : ins cmpS (L s) out = out := by
          rw [ins_take (L s) j out hlt, hdrop, ins, if_neg hc, if_pos he, ← hdrop]
          exact List.take_append_drop j out
        rw [hins] at h
        refine Ev.step (fun k => by rw [spec_SortVersions.j1, if_pos (by omega), if_pos (by omega), if_pos (by omega), if_pos (by omega), es, rd_S out j hjl, if_pos (by rw [toList_L, toList_L, L_S]; exact he), wa1 i (by omega)]) ?_
        exact h
      · have hins : ins cmpS (L s) out = out.take j ++ L s :: out.drop j := by
          rw [ins_take (L s) j out hlt, hdrop, ins, if_neg hc, if_neg he]
        rw [hins, ← splice out s j (by omega)] at h
        refine Ev.step (fun k => by rw [spec_SortVersions.j1, if_pos (by omega), if_pos (by omega), if_pos (by omega), if_pos (by omega), es, rd_S out j hjl, if_neg (by rw [toList_L, toList_L, L_S]; exact he), if_pos (by omega), if_pos (by omega), if_pos (by omega), if_pos (by omega), if_pos (by omega), wa1 i (by omega)]) ?_
        exact h
theorem ins_len (s : B) : ∀ out : List B, (ins cmpS s out).length ≤ out.length + 1
  | [] => by simp [ins]
  | w :: r => by
    rw [ins]
    split
    · have := ins_len s r; simp only [List.length_cons]; omega
    · split <;> simp
theorem spec_SortVersions_ev (l : List ByteArray) (hl : l.length ≤ 1048576) (hs : ∀ x ∈ l, x.size ≤ 1048576) : Ev (fun k => spec_SortVersions.f k l) ((sorted cmpS ((l.map L).filter isVer)).map S) := by
  unfold spec_SortVersions.f sorted
  have key : ∀ d i (out : List B), i + d = l.length → out.length ≤ i → (∀ w ∈ out, w.length ≤ 1048576) → Ev (fun k => spec_SortVersions.l0 k l (out.map S) (i : Int)) (((((l.drop i).map L).filter isVer).foldl (fun o s => ins cmpS s o) out).map S) := by
    intro d
    induction d with
    | zero =>
      intro i out hi ho hw
      rw [List.drop_of_length_le (by omega)]
      exact Ev.step (f := fun _ => some (out.map S)) (fun k => by rw [spec_SortVersions.l0, if_neg (by omega)]) (Ev.now _)
    | succ d ih =>
      intro i out hi ho hw
      have hlt : i < l.length := by omega
      have hm := hs _ (getD_mem l i ByteArray.empty hlt)
      have es : rdOf ByteArray.empty l (i : Int) = l.getD i ByteArray.empty := rfl
      rw [drop_getD l i ByteArray.empty hlt, List.map_cons]
      refine Ev.step (fun k => by rw [spec_SortVersions.l0, if_pos (by omega), if_pos (by omega), es, wa1 i (by omega)]) ?_
      refine Ev.bind (spec_ReadVersion_ev _ hm) ?_
      by_cases h : isVer (L (l.getD i ByteArray.empty)) = true
      · rw [List.filter_cons_of_pos h, List.foldl_cons]
        refine ev_pos h ?_
        have go := ih (i + 1) (ins cmpS (L (l.getD i ByteArray.empty)) out) (by omega) (by have := ins_len (L (l.getD i ByteArray.empty)) out; omega) (fun w hx => by
          rcases (mem_ins _ _ _).1 hx with rfl | hx
          · have := size_L (l.getD i ByteArray.empty); omega
          · exact hw w hx)
        exact sort_ins l hl i hlt out (by omega) hw go out.length 0 (by omega) (fun w hx => by simp at hx)
      · rw [List.filter_cons_of_neg h]
        exact ev_neg h (ih (i + 1) out (by omega) (by omega) hw)
  have := key l.length 0 [] (by omega) (by simp) (fun w hx => by simp at hx)
  rw [List.drop_zero] at this
  exact this
theorem cutP_ne (c : UInt8) : ∀ (l p : B), cutP c p l ≠ []
  | [], p => by simp [cutP]
  | y :: l, p => by
    unfold cutP
    split
    · simp
    · exact cutP_ne c l _
theorem pre_dash {l : B} (h : isVer l = true) : (((readVer l).2.2.2.1.length : Nat) : Int) = 0 ↔ idx l 45 < 0 := by
  have e : (readVer l).2.2.2.1 = vpre l := by
    unfold isVer at h
    unfold readVer at h ⊢
    split at h
    · rename_i hc; rw [if_pos hc]
    · simp [zeroV] at h
  rw [e]
  unfold vpre
  by_cases hi : 0 ≤ idx l 45
  · rw [if_pos hi]
    have := List.length_pos_iff.2 (cutP_ne 46 (l.drop ((idx l 45).toNat + 1)) [])
    rw [List.length_map]
    constructor <;> intro <;> omega
  · rw [if_neg hi]
    simp; omega
def nodash (x : ByteArray) : Bool := decide (idx (L x) 45 < 0)
def best (b : ByteArray) (l : List ByteArray) : ByteArray := l.foldl (fun b x => if nodash x = true then x else b) b
def newest (l : List ByteArray) : ByteArray := if (best ⟨#[]⟩ l).toList = [] then (if l.length = 0 then ⟨#[]⟩ else l.getD (l.length - 1) ByteArray.empty) else best ⟨#[]⟩ l
theorem spec_newest_loop (l : List ByteArray) (hl : l.length ≤ 1048577) (hs : ∀ x ∈ l, x.size ≤ 1048576) : ∀ d i (b : ByteArray), i + d = l.length →
    Ev (fun k => spec_Newest.l0 k l b (i : Int)) (if (best b (l.drop i)).toList = [] then (if l.length = 0 then best b (l.drop i) else l.getD (l.length - 1) ByteArray.empty) else best b (l.drop i)) := by
  intro d
  induction d with
  | zero =>
    intro i b hi
    rw [List.drop_of_length_le (by omega)]
    show Ev _ (if b.toList = [] then (if l.length = 0 then b else _) else b)
    refine Ev.step (f := fun _ => if b.toList = ([] : List UInt8) then (if (l.length : Int) > 0 then (if 0 ≤ (wrap64 ((l.length : Int) - 1)) then (if (wrap64 ((l.length : Int) - 1)) < (l.length : Int) then (some (rdOf ByteArray.empty l (wrap64 ((l.length : Int) - 1)))) else (none)) else (none)) else (some b)) else (some b)) (fun k => by rw [spec_Newest.l0, if_neg (show ¬ (i : Int) < (l.length : Int) by omega)]) ?_
    by_cases h : b.toList = []
    · refine ev_pos h ?_
      rw [if_pos h]
      by_cases h0 : l.length = 0
      · rw [if_pos h0]; exact ev_neg (by omega) (Ev.now _)
      · rw [if_neg h0]
        have hw : wrap64 ((l.length : Int) - 1) = ((l.length - 1 : Nat) : Int) := by rw [w64 (by omega) (by omega)]; omega
        refine ev_pos (by omega) ?_
        rw [hw]
        exact ev_pos (by omega) (ev_pos (by omega) (Ev.now _))
    · refine ev_neg h ?_
      rw [if_neg h]; exact Ev.now _
  | succ d ih =>
    intro i b hi
    have hlt : i < l.length := by omega
    have hm := hs _ (getD_mem l i ByteArray.empty hlt)
    have es : rdOf ByteArray.empty l (i : Int) = l.getD i ByteArray.empty := rfl
    rw [drop_getD l i ByteArray.empty hlt]
    refine Ev.step (fun k => by rw [spec_Newest.l0, if_pos (show (i : Int) < (l.length : Int) by omega), if_pos (show (0 : Int) ≤ (i : Int) by omega), es, wa1 i (by omega)]) ?_
    refine Ev.bind (spec_l01At_ev (l.getD i ByteArray.empty) 45 (by omega)) ?_
    by_cases h : idx (L (l.getD i ByteArray.empty)) 45 < 0
    · have e : best b (l.getD i ByteArray.empty :: l.drop (i + 1)) = best (l.getD i ByteArray.empty) (l.drop (i + 1)) := by
        show best (if nodash _ = true then _ else _) _ = _
        rw [if_pos (show nodash (l.getD i ByteArray.empty) = true from decide_eq_true h)]
      rw [e]
      exact ev_pos h (ih (i + 1) _ (by omega))
    · have e : best b (l.getD i ByteArray.empty :: l.drop (i + 1)) = best b (l.drop (i + 1)) := by
        show best (if nodash _ = true then _ else _) _ = _
        rw [if_neg (show ¬ nodash (l.getD i ByteArray.empty) = true by unfold nodash; simpa using h)]
      rw [e]
      exact ev_neg h (ih (i + 1) _ (by omega))
theorem best_snoc (b x : ByteArray) (l : List ByteArray) : best b (l ++ [x]) = if nodash x = true then x else best b l := by
  unfold best
  rw [List.foldl_append]; rfl
theorem impl_newest_loop (l : List ByteArray) (hl : l.length ≤ 1048577) (hv : ∀ x ∈ l, isVer (L x) = true ∧ x.size ≤ 1048576) : ∀ n, n ≤ l.length →
    Ev (fun k => impl_Newest.l0 k l ((n : Int) - 1)) (if (best ⟨#[]⟩ (l.take n)).toList = [] then (if l.length = 0 then ⟨#[]⟩ else l.getD (l.length - 1) ByteArray.empty) else best ⟨#[]⟩ (l.take n)) := by
  intro n
  induction n with
  | zero =>
    intro _
    rw [List.take_zero, if_pos (show (best ⟨#[]⟩ []).toList = [] from by rw [toList_L]; rfl)]
    refine Ev.step (f := fun _ => if (l.length : Int) = 0 then (some (⟨#[]⟩ : ByteArray)) else (if 0 ≤ (wrap64 ((l.length : Int) - 1)) then (if (wrap64 ((l.length : Int) - 1)) < (l.length : Int) then (some (rdOf ByteArray.empty l (wrap64 ((l.length : Int) - 1)))) else (none)) else (none))) (fun k => by rw [impl_Newest.l0, if_neg (by omega)]) ?_
    by_cases h0 : l.length = 0
    · rw [if_pos h0]; exact ev_pos (by omega) (Ev.now _)
    · rw [if_neg h0]
      have hw : wrap64 ((l.length : Int) - 1) = ((l.length - 1 : Nat) : Int) := by rw [w64 (by omega) (by omega)]; omega
      refine ev_neg (by omega) ?_
      rw [hw]
      exact ev_pos (by omega) (ev_pos (by omega) (Ev.now _))
  | succ n ih =>
    intro hn
    have hlt : n < l.length := by omega
    obtain ⟨h1, h2⟩ := hv _ (getD_mem l n ByteArray.empty hlt)
    have es : rdOf ByteArray.empty l (n : Int) = l.getD n ByteArray.empty := rfl
    have e : ((n + 1 : Nat) : Int) - 1 = (n : Int) := by omega
    have ew : wrap64 ((n : Int) - 1) = (n : Int) - 1 := w64 (by omega) (by omega)
    have et : l.take (n + 1) = l.take n ++ [l.getD n ByteArray.empty] := by
      rw [List.take_succ_eq_append_getElem hlt, List.getD_eq_getElem?_getD, List.getElem?_eq_getElem hlt]; rfl
    rw [e, et, best_snoc]
    refine Ev.step (fun k => by rw [impl_Newest.l0, if_pos (by omega), if_pos (by omega), if_pos (by omega), es, ew]) ?_
    refine Ev.bind (impl_ReadVersion_ev _ h2) ?_
    have hd := pre_dash h1
    by_cases h : idx (L (l.getD n ByteArray.empty)) 45 < 0
    · rw [if_pos (show nodash (l.getD n ByteArray.empty) = true from decide_eq_true h), if_neg (by
        intro h0
        rw [toList_L] at h0
        rw [h0, isVer_nil] at h1; cases h1)]
      exact ev_pos (hd.2 h) (Ev.now _)
    · rw [if_neg (show ¬ nodash (l.getD n ByteArray.empty) = true by unfold nodash; simpa using h)]
      exact ev_neg (fun h0 => h (hd.1 h0)) (ih (by omega))
theorem sorted_ver (l : List ByteArray) (hs : ∀ x ∈ l, x.size ≤ 1048576) : ∀ x ∈ (sorted cmpS ((l.map L).filter isVer)).map S, isVer (L x) = true ∧ x.size ≤ 1048576 := by
  intro x hx
  obtain ⟨y, hy, rfl⟩ := List.mem_map.1 hx
  have hm := ((sorted_is cmpS_keyed ((l.map L).filter isVer) (fun a ha b hb h => cmpS_inj (List.mem_filter.1 ha).2 (List.mem_filter.1 hb).2 h)).2 y).1 hy
  obtain ⟨h1, h2⟩ := List.mem_filter.1 hm
  obtain ⟨z, hz, rfl⟩ := List.mem_map.1 h1
  exact ⟨by rw [L_S]; exact h2, by rw [S_L]; exact hs z hz⟩
theorem sorted_len (l : List B) : (sorted cmpS l).length ≤ l.length := by
  have : ∀ (l o : List B), (l.foldl (fun out s => ins cmpS s out) o).length ≤ l.length + o.length := by
    intro l
    induction l with
    | nil => intro o; simp
    | cons s l ih =>
      intro o
      have h1 := ih (ins cmpS s o)
      have h2 := ins_len s o
      rw [List.foldl_cons, List.length_cons]; omega
  exact this l []
theorem spec_Newest_ev (l : List ByteArray) (hl : l.length ≤ 1048576) (hs : ∀ x ∈ l, x.size ≤ 1048576) : Ev (fun k => spec_Newest.f k l) (newest ((sorted cmpS ((l.map L).filter isVer)).map S)) := by
  unfold spec_Newest.f
  have hlen : ((sorted cmpS ((l.map L).filter isVer)).map S).length ≤ 1048577 := by
    have h1 := sorted_len ((l.map L).filter isVer)
    have h2 := List.length_filter_le isVer (l.map L)
    rw [List.length_map] at h2 ⊢; omega
  refine Ev.bind (spec_SortVersions_ev l hl hs) ?_
  have := spec_newest_loop _ hlen (fun x hx => (sorted_ver l hs x hx).2) _ 0 ⟨#[]⟩ (Nat.zero_add _)
  rw [List.drop_zero] at this
  refine ev_use this ?_
  unfold newest
  by_cases h : (best ⟨#[]⟩ ((sorted cmpS ((l.map L).filter isVer)).map S)).toList = []
  · rw [if_pos h, if_pos h]
    by_cases h0 : ((sorted cmpS ((l.map L).filter isVer)).map S).length = 0
    · rw [if_pos h0, if_pos h0, List.eq_nil_of_length_eq_zero h0]; rfl
    · rw [if_neg h0, if_neg h0]
  · rw [if_neg h, if_neg h]
theorem impl_Newest_ev (l : List ByteArray) (hl : l.length ≤ 1048576) (hs : ∀ x ∈ l, x.size ≤ 1048576) : Ev (fun k => impl_Newest.f k l) (newest ((sorted cmpS ((l.map L).filter isVer)).map S)) := by
  unfold impl_Newest.f
  have hlen : ((sorted cmpS ((l.map L).filter isVer)).map S).length ≤ 1048577 := by
    have h1 := sorted_len ((l.map L).filter isVer)
    have h2 := List.length_filter_le isVer (l.map L)
    rw [List.length_map] at h2 ⊢; omega
  have hf : impl_SortVersions.f l = some ((sorted cmpS ((l.map L).filter isVer)).map S) := by unfold impl_SortVersions.f; rw [if_pos ⟨hl, hs⟩]
  rw [hf]
  have := impl_newest_loop _ hlen (sorted_ver l hs) _ (Nat.le_refl _)
  rw [List.take_length] at this
  have ew : ∀ n : Nat, n ≤ 1048577 → wrap64 ((n : Int) - 1) = (n : Int) - 1 := fun n hn => w64 (by omega) (by omega)
  show Ev (fun k => impl_Newest.l0 k _ (wrap64 _)) _
  rw [ew _ hlen]
  exact this
end Go.Proofs.YteldcmniknocpaaGreatDoor.U

end
section
namespace Go.Proofs.YteldcmniknocpaaGreatDoor.U
open Go Go.RowKit Go.Proofs.YteldcmniknocpaaGreatDoorW.PrintWords Go.Proofs.YteldcmniknocpaaGreatDoor.G
set_option linter.unusedVariables false
set_option maxRecDepth 100000
theorem eqStringS_ok (l : List ByteArray) (h : l.length ≤ maxLen) : Ev (fun k => laws_eqStringS.f k l l) true := by
  unfold laws_eqStringS.f
  refine ev_pos rfl ?_
  refine eq_loop l ByteArray.empty (fun k i => laws_eqStringS.l0 k l l i) (fun _ x => some true) h ?_ ?_ (fun _ _ => Ev.now _)
  · intro k i hi
    show laws_eqStringS.l0 (k + 1) l l (i : Int) = _
    rw [laws_eqStringS.l0, if_pos (by omega), if_pos (by omega), if_pos (by omega), if_pos rfl]
    rfl
  · intro k
    show laws_eqStringS.l0 (k + 1) l l (l.length : Int) = _
    rw [laws_eqStringS.l0, if_neg (by omega)]
theorem szStringS_ok (l : List ByteArray) (h : l.length ≤ maxLen ∧ ∀ x_ ∈ l, x_.size ≤ maxLen) : Sz (fun k left => laws_szStringS.f k l left) (w_StringS l) := by
  have hs : ∀ x ∈ l, Sz (fun _ left => if wrap64 (left - (x.size : Int)) < 0 then some (-1) else some (wrap64 (left - (x.size : Int)))) (x.size : Int) := fun x hx => ⟨by omega, fun left hr => sz_last hr (h.2 x hx)⟩
  refine ⟨w_StringS_nonneg l, fun left hr => ?_⟩
  show Ev (fun k => laws_szStringS.f k l left) _
  unfold laws_szStringS.f w_StringS wList
  rw [room_sub hr h.1]
  refine sz_cut' hr (sumW_nonneg fun x hx => (hs x hx).1) fun hb hr => ?_
  refine sz_loop l ByteArray.empty (fun s => (s.size : Int)) (fun k i st => laws_szStringS.l0 k l st i) (fun _ x left => if wrap64 (left - (x.size : Int)) < 0 then some (-1) else some (wrap64 (left - (x.size : Int)))) h.1 ?_ ?_ hs _ hr
  · intro k i st hi
    show laws_szStringS.l0 (k + 1) l st (i : Int) = _
    rw [laws_szStringS.l0, if_pos (by omega), if_pos (by omega)]
    show (if wrap64 (st - ((l.getD i ByteArray.empty).size : Int)) < 0 then some (-1) else laws_szStringS.l0 k l (wrap64 (st - ((l.getD i ByteArray.empty).size : Int))) (wrap64 ((i : Int) + 1))) = _
    generalize wrap64 (st - ((l.getD i ByteArray.empty).size : Int)) = y
    by_cases hy : y < 0
    · simp only [if_pos hy]; rfl
    · simp only [if_neg hy]; show _ = (if y < 0 then _ else _); rw [if_neg hy]
  · intro k st
    show laws_szStringS.l0 (k + 1) l st (l.length : Int) = _
    rw [laws_szStringS.l0, if_neg (by omega)]
end Go.Proofs.YteldcmniknocpaaGreatDoor.U

end
