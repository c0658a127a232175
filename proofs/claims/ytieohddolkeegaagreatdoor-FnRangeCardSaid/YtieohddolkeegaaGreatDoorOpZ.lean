/- A part of the proof that the law FnRange answers true at every input that its row speaks of. Conditions: the row's own. -/
import Derived.Test.YtieohddolkeegaaGreatDoorVMore
namespace Go.Proofs.YtieohddolkeegaaGreatDoor.G
open Go Go.RowKit Go.Proofs.aA.aZ Go.Proofs.aA.jM Go.Proofs.aA.mW
set_option linter.unusedVariables false
set_option linter.unusedSimpArgs false
theorem zR {P Q : Prop} (a : Q) (h : Q → P := by intro x_; (with_reducible repeat (first | apply Kd.MG | apply Kd.MH | apply Kd.pM)); exact x_) : P := h a
theorem zB {P Q : Prop} (a : Q) (h : Q → P := by intro x_; (with_reducible repeat (first | refine qg ?_ _ | refine qh ?_ | refine qi ?_ _)); exact x_) : P := h a
theorem hb1 {α β : Type} {f g : Option α} {F : α → Option β} {r : Option β} (H : f.bind F = r) (e : g = f) : g.bind F = r := by rw [e]; exact H
theorem hb2 {α β : Type} {a : α} {F : α → Option β} {r : Option β} (H : (some a).bind F = r) : F a = r := H
theorem am {p : Prop} (h : p) : dC p := dC.mk h
theorem kz {α : Type} {d : Kd α} {e base g : Nat} {w w1 : World} {ok : Nat → Prop} {v : Value} {xs : List α} (h : d.R e w base (fun k => ok k ∧ k ≠ g) v xs) (hk : aQ w w1 g none) : d.R e w1 base ok v xs := Kd.gG (Kd.R_keep h hk (fun _ h => h.2)) (fun _ h => h.1)
theorem kb {w w1 w2 : World} {g : Nat} (h : aQ w w1 g none) (hb : Below w1.heap.size w1 w2) : aQ w w2 g none := aQ.trans h (aQ.of_below hb g none) (.inl rfl)
theorem bc {w : World} {g : Nat} {t : TypeId} {cs : Array Value} (h : w.heap[g]? = some (.cells cs t (0, 0))) (i : Nat) {v : Value} (e : cs[i]? = some v := by exact rfl) : w.cell? ⟨g, i, none⟩ = some v := (fA h i).trans e
section
variable {P : Program} {md : Region.Mode} {ops : Array Oper} {Q : Exit → Act → World → Prop} {S : World → Prop} {ds : List Nat}
theorem pz (i N : Nat) {oi : Oper} {v : Value} {fuel : Nat} {l l' : Array Bool} {a a' : Act} {w : World}
    (h : eU P md ops Q S ds fuel l' a' w)
    (hl : l.setIfInBounds i true = l' := by (simp only [List.setIfInBounds_toArray, List.set_cons_zero, List.set_cons_succ]; rfl))
    (hi : ops[i]? = some oi := by rfl) (hN : oi.dst = some N := by rfl) (hc : XH md ops l l' i = true := by exact aah uC.out (by kernel_rfl))
    (hQ : ∀ c a w, Q (.panic c) (a.put oi.dst v) w → Q (.panic c) a w := by exact fun _ _ _ h => h)
    (hy : Yields P ops oi v a := by exact Or.inl ⟨by rfl, by intro w'; go_simp; with_reducible rfl⟩)
    (ha : a.put (some N) v = a' := by (simp only [Act.put, List.setIfInBounds_toArray, List.set_cons_zero, List.set_cons_succ, jG, jL]; rfl)) : eU P md ops Q S ds (fuel + 1) l a w :=
  pure_ l' hi hN hc hQ hy ha h
theorem pu (i N : Nat) {oi : Oper} {fuel : Nat} {l l' : Array Bool} {a a' : Act} {w : World}
    (h : eU P md ops Q S ds fuel l' a' w)
    (hl : l.setIfInBounds i true = l' := by (simp only [List.setIfInBounds_toArray, List.set_cons_zero, List.set_cons_succ]; rfl))
    (hi : ops[i]? = some oi := by rfl) (hN : oi.dst = some N := by rfl) (hc : XH md ops l l' i = true := by exact aah uC.out (by kernel_rfl))
    (hQ : ∀ c a w, Q (.panic c) (a.put oi.dst undef) w → Q (.panic c) a w := by exact fun _ _ _ h => h)
    (hy : Yields P ops oi undef a := by exact Or.inr ⟨by rfl, rfl⟩)
    (ha : a.put (some N) undef = a' := by (simp only [Act.put, List.setIfInBounds_toArray, List.set_cons_zero, List.set_cons_succ, jG, jL]; rfl)) : eU P md ops Q S ds (fuel + 1) l a w :=
  pure_ l' hi hN hc hQ hy ha h
end
end Go.Proofs.YtieohddolkeegaaGreatDoor.G
namespace Go.Proofs.YtieohddolkeegaaGreatDoor.G
theorem zb45 {P : Prop} (h : P := by first | (rw [add_block]; exact Ho) | (show (Addr.add _ _).block ≠ _; rw [add_block]; exact Ho) | exact Ho) : P := h
theorem zb44 {P : Prop} (h : P := by repeat (first | exact (Kd.eG lD.out).2.2 | (with_reducible refine Kd.rC ?_ _) | (with_reducible refine Kd.rD ?_ _) | (with_reducible refine Kd.uz ?_))) : P := h
theorem zb43 {P : Prop} (h : P := by repeat (first | exact (Kd.eG Ba.out).2.2 | (with_reducible refine Kd.rC ?_ _) | (with_reducible refine Kd.rD ?_ _) | (with_reducible refine Kd.uz ?_))) : P := h
theorem zb42 {P : Prop} (h : P := by repeat (first | (with_reducible first | exact QC.out | apply aG.alloc | apply aG.drewN | apply aG.drew | apply aG.Fa | apply aG.Fb) | exact QC.out)) : P := h
theorem zb41 {P : Prop} (h : P := by repeat (first | (with_reducible first | exact QD.out | apply aG.alloc | apply aG.drewN | apply aG.drew | apply aG.Fa | apply aG.Fb) | exact QD.out)) : P := h
theorem zb40 {P : Prop} (h : P := by repeat (first | (with_reducible first | exact QE.out | apply aG.alloc | apply aG.drewN | apply aG.drew | apply aG.Fa | apply aG.Fb) | exact QE.out)) : P := h
theorem mY {P : Prop} (h : P := by omega) : P := h
theorem YV {P : Prop} (h : P := by repeat (first | exact kG.refl _ | apply kG.step)) : P := h
theorem zb37 {P : Prop} (h : P := by (with_reducible repeat (first | refine qg ?_ _ | refine qh ?_ | refine qi ?_ _)); refine iU (cs := #[.int .i64 jQ, .int .i64 jl, .int .i64 jm, kN]) ?_ 3 _ rfl; (with_reducible repeat (first | refine qg ?_ _ | refine qh ?_ | refine qi ?_ _)); exact ah.out) : P := h
theorem MI {P : Prop} (h : P := by first | omega | exact Nat.le_refl _) : P := h
theorem zb35 {P : Prop} (h : P := by (with_reducible repeat (first | refine qg ?_ _ | refine qh ?_ | refine qi ?_ _)); refine iU (cs := #[.int .i64 jQ, .int .i64 jl, .int .i64 jm, .slice none 0 0]) ?_ 3 _ rfl; (with_reducible repeat (first | refine qg ?_ _ | refine qh ?_ | refine qi ?_ _)); exact ah.out) : P := h
theorem zb34 {P : Prop} (h : P := by repeat (first | (with_reducible first | exact HB.out | apply dP | apply dJ | apply dQ | refine jV ?_ (aG.ge Uy.out)) | exact HB.out)) : P := h
theorem zb33 {P : Prop} (h : P := by repeat (first | (with_reducible first | exact HB.out | apply dP | apply dJ | apply dQ | refine jV ?_ (aG.ge Uz.out)) | exact HB.out)) : P := h
theorem zb32 {P : Prop} (h : P := by repeat (first | (with_reducible first | exact HB.out | apply dP | apply dJ | apply dQ | refine jV ?_ (aG.ge QC.out)) | exact HB.out)) : P := h
theorem zb31 {P : Prop} (h : P := by repeat (first | (with_reducible first | exact HB.out | apply dP | apply dJ | apply dQ | refine jV ?_ (aG.ge QD.out)) | exact HB.out)) : P := h
theorem zb30 {P : Prop} (h : P := by repeat (first | (with_reducible first | exact HBW.out | apply dP | apply dJ | apply dQ) | exact HBW.out)) : P := h
theorem gB {P : Prop} (h : P := by simp) : P := h
theorem Wn {P : Prop} (h : P := by simp only [FC, Act.put, List.setIfInBounds_toArray, List.set_cons_zero, List.set_cons_succ]) : P := h
theorem zb27 {P : Prop} (h : P := by repeat (first | (with_reducible first | exact HB.out | apply dP | apply dJ | apply dQ | refine jV ?_ (aG.ge QE.out)) | exact HB.out)) : P := h
theorem Vb {P : Prop} (h : P := by repeat (first | exact oJ.none _ _ | refine oJ.one (show Kd.M (Kd.int .i64) _ _ _ _ [.int .i64 _] from rfl) ?_)) : P := h
theorem WT {P : Prop} (h : P := by repeat (first | (with_reducible first | exact HB.out | apply dP | apply dJ | apply dQ | refine jV ?_ GE315.out) | exact HB.out)) : P := h
theorem zb24 {P : Prop} (h : P := by (with_reducible repeat (first | refine qg ?_ _ | refine qh ?_ | refine qi ?_ _)); refine iU (cs := #[.int .i64 jQ, .int .i64 jl, .int .i64 jm, .slice none 0 0]) ?_ 3 _ rfl; (with_reducible repeat (first | refine qg ?_ _ | refine qh ?_ | refine qi ?_ _)); refine iU (cs := #[.int .i64 jQ, .int .i64 jl, .int .i64 0, .slice none 0 0]) ?_ 2 _ rfl; (with_reducible repeat (first | refine qg ?_ _ | refine qh ?_ | refine qi ?_ _)); refine iU (cs := #[.int .i64 jQ, .int .i64 0, .int .i64 0, .slice none 0 0]) ?_ 1 _ rfl; (with_reducible repeat (first | refine qg ?_ _ | refine qh ?_ | refine qi ?_ _)); refine iU (cs := #[.int .i64 0, .int .i64 0, .int .i64 0, .slice none 0 0]) ?_ 0 _ rfl; (with_reducible repeat (first | refine qg ?_ _ | refine qh ?_ | refine qi ?_ _)); exact dG.out) : P := h
theorem Xz {P : Prop} (h : P := by (with_reducible repeat (first | refine qg ?_ _ | refine qh ?_ | refine qi ?_ _)); refine oh ?_ jg.out _; (with_reducible repeat (first | refine qg ?_ _ | refine qh ?_ | refine qi ?_ _)); exact dG.out) : P := h
theorem dY {P : Prop} (h : P := by decide) : P := h
theorem zb21 {P : Prop} (h : P := by (with_reducible repeat (first | refine qg ?_ _ | refine qh ?_ | refine qi ?_ _)); refine iU (cs := #[.int .i64 jQ, .int .i64 jl, .int .i64 jm, .slice none 0 0]) ?_ 3 _ rfl; (with_reducible repeat (first | refine qg ?_ _ | refine qh ?_ | refine qi ?_ _)); refine iU (cs := #[.int .i64 jQ, .int .i64 jl, .int .i64 0, .slice none 0 0]) ?_ 2 _ rfl; (with_reducible repeat (first | refine qg ?_ _ | refine qh ?_ | refine qi ?_ _)); refine iU (cs := #[.int .i64 jQ, .int .i64 0, .int .i64 0, .slice none 0 0]) ?_ 1 _ rfl; (with_reducible repeat (first | refine qg ?_ _ | refine qh ?_ | refine qi ?_ _)); refine iU (cs := #[.int .i64 0, .int .i64 0, .int .i64 0, .slice none 0 0]) ?_ 0 _ rfl; (with_reducible repeat (first | refine qg ?_ _ | refine qh ?_ | refine qi ?_ _)); refine oh ?_ jg.out _; (with_reducible repeat (first | refine qg ?_ _ | refine qh ?_ | refine qi ?_ _)); exact dG.out) : P := h
theorem G9 {P : Prop} (h : P := by repeat (first | exact oJ.none _ _ | refine oJ.one (show Kd.M Kd.string _ _ _ _ [.string _] from rfl) ?_)) : P := h
theorem Qq {P : Prop} (h : P := by repeat (first | (with_reducible first | exact HB.out | apply dP | apply dJ | apply dQ | refine jV ?_ (aG.ge HI0.out) | refine jV ?_ GE349.out) | exact HB.out)) : P := h
theorem zb18 {P : Prop} (h : P := by (with_reducible repeat (first | refine qg ?_ _ | refine qh ?_ | refine qi ?_ _)); refine iU (cs := #[.string AA, .string (⟨#[]⟩ : ByteArray)]) ?_ 1 _ rfl; (with_reducible repeat (first | refine qg ?_ _ | refine qh ?_ | refine qi ?_ _)); refine iU (cs := #[.string (⟨#[]⟩ : ByteArray), .string (⟨#[]⟩ : ByteArray)]) ?_ 0 _ rfl; (with_reducible repeat (first | refine qg ?_ _ | refine qh ?_ | refine qi ?_ _)); exact wQ.out) : P := h
theorem oI {P : Prop} (h : P := by first | (go_simp; done) | (go_simp; rfl)) : P := h
theorem dw {P : Prop} (h : P := by kernel_rfl) : P := h
theorem GY {P : Prop} (h : P := by repeat (first | (with_reducible first | exact HK.out | apply aQ.set_ | apply Cm | apply rf | apply JX | refine JY ?_ GW349.out _) | exact HK.out)) : P := h
theorem kJ {P : Prop} (h : P := by first | (with_reducible assumption) | assumption) : P := h
theorem oH {P : Prop} (h : P := by first | rfl | (simp; done) | (simp [*]; done) | (simp; exact IW _)) : P := h
theorem pY {P : Prop} (h : P := by first | rfl | (simp [jv, jw] <;> rfl) | (simp [*, jv, jw] <;> rfl)) : P := h
theorem Bq {P : Prop} (h : P := by repeat (first | (with_reducible first | exact HI0.out | apply aG.alloc | apply aG.drewN | apply aG.drew | apply aG.Fa | apply aG.Fb | refine aG.far ?_ yD.out _) | exact HI0.out)) : P := h
theorem BM {P : Prop} (h : P := by first | exact Kd.Az (Kd.Bl fV.out iW.out (by decide)) | (rw [add_block]; exact Kd.Az (Kd.Bl fV.out iW.out (by decide))) | (show (Addr.add _ _).block ≠ _; rw [add_block]; exact Kd.Az (Kd.Bl fV.out iW.out (by decide))) | (dsimp only; exact Kd.Az (Kd.Bl fV.out iW.out (by decide)))) : P := h
theorem uA {P : Prop} (h : P := by repeat (first | (with_reducible first | exact HB.out | apply dP | apply dJ | apply dQ) | exact HB.out)) : P := h
theorem zF {P : Prop} (h : P := by repeat (first | (with_reducible first | exact HB.out | apply dP | apply dJ | apply dQ | refine jV ?_ ZY.out | refine jV ?_ wR.out) | exact HB.out)) : P := h
theorem zV {P : Prop} (h : P := by repeat (first | (with_reducible first | exact HB.out | apply dP | apply dJ | apply dQ | refine jV ?_ (aG.ge HI0.out) | refine jV ?_ GE349.out | refine jV ?_ GE368.out) | exact HB.out)) : P := h
theorem sS {P : Prop} (h : P := by repeat (first | (with_reducible first | exact HB.out | apply dP | apply dJ | apply dQ | refine jV ?_ ZY.out) | exact HB.out)) : P := h
theorem vG {P : Prop} (h : P := by repeat (first | (with_reducible first | exact HK.out | apply aQ.set_ | apply Cm | apply rf | apply JX | refine JY ?_ GW349.out _ | refine JY ?_ GW368.out _) | exact HK.out)) : P := h
theorem lV {P : Prop} (h : P := by (try simp only [List.map_toArray, List.map_cons, List.map_nil]); first | done | rfl | (simp only [List.length_drop, List.length_take]; rfl)) : P := h
theorem lX {P : Prop} (h : P := by repeat (first | (with_reducible first | exact HK.out | apply aQ.set_ | apply Cm | apply rf | apply JX) | exact HK.out)) : P := h
theorem lY {P : Prop} (h : P := by repeat (first | (with_reducible first | exact HB.out | apply dP | apply dJ | apply dQ | refine jV ?_ (aG.ge HI0.out)) | exact HB.out)) : P := h
theorem lW {P : Prop} (h : P := by repeat (first | (with_reducible first | exact HI0.out | apply aG.alloc | apply aG.drewN | apply aG.drew | apply aG.Fa | apply aG.Fb) | exact HI0.out)) : P := h
theorem oK {P : Prop} (h : P := by repeat (first | (with_reducible first | exact HI0.out | apply aG.alloc | apply aG.drewN | apply aG.drew | apply aG.Fa | apply aG.Fb | refine aG.far ?_ yD.out _ | refine aG.far ?_ uT.out _) | exact HI0.out)) : P := h
end Go.Proofs.YtieohddolkeegaaGreatDoor.G

