/- A part of the proof that the law FnRange answers true at every input that its row speaks of. Conditions: the row's own. -/
import Derived.Test.YtieohddolkeegaaGreatDoorMFnRange9
import Derived.Test.YtieohddolkeegaaGreatDoorKFnRange0
import Derived.Test.YtieohddolkeegaaGreatDoorKFnRange1
import Derived.Test.YtieohddolkeegaaGreatDoorMFnRange8
import Derived.Test.YtieohddolkeegaaGreatDoorMFnRange7
import Derived.Test.YtieohddolkeegaaGreatDoorMFnRange1
import Derived.Test.YtieohddolkeegaaGreatDoorMFnRange2
import Derived.Test.YtieohddolkeegaaGreatDoorRows
import Derived.Test.YtieohddolkeegaaGreatDoorOp
import Derived.Test.YtieohddolkeegaaGreatDoorCards
import Derived.Test.YtieohddolkeegaaGreatDoorTie
import Derived.Test.YtieohddolkeegaaGreatDoorLaid
import Derived.Test.YtieohddolkeegaaGreatDoorFacts
import Derived.WalkKit
import Derived.ProofKit
import Derived.OpenShut
import Derived.ShutString
import Derived.ChangeOld
import Derived.Below
import Derived.SizedLaws
import Derived.Carry
import Derived.Deep.DeepHandedRow
import Derived.Deep.DeepWitnessRowRef
section
namespace Go.Proofs.YtieohddolkeegaaGreatDoor.U
open Go Go.RowKit Go.Proofs.aA.aZ Go.Proofs.YtieohddolkeegaaGreatDoor.G
set_option linter.unusedVariables false
set_option linter.unusedSimpArgs false
theorem UY : jX [] = true := by unfold jX; simp
theorem pq {v : B} (h : dX v = true) : 32 ∉ v := O7 h 32 (by decide) (by decide)
theorem Du {v w : B} (h : 32 ∉ v) : Lib.index (v ++ 32 :: 60 :: w) [32, 60] = (v.length : Int) := by
 refine Lib.index_first (by simp) ?_ fun j hj => ?_
 ·unfold Lib.occAt; simp
 ·unfold Lib.occAt
  rw [List.drop_append_of_le_length (by omega)]
  cases e : v.drop j with
  | nil => have := congrArg List.length e; rw [List.length_drop] at this; simp at this; omega
  | cons a t =>
   have : a ∈ v := List.mem_of_mem_drop (i := j) (by rw [e]; simp)
   have ha : a ≠ 32 := fun z => h (by rw [← z]; exact this)
   simp [List.isPrefixOf, Ne.symm ha]
theorem cut_at (l : B) : (∃ v w, l = v ++ 32 :: 60 :: w ∧ Lib.cut l [32, 60] = (v, w, true)) ∨ ((∀ v w, 32 ∉ v → l ≠ v ++ 32 :: 60 :: w) ∧ Lib.cut l [32, 60] = (l, [], false)) := by
 by_cases h : 0 ≤ Lib.index l [32, 60]
 ·left
  obtain ⟨i, hi⟩ : ∃ i : Nat, Lib.index l [32, 60] = i := ⟨(Lib.index l [32, 60]).toNat, by omega⟩
  have YR : Lib.occAt l [32, 60] i = true := by
   by_cases e : Lib.occAt l [32, 60] i = true
   ·exact e
   ·exfalso
    by_cases hh : ∃ j, j ≤ l.length ∧ Lib.occAt l [32, 60] j = true
    ·have : ∃ j, j ≤ l.length ∧ Lib.occAt l [32, 60] j = true ∧ ∀ k, k < j → Lib.occAt l [32, 60] k = false := by
      obtain ⟨j, hj, ho⟩ := hh
      induction j using Nat.strongRecOn with
      | _ j ih =>
       by_cases hk : ∃ k, k < j ∧ Lib.occAt l [32, 60] k = true
       ·obtain ⟨k, hk, ho2⟩ := hk
        exact ih k hk (by omega) ho2
       ·refine ⟨j, hj, ho, fun k hkj => ?_⟩
        rw [Bool.eq_false_iff]; exact fun z => hk ⟨k, hkj, z⟩
     obtain ⟨j, hj, ho, hno⟩ := this
     have := Lib.index_first hj ho hno
     have : j = i := by omega
     subst this; exact e ho
    ·have := Lib.index_none (s := l) (sub := [32, 60]) fun j hj => by rw [Bool.eq_false_iff]; exact fun z => hh ⟨j, hj, z⟩
     omega
  have hd : ∃ t, l.drop i = 32 :: 60 :: t := by
   unfold Lib.occAt at YR
   rw [List.isPrefixOf_iff_prefix] at YR
   obtain ⟨t, ht⟩ := YR
   exact ⟨t, ht.symm⟩
  obtain ⟨t, ht⟩ := hd
  refine ⟨l.take i, t, by rw [← ht, List.take_append_drop], ?_⟩
  unfold Lib.cut
  rw [if_pos h, hi, Int.toNat_natCast]
  have : l.drop (i + ([32, 60] : B).length) = t := by rw [← List.drop_drop, ht]; rfl
  rw [this]
 ·right
  refine ⟨fun v w hv e => h (by rw [e, Du hv]; omega), ?_⟩
  unfold Lib.cut; rw [if_neg h]
theorem zW (v : B) (h : v.length ≤ 1048576) : Ev (fun k => fF.f k (S v)) (dX v) := by
 have := wO (S v) (by rw [fD]; omega)
 rw [lQ] at this; exact this
theorem take2 {x : B} (h : wB x = true) : x = 62 :: 61 :: x.drop 2 ∧ x.drop 2 ≠ [] := by
 unfold wB at h
 simp only [Bool.and_eq_true, decide_eq_true_eq, beq_iff_eq] at h
 refine ⟨?_, fun e => ?_⟩
 ·have := List.take_append_drop 2 x
  rw [h.2] at this; exact this.symm
 ·have := congrArg List.length e
  rw [List.length_drop] at this; simp at this; omega
theorem take1 {x : B} (h : isLt x = true) : x = 60 :: x.drop 1 ∧ x.drop 1 ≠ [] := by
 unfold isLt at h
 simp only [Bool.and_eq_true, decide_eq_true_eq, beq_iff_eq] at h
 refine ⟨?_, fun e => ?_⟩
 ·have := List.take_append_drop 1 x
  rw [h.2] at this; exact this.symm
 ·have := congrArg List.length e
  rw [List.length_drop] at this; simp at this; omega
theorem ge_of {v : B} (h : v ≠ []) : wB (62 :: 61 :: v) = true := by
 unfold wB
 cases v with
 | nil => exact absurd rfl h
 | cons a v => simp
theorem lt_of {v : B} (h : v ≠ []) : isLt (60 :: v) = true := by
 unfold isLt
 cases v with
 | nil => exact absurd rfl h
 | cons a v => simp
theorem YS {v : B} : ¬ wB (60 :: v) = true := fun h => by have := (take2 h).1; exact absurd (List.cons.inj this).1 (by decide)
theorem oP {l : B} (u v : B) : oQ (gJ 32 [] l) = (u, v, true) ↔ (dX u = true ∧ l = 62 :: 61 :: u ∧ v = []) ∨ (dX v = true ∧ l = 60 :: v ∧ u = []) ∨ (dX u = true ∧ dX v = true ∧ l = 62 :: 61 :: (u ++ 32 :: 60 :: v)) := by
 have hne : ∀ x : B, dX x = true → x ≠ [] := fun x h e => by rw [e, uo] at h; cases h
 constructor
 ·intro h
  cases hw : gJ 32 [] l with
  | nil => rw [hw] at h; simp [oQ] at h
  | cons x q =>
   rw [hw] at h
   cases q with
   | nil =>
    obtain ⟨h1, h2⟩ := vI 32 _ _ _ hw
    rw [List.nil_append] at h1
    rw [I8] at h
    by_cases g : wB x = true
    ·rw [if_pos g] at h
     by_cases e : dX (x.drop 2) = true
     ·rw [if_pos e] at h
      simp only [Prod.mk.injEq, and_true] at h
      obtain ⟨rfl, rfl⟩ := h
      exact .inl ⟨e, by rw [← h1]; exact (take2 g).1, rfl⟩
     ·rw [if_neg e] at h; simp at h
    ·rw [if_neg g] at h
     by_cases t : isLt x = true
     ·rw [if_pos t] at h
      by_cases e : dX (x.drop 1) = true
      ·rw [if_pos e] at h
       simp only [Prod.mk.injEq, and_true] at h
       obtain ⟨rfl, rfl⟩ := h
       exact .inr (.inl ⟨e, by rw [← h1]; exact (take1 t).1, rfl⟩)
      ·rw [if_neg e] at h; simp at h
     ·rw [if_neg t] at h; simp at h
   | cons y q =>
    cases q with
    | nil =>
     rw [MK] at h
     by_cases g : wB x = true ∧ isLt y = true
     ·rw [if_pos g] at h
      by_cases e : dX (x.drop 2) = true ∧ dX (y.drop 1) = true
      ·rw [if_pos e] at h
       simp only [Prod.mk.injEq, and_true] at h
       obtain ⟨rfl, rfl⟩ := h
       obtain ⟨t, h1, h2, h3⟩ := KR 32 l [] x [y] hw (by simp)
       obtain ⟨h4, h5⟩ := vI 32 t [] y h2
       rw [List.nil_append] at h1 h4
       refine .inr (.inr ⟨e.1, e.2, ?_⟩)
       rw [h1, ← h4]
       conv => lhs; rw [(take2 g.1).1, (take1 g.2).1]
       rfl
      ·rw [if_neg e] at h; simp at h
     ·rw [if_neg g] at h; simp at h
    | cons z q => rw [YT] at h; simp at h
 ·rintro (⟨h1, rfl, rfl⟩ | ⟨h1, rfl, rfl⟩ | ⟨h1, h2, rfl⟩)
  ·have hf : 32 ∉ (62 :: 61 :: u : B) := by simp [pq h1]
   rw [pG 32 _ [] hf, List.nil_append, I8, if_pos (ge_of (hne u h1)), if_pos (by exact h1)]; rfl
  ·have hf : 32 ∉ (60 :: v : B) := by simp [pq h1]
   rw [pG 32 _ [] hf, List.nil_append, I8, if_neg YS, if_pos (lt_of (hne v h1)), if_pos (by exact h1)]; rfl
  ·have hf : 32 ∉ (62 :: 61 :: u : B) := by simp [pq h1]
   have hg : 32 ∉ (60 :: v : B) := by simp [pq h2]
   have e : (62 :: 61 :: (u ++ 32 :: 60 :: v) : B) = (62 :: 61 :: u) ++ 32 :: (60 :: v) := rfl
   rw [e, uq 32 _ _ hf, pG 32 _ [] hg, List.nil_append, MK, if_pos ⟨ge_of (hne u h1), lt_of (hne v h2)⟩, if_pos ⟨h1, h2⟩]; rfl
theorem xM (l : B) : (∃ u v, oQ (gJ 32 [] l) = (u, v, true)) ∨ oQ (gJ 32 [] l) = rV := by
 cases hw : gJ 32 [] l with
 | nil => exact .inr rfl
 | cons x q =>
  cases q with
  | nil =>
   rw [I8]
   split
   ·split
    ·exact .inl ⟨_, _, rfl⟩
    ·exact .inr rfl
   ·split
    ·split
     ·exact .inl ⟨_, _, rfl⟩
     ·exact .inr rfl
    ·exact .inr rfl
  | cons y q =>
   cases q with
   | nil =>
    rw [MK]
    split
    ·split
     ·exact .inl ⟨_, _, rfl⟩
     ·exact .inr rfl
    ·exact .inr rfl
   | cons z q => exact .inr rfl
theorem O8 (s : ByteArray) (hs : s.size ≤ 200) {x : UInt8} {r : B} (hl : L s = x :: r) (hx : x = 60 ∨ x = 62) : ∃ a a', Ev (fun k => aJ.f k s) a ∧ Ev (fun k => bV.f k s) a' ∧ Good (L s) a a' := by
 have hsz := fM s
 have hd : yG x = false := by rcases hx with rfl | rfl <;> decide
 have hv : dX (L s) = false := by rw [hl]; exact UZ hd
 have h42 : ¬ L s = [42] := by rw [hl]; intro e; have := (List.cons.inj e).1; rcases hx with rfl | rfl <;> exact absurd this (by decide)
 have Jf : ¬ s.toList = ([42] : List UInt8) := by rw [eY]; exact h42
 have hb : bt s 0 = (x.toNat : Int) := by have := pO s 0; rw [hl] at this; exact this
 have hpos : 1 ≤ s.size := by rw [hsz, hl, List.length_cons]; omega
 have hrl : r.length ≤ 200 := by rw [hl, List.length_cons] at hsz; omega
 have hj1 : Ev (fun k => aJ.j1 k s true) (toS (oQ (gJ 32 [] (L s)))) := Ev.step (fun k => by rw [aJ.j1, if_pos rfl]) (Ev.bind (O9 s (by omega)) (Ev.now _))
 have hj0 : Ev (fun k => aJ.j0 k s false) (toS (oQ (gJ 32 [] (L s)))) := by
  by_cases e : bt s 0 = 62
  ·exact Ev.step (fun k => by rw [aJ.j0, if_neg (by decide), if_pos (by omega), if_pos (by omega), if_pos e]) hj1
  ·have : (bt s 0 == 60) = true := by
    rcases hx with rfl | rfl
    ·rw [hb]; rfl
    ·exact absurd hb e
   exact Ev.step (fun k => by rw [aJ.j0, if_neg (by decide), if_pos (by omega), if_pos (by omega), if_neg e, this]) hj1
 have hspec : Ev (fun k => aJ.f k s) (toS (oQ (gJ 32 [] (L s)))) := by
  unfold aJ.f
  refine aY Jf ?_
  by_cases h1 : (s.size : Int) > 1
  ·have e1 : ¬ bt s 0 = 94 := fun z => by rw [hb] at z; rcases hx with rfl | rfl <;> exact absurd z (by decide)
   have e2 : (bt s 0 == 126) = false := by rw [hb]; rcases hx with rfl | rfl <;> rfl
   refine aK h1 (aK (by omega) (aY e1 ?_))
   rw [e2]; exact hj0
  ·exact aY h1 hj0
 have hall : ∀ y ∈ L s, True := fun _ _ => trivial
 have hno : (x == 94 || x == 126) = false := by rcases hx with rfl | rfl <;> rfl
 have hbad : Ev (fun k => bV.j0 k s (x == 94 || x == 126)) rW := by
  rw [hno]
  have hp := CG s (by omega)
  rw [hl, (Oa hd).2] at hp
  exact Ev.step (fun k => by rw [bV.j0, if_neg (by decide)]) (Ev.bind hp (Ev.now _))
 have hst : ∀ l : B, (⟨(l : List UInt8).toArray⟩ : ByteArray) = S l := fun _ => rfl
 by_cases g : (L s).take 2 = [62, 61]
 ·-- from >= on
  have hopn : opn (L s) = true := by unfold opn; rw [g]; simp
  have hdr : L s = 62 :: 61 :: (L s).drop 2 := by have := List.take_append_drop 2 (L s); rw [g] at this; exact this.symm
  generalize hlow : (L s).drop 2 = low at hdr
  have hlow2 : low.length ≤ 200 := by rw [← hlow, List.length_drop]; omega
  have hcut : strings_Cut.f (S low) (⟨#[32, 60]⟩ : ByteArray) = some (S (Lib.cut low [32, 60]).1, S (Lib.cut low [32, 60]).2.1, (Lib.cut low [32, 60]).2.2) := by
   unfold strings_Cut.f
   rw [if_pos (by rw [fD]; omega)]
   have : (S low).data.toList = low := lQ low
   rw [this]; rfl
  have go : ∀ r' : T3S, Ev (fun k => (fF.f k (S (Lib.cut low [32, 60]).1)).bind fun Xh => (if Xh = true then (if (Lib.cut low [32, 60]).2.2 = true then ((fF.f k (S (Lib.cut low [32, 60]).2.1)).bind fun Xi => (some (S (Lib.cut low [32, 60]).1, S (Lib.cut low [32, 60]).2.1, Xi))) else (some (S (Lib.cut low [32, 60]).1, S (Lib.cut low [32, 60]).2.1, true))) else (some (S (Lib.cut low [32, 60]).1, S (Lib.cut low [32, 60]).2.1, false)))) r' → Ev (fun k => bV.f k s) r' := fun r' h =>
   Dv s hs hl h42 hv (f := fun _ => none) (fun _ => by rw [hlow]; exact bn hcut h) (fun z => absurd g z) (fun z => absurd g z)
  rcases cut_at low with ⟨v, w, h1, h2⟩ | ⟨h1, h2⟩
  ·rw [h2] at go
   have hvl : v.length ≤ 200 ∧ w.length ≤ 200 := by rw [h1, List.length_append, List.length_cons, List.length_cons] at hlow2; omega
   by_cases ev : dX v = true
   ·have himp := go (S v, S w, dX w) (Ev.bind (zW v (by omega)) (aK ev (aK rfl (Ev.bind (zW w (by omega)) (Ev.now _)))))
    by_cases ew : dX w = true
    ·have hq : oQ (gJ 32 [] (L s)) = (v, w, true) := (oP v w).2 (.inr (.inr ⟨ev, ew, by rw [hdr, h1]⟩))
     rw [hq] at hspec
     rw [ew] at himp
     refine ⟨_, _, hspec, himp, .inl ⟨rfl, rfl, .inl hopn, ?_, ?_⟩⟩
     ·show jX (L (S v)) = true; rw [lQ]; exact lu ev
     ·show jX (L (S w)) = true; rw [lQ]; exact lu ew
    ·rw [Bool.not_eq_true] at ew
     rw [ew] at himp
     rcases xM (L s) with ⟨a, b, hq⟩ | hq
     ·exfalso
      rcases (oP a b).1 hq with ⟨c1, c2, _⟩ | ⟨_, c2, _⟩ | ⟨c1, c2, c3⟩
      ·rw [hdr] at c2
       have := (List.cons.inj (List.cons.inj c2).2).2
       exact pq c1 (by rw [← this, h1]; simp)
      ·rw [hdr] at c2; exact absurd (List.cons.inj c2).1 (by decide)
      ·rw [hdr] at c3
       have e := (List.cons.inj (List.cons.inj c3).2).2
       have i1 := Du (w := w) (pq ev)
       have i2 := Du (w := b) (pq c1)
       rw [← h1, e, i2] at i1
       have e2 : v ++ 32 :: 60 :: w = a ++ 32 :: 60 :: b := by rw [← h1, e]
       have e3 := List.append_inj e2 (by omega)
       have : w = b := by have := e3.2; simp at this; exact this
       rw [this, c2] at ew; cases ew
     ·rw [hq] at hspec
      exact ⟨_, _, hspec, himp, mZ⟩
   ·have himp := go (S v, S w, false) (Ev.bind (zW v (by omega)) (aY ev (Ev.now _)))
    rcases xM (L s) with ⟨a, b, hq⟩ | hq
    ·exfalso
     rcases (oP a b).1 hq with ⟨c1, c2, _⟩ | ⟨_, c2, _⟩ | ⟨c1, c2, c3⟩
     ·rw [hdr] at c2
      have := (List.cons.inj (List.cons.inj c2).2).2
      exact pq c1 (by rw [← this, h1]; simp)
     ·rw [hdr] at c2; exact absurd (List.cons.inj c2).1 (by decide)
     ·rw [hdr] at c3
      have e := (List.cons.inj (List.cons.inj c3).2).2
      have hc : Lib.cut low [32, 60] = (a, b, true) := by
       unfold Lib.cut
       rw [e, Du (pq c1), if_pos (by omega), Int.toNat_natCast]
       have : (a ++ 32 :: 60 :: b).drop (a.length + ([32, 60] : B).length) = b := by rw [List.drop_append]; simp
       rw [this]; simp
      rw [h2] at hc
      have : v = a := (Prod.mk.inj hc).1
      rw [this] at ev; exact ev c1
    ·rw [hq] at hspec
     exact ⟨_, _, hspec, himp, mZ⟩
  ·rw [h2] at go
   have himp := go (S low, S [], dX low) (by
    refine Ev.bind (zW low (by omega)) ?_
    by_cases e : dX low = true
    ·rw [e]; exact aK rfl (aY (by simp) (Ev.now _))
    ·exact aY e (eH (Ev.now _) (by rw [Bool.not_eq_true] at e; rw [e])))
   by_cases e : dX low = true
   ·have hq : oQ (gJ 32 [] (L s)) = (low, [], true) := (oP low []).2 (.inl ⟨e, hdr, rfl⟩)
    rw [hq] at hspec
    rw [e] at himp
    refine ⟨_, _, hspec, himp, .inl ⟨rfl, rfl, .inl hopn, ?_, ?_⟩⟩
    ·show jX (L (S low)) = true; rw [lQ]; exact lu e
    ·exact UY
   ·have e' := e
    rw [Bool.not_eq_true] at e'
    rw [e'] at himp
    rcases xM (L s) with ⟨a, b, hq⟩ | hq
    ·exfalso
     rcases (oP a b).1 hq with ⟨c1, c2, _⟩ | ⟨_, c2, _⟩ | ⟨c1, c2, c3⟩
     ·rw [hdr] at c2
      have := (List.cons.inj (List.cons.inj c2).2).2
      rw [this] at e; exact e c1
     ·rw [hdr] at c2; exact absurd (List.cons.inj c2).1 (by decide)
     ·rw [hdr] at c3
      exact h1 a b (pq c1) (List.cons.inj (List.cons.inj c3).2).2
    ·rw [hq] at hspec
     exact ⟨_, _, hspec, himp, mZ⟩
 ·by_cases ex : x = 60
  ·subst ex
   have hopn : opn (L s) = true := by unfold opn; rw [hl]; simp
   have himp : Ev (fun k => bV.f k s) (eS, S r, dX r) := Dv s hs hl h42 hv (f := fun _ => none) (fun z => absurd z g) (fun _ _ => Ev.bind (zW r (by omega)) (Ev.now _)) (fun _ z => absurd rfl z)
   by_cases e : dX r = true
   ·have hq : oQ (gJ 32 [] (L s)) = ([], r, true) := (oP [] r).2 (.inr (.inl ⟨e, hl, rfl⟩))
    rw [hq] at hspec
    rw [e] at himp
    refine ⟨_, _, hspec, himp, .inl ⟨rfl, rfl, .inl hopn, UY, ?_⟩⟩
    show jX (L (S r)) = true; rw [lQ]; exact lu e
   ·have e' := e
    rw [Bool.not_eq_true] at e'
    rw [e'] at himp
    rcases xM (L s) with ⟨a, b, hq⟩ | hq
    ·exfalso
     rcases (oP a b).1 hq with ⟨_, c2, _⟩ | ⟨c1, c2, _⟩ | ⟨_, _, c3⟩
     ·rw [hl] at c2; exact absurd (List.cons.inj c2).1 (by decide)
     ·rw [hl] at c2; rw [(List.cons.inj c2).2] at e; exact e c1
     ·rw [hl] at c3; exact absurd (List.cons.inj c3).1 (by decide)
    ·rw [hq] at hspec
     exact ⟨_, _, hspec, himp, mZ⟩
  ·have himp : Ev (fun k => bV.f k s) rW := Dv s hs hl h42 hv (f := fun _ => none) (fun z => absurd z g) (fun _ z => absurd z ex) (fun _ _ => hbad)
   rcases xM (L s) with ⟨a, b, hq⟩ | hq
   ·exfalso
    rcases (oP a b).1 hq with ⟨_, c2, _⟩ | ⟨_, c2, _⟩ | ⟨_, _, c3⟩
    ·exact g (by rw [c2]; rfl)
    ·rw [hl] at c2; exact ex (List.cons.inj c2).1
    ·exact g (by rw [c3]; rfl)
   ·rw [hq] at hspec
    exact ⟨_, _, hspec, himp, mZ⟩
theorem RI (s : ByteArray) (hs : s.size ≤ 200) : ∃ a a', Ev (fun k => aJ.f k s) a ∧ Ev (fun k => bV.f k s) a' ∧ Good (L s) a a' := by
 have hsz := fM s
 by_cases h42 : L s = [42]
 ·have ht : s.toList = ([42] : List UInt8) := by rw [eY]; exact h42
  refine ⟨(eS, eS, true), (eS, eS, true), by unfold aJ.f; exact aK ht (Ev.now _), by unfold bV.f; exact aK ht (Ev.now _), .inl ⟨rfl, rfl, .inl ?_, UY, UY⟩⟩
  unfold opn; rw [h42]; rfl
 have Jf : ¬ s.toList = ([42] : List UInt8) := by rw [eY]; exact h42
 cases hl : L s with
 | nil =>
  have hv : dX (L s) = false := by rw [hl]; exact uo
  have ho : opn (L s) = false := by rw [hl]; rfl
  obtain ⟨t, et, _, ht⟩ := CJ s hs ho
  have ht := ht hv
  have h0 : s.size = 0 := by rw [hsz, hl]; rfl
  have hsh : vJ (L s) = rW ∧ Ff (L s) = rW := by rw [hl]; exact ⟨by decide +kernel, by decide +kernel⟩
  rw [hsh.1] at ht
  subst ht
  have hn : ¬ (aI (L s)).2.2.2.2 = true := by intro e; have : dX (L s) = true := e; rw [hv] at this; cases this
  have hp := CG s (by omega)
  rw [hsh.2] at hp
  have hp2 := ML s [62, 61] (by omega)
  have hp1 := ML s [60] (by omega)
  rw [if_neg (fun z => by have := z.1; rw [hl] at this; simp at this)] at hp2 hp1
  refine ⟨rW, rW, ?_, ?_, mZ⟩
  ·unfold aJ.f
   exact aY Jf (aY (by omega) (Ev.step (fun k => by rw [aJ.j0, if_neg (by decide), if_neg (by omega)]) et))
  ·unfold bV.f
   exact aY Jf (Ev.bind (iD s (by omega)) (aY hn (bn hp2 (aY (by simp) (bn hp1 (aY (by simp) (aK (by rw [eY]; exact hl) (Ev.step (fun k => by rw [bV.j0, if_neg (by decide)]) (Ev.bind hp (Ev.now _))))))))))
 | cons x r =>
  rw [← hl]
  by_cases hx1 : x = 94 ∨ x = 126
  ·exact Ob s hs hl hx1
  by_cases hx2 : x = 60 ∨ x = 62
  ·exact O8 s hs hl hx2
  have n1 : x ≠ 94 := fun e => hx1 (.inl e)
  have n2 : x ≠ 126 := fun e => hx1 (.inr e)
  have n3 : x ≠ 60 := fun e => hx2 (.inl e)
  have n4 : x ≠ 62 := fun e => hx2 (.inr e)
  have hb : bt s 0 = (x.toNat : Int) := by have := pO s 0; rw [hl] at this; exact this
  have hpos : 1 ≤ s.size := by rw [hsz, hl, List.length_cons]; omega
  have nb : ∀ c : UInt8, x ≠ c → ¬ bt s 0 = (c.toNat : Int) := fun c hc e => hc (vK (by rw [← hb, e]))
  have ho : opn (L s) = false := by
   unfold opn
   rw [hl]
   have h1 : (x :: r == ([42] : B)) = false := by rw [Bool.eq_false_iff]; intro e; exact h42 (by rw [hl]; exact beq_iff_eq.1 e)
   rw [h1]
   simp [n3, n4]
  obtain ⟨t, et, hyes, hno⟩ := CJ s hs ho
  have hspec : Ev (fun k => aJ.f k s) t := by
   have hj0 : Ev (fun k => aJ.j0 k s false) t := Ev.step (fun k => by
    rw [aJ.j0, if_neg (by decide), if_pos (by omega), if_pos (by omega), if_neg (show ¬ bt s 0 = 62 from nb 62 n4), show (bt s 0 == 60) = false from by simpa using nb 60 n3]) et
   unfold aJ.f
   refine aY Jf ?_
   by_cases h1 : (s.size : Int) > 1
   ·refine aK h1 (aK (by omega) (aY (show ¬ bt s 0 = 94 from nb 94 n1) ?_))
    rw [show (bt s 0 == 126) = false from by simpa using nb 126 n2]; exact hj0
   ·exact aY h1 hj0
  by_cases hv : dX (L s) = true
  ·obtain ⟨r', h1, h2⟩ := hyes hv
   exact ⟨t, r', hspec, h1, h2⟩
  ·rw [Bool.not_eq_true] at hv
   have ht := hno hv
   have hp := CG s (by omega)
   refine ⟨t, Ff (L s), hspec, Dv s hs hl h42 hv (f := fun _ => none) (fun z => by rw [hl] at z; exact absurd (List.cons.inj z).1 n4) (fun _ z => absurd z n3) (fun _ _ => ?_), by rw [ht]; exact RJ _ ho⟩
   rw [show (x == 94 || x == 126) = false from by simp [n1, n2]]
   exact Ev.step (fun k => by rw [bV.j0, if_neg (by decide)]) (Ev.bind hp (Ev.now _))
theorem Vo : ∀ (n : Nat) (l : B), l.length ≤ n → (∀ x ∈ Lib.split l iG, x.length ≤ l.length) ∧ 1 ≤ (Lib.split l iG).length ∧ (Lib.split l iG).length ≤ l.length + 1 := by
 intro n
 induction n with
 | zero =>
  intro l hl
  have : l = [] := List.eq_nil_of_length_eq_zero (by omega)
  subst this
  rw [yH rfl]; simp
 | succ n ih =>
  intro l hl
  by_cases h : Lib.index l iG = -1
  ·rw [yH h]; simp
  ·obtain ⟨i, hi⟩ : ∃ i : Nat, Lib.index l iG = i := ⟨(Lib.index l iG).toNat, by have := Lib.index_ge l iG; omega⟩
   have hne : l ≠ [] := fun e => by rw [e] at h; exact h rfl
   have hp : 1 ≤ l.length := by cases l with
    | nil => exact absurd rfl hne
    | cons _ _ => simp
   have hd : (l.drop (i + 4)).length ≤ n ∧ (l.drop (i + 4)).length + 1 ≤ l.length := by rw [List.length_drop]; omega
   obtain ⟨h1, h2, h3⟩ := ih _ hd.1
   rw [Em hi]
   refine ⟨fun x hx => ?_, by simp, by rw [List.length_cons]; omega⟩
   rcases List.mem_cons.1 hx with rfl | hx
   ·rw [List.length_take]; omega
   ·have := h1 x hx; omega
theorem Fg (l p : B) : strings_HasPrefix.f (S l) (S p) = some (l.take p.length == p) := by
 unfold strings_HasPrefix.f Lib.hasPrefix
 have h1 : (S l).data.toList = l := lQ l
 have h2 : (S p).data.toList = p := lQ p
 rw [h1, h2]
 congr 1
 rw [Bool.eq_iff_iff, List.isPrefixOf_iff_prefix, List.prefix_iff_eq_take, beq_iff_eq]
 exact eq_comm
abbrev BD := iR
theorem MM (q : List B) (hq : ∀ x ∈ q, x.length ≤ 200) (hql : q.length ≤ 1001) : ∀ (d i : Nat) (acc : List BD), i + d = q.length → acc.length = i → acc.all Jg = true → (∀ b ∈ acc, b.f0.size ≤ 1048576 ∧ b.f1.size ≤ 1048576) →
  (∃ r : List BD, r.length = q.length ∧ r.all Jg = true ∧ (∀ b ∈ r, b.f0.size ≤ 1048576 ∧ b.f1.size ≤ 1048576) ∧ Ev (fun k => aH.l0 k acc (q.map S) (i : Int)) (r, true) ∧ Ev (fun k => dO.l0 k acc (q.map S) (q.length : Int) (i : Int)) (if jA r = true then (r, true) else ([], false))) ∨
  (Ev (fun k => aH.l0 k acc (q.map S) (i : Int)) ([], false) ∧ Ev (fun k => dO.l0 k acc (q.map S) (q.length : Int) (i : Int)) ([], false)) := by
 have hlen : (q.map S).length = q.length := List.length_map ..
 intro d
 induction d with
 | zero =>
  intro i acc hi ha hb hm
  refine .inl ⟨acc, by omega, hb, hm, Ev.step (f := fun _ => some (acc, true)) (fun k => by rw [aH.l0, if_neg (by omega)]) (Ev.now _), ?_⟩
  refine Ev.step (fun k => by rw [dO.l0, if_neg (by omega)]) (Ev.bind (nX acc (by omega) hm) ?_)
  by_cases e : jA acc = true
  ·exact eH (aK e (Ev.now _)) (if_pos e).symm
  ·exact eH (aY e (Ev.now _)) (if_neg e).symm
 | succ d ih =>
  intro i acc hi ha hb hm
  have hp : (q.getD i []).length ≤ 200 := I9 q i 200 hq
  have hrd : iE ByteArray.empty (q.map S) (i : Int) = S (q.getD i []) := yI q i
  obtain ⟨a, a', e1, e2, hg⟩ := RI (S (q.getD i [])) (by rw [fD]; omega)
  rw [lQ] at hg
  generalize q.getD i [] = p at hp hrd e1 e2 hg
  have hp60 := Fg p [60]
  have hp62 := Fg p [62, 61]
  have htl : (S p).toList = p := by rw [eY, lQ]
  obtain ⟨lo, hi', ok⟩ := a
  obtain ⟨lo', hi'', ok'⟩ := a'
  have fail : (ok' = false ∨ (opn p = false ∧ (lo' = eS ∨ hi'' = eS))) → Ev (fun k => dO.l0 k acc (q.map S) (q.length : Int) (i : Int)) ([], false) := by
   intro h
   refine Ev.step (fun k => by rw [dO.l0, if_pos (by omega), if_pos (by omega), if_pos (by omega), hrd]) (Ev.bind e2 ?_)
   by_cases c1 : p = [42]
   ·have hk : ok' = false := h.resolve_right fun z => by rw [c1] at z; exact absurd z.1 (by decide)
    exact aK (by rw [htl]; exact c1) (aY (by simp [hk]) (Ev.now _))
   ·refine aY (by rw [htl]; exact c1) (bn hp60 ?_)
    by_cases c2 : (p.take ([60] : B).length == ([60] : B)) = true
    ·have hk : ok' = false := h.resolve_right fun z => by
      have := z.1
      unfold opn at this
      rw [show (p.take 1 == ([60] : B)) = true from c2] at this; simp at this
     exact aK c2 (aY (by simp [hk]) (Ev.now _))
    ·refine aY c2 (bn hp62 ?_)
     by_cases hk : ok' = true
     ·refine aK hk ?_
      have h := h.resolve_left (fun z => by rw [z] at hk; cases hk)
      have c3 : ¬ (p.take ([62, 61] : B).length == ([62, 61] : B)) = true := fun z => by
       have := h.1
       unfold opn at this
       rw [show (p.take 2 == ([62, 61] : B)) = true from z] at this; simp at this
      refine aY c3 ?_
      rcases h.2 with h | h
      ·exact aK (by show lo'.toList = []; rw [h, eY]; rfl) (Ev.now _)
      ·by_cases c4 : lo'.toList = ([] : List UInt8)
       ·exact aK c4 (Ev.now _)
       ·exact aY c4 (aK (by show hi''.toList = []; rw [h, eY]; rfl) (Ev.now _))
     ·exact aY hk (Ev.now _)
  rcases hg with ⟨g1, g2, g3, g4, g5⟩ | ⟨g1, g2⟩
  ·have g1' : ok = true := g1
   subst g1'
   cases g2
   have hb2 : (acc ++ [(⟨lo, hi'⟩ : BD)]).all Jg = true := by
    rw [List.all_append, hb, Bool.true_and]
    show (Jg ⟨lo, hi'⟩ && true) = true
    unfold Jg
    rw [g4, g5]; rfl
   have hz : lo.size ≤ 1048576 ∧ hi'.size ≤ 1048576 := by
    have h1 := Af g4
    have h2 := Af g5
    have h3 := fM lo
    have h4 := fM hi'
    exact ⟨by show lo.size ≤ _; have : (L lo).length ≤ 135 := h1; omega, by have : (L hi').length ≤ 135 := h2; omega⟩
   have hm2 : ∀ b ∈ acc ++ [(⟨lo, hi'⟩ : BD)], b.f0.size ≤ 1048576 ∧ b.f1.size ≤ 1048576 := fun b hb => by
    rcases List.mem_append.1 hb with hb | hb
    ·exact hm b hb
    ·rw [List.mem_singleton.1 hb]; exact hz
   have goS : ∀ t : List BD × Bool, Ev (fun k => aH.l0 k (acc ++ [(⟨lo, hi'⟩ : BD)]) (q.map S) ((i + 1 : Nat) : Int)) t → Ev (fun k => aH.l0 k acc (q.map S) (i : Int)) t := fun t h =>
    Ev.step (fun k => by rw [aH.l0, if_pos (by omega), if_pos (by omega), hrd, wC i (by omega)]) (Ev.bind e1 (aK rfl (aK (show acc.length < 4398046511104 by omega) h)))
   have goI : ∀ t : List BD × Bool, Ev (fun k => dO.l0 k (acc ++ [(⟨lo, hi'⟩ : BD)]) (q.map S) (q.length : Int) ((i + 1 : Nat) : Int)) t → Ev (fun k => dO.l0 k acc (q.map S) (q.length : Int) (i : Int)) t := fun t h => by
    refine Ev.step (fun k => by rw [dO.l0, if_pos (by omega), if_pos (by omega), if_pos (by omega), hrd, wC i (by omega)]) (Ev.bind e2 ?_)
    have fin := aK (f := fun _ => (none : Option (List BD × Bool))) (show acc.length < 4398046511104 by omega) h
    by_cases c1 : p = [42]
    ·exact aK (by rw [htl]; exact c1) (aK rfl fin)
    ·refine aY (by rw [htl]; exact c1) (bn hp60 ?_)
     by_cases c2 : (p.take ([60] : B).length == ([60] : B)) = true
     ·exact aK c2 (aK rfl fin)
     ·refine aY c2 (bn hp62 (aK rfl ?_))
      by_cases c3 : (p.take ([62, 61] : B).length == ([62, 61] : B)) = true
      ·exact aK c3 fin
      ·have ho : opn p = false := by
        unfold opn
        rw [Bool.not_eq_true] at c2 c3
        rw [show (p.take 1 == ([60] : B)) = false from c2, show (p.take 2 == ([62, 61] : B)) = false from c3]
        have : (p == ([42] : B)) = false := by rw [Bool.eq_false_iff]; exact fun z => c1 (beq_iff_eq.1 z)
        rw [this]; rfl
       have hne := g3.resolve_left (fun z => by rw [ho] at z; cases z)
       have nt : ∀ y : ByteArray, y ≠ eS → ¬ y.toList = ([] : List UInt8) := fun y hy e => hy (mD (by rw [← eY, e]; rfl))
       exact aY c3 (aY (nt lo hne.1) (aY (nt hi' hne.2) fin))
   rcases ih (i + 1) (acc ++ [(⟨lo, hi'⟩ : BD)]) (by omega) (by rw [List.length_append, List.length_singleton]; omega) hb2 hm2 with ⟨r, r1, r2, r3, r4, r5⟩ | ⟨r4, r5⟩
   ·exact .inl ⟨r, r1, r2, r3, goS _ r4, goI _ r5⟩
   ·exact .inr ⟨goS _ r4, goI _ r5⟩
  ·have g1' : ok = false := g1
   subst g1'
   exact .inr ⟨Ev.step (fun k => by rw [aH.l0, if_pos (by omega), if_pos (by omega), hrd]) (Ev.bind e1 (aY (show ¬ (lo, hi', false).2.2 = true by simp) (Ev.now _))), fail g2⟩
theorem yw (s : ByteArray) (hs : s.size ≤ 1048576) : ∃ (r : List BD) (ok : Bool), Ev (fun k => aH.f k s) (r, ok) ∧ Ev (fun k => dO.f k s) (r, ok) ∧ (ok = true → jA r = true) ∧ r.length ≤ 8 ∧ ∀ b ∈ r, b.f0.size ≤ 1048576 ∧ b.f1.size ≤ 1048576 := by
 have hsz := fM s
 have ew := xN s hs
 unfold aH.f dO.f
 by_cases h : (s.size : Int) > 200
 ·exact ⟨[], false, kH (Ev.bind ew (aK h (Ev.step (f := fun _ => some ([], false)) (fun k => by rw [aH.j0, if_pos rfl]) (Ev.now _)))), aK h (Ev.now _), by simp, by simp, by simp⟩
 ·have ei := RN s hs
  obtain ⟨h1, h2, h3⟩ := Vo (L s).length (L s) (Nat.le_refl _)
  have hq : ∀ x ∈ Lib.split (L s) iG, x.length ≤ 200 := fun x hx => by have := h1 x hx; omega
  have hr := MM (Lib.split (L s) iG) hq (by omega) (Lib.split (L s) iG).length 0 [] (by omega) rfl rfl (by simp)
  generalize Lib.split (L s) iG = q at ew ei h2 h3 hr
  have hlen : (q.map S).length = q.length := List.length_map ..
  have goI : ∀ t : List BD × Bool, Ev (fun k => dO.l0 k [] (q.map S) (q.length : Int) ((0 : Nat) : Int)) t → Ev (fun k => if (s.size : Int) > 200 then some (([] : List BD), false) else (strings_Split.f s (⟨#[32, 124, 124, 32]⟩ : ByteArray)).bind fun Xk => dO.l0 k [] Xk (Xk.length : Int) 0) t := fun t ht =>
   aY h (bn ei (by rw [hlen]; exact ht))
  by_cases h8 : ((q.map S).length : Int) > 8
  ·have hsp : Ev (fun k => aH.j0 k [] (q.map S) (decide (((q.map S).length : Int) > 8))) ([], false) := Ev.step (f := fun _ => some ([], false)) (fun k => by rw [aH.j0, if_pos (decide_eq_true h8)]) (Ev.now _)
   refine ⟨[], false, kH (Ev.bind ew (aY h hsp)), goI _ ?_, by simp, by simp, by simp⟩
   rcases hr with ⟨r, r1, r2, r3, r4, r5⟩ | ⟨r4, r5⟩
   ·have : ¬ jA r = true := fun z => by have := (vM z).2.2; omega
    rw [if_neg this] at r5; exact r5
   ·exact r5
  ·have hsp : ∀ t : List BD × Bool, Ev (fun k => aH.l0 k [] (q.map S) ((0 : Nat) : Int)) t → Ev (fun k => aH.j0 k [] (q.map S) (decide (((q.map S).length : Int) > 8))) t := fun t ht =>
    Ev.step (fun k => by rw [aH.j0, if_neg (by rw [decide_eq_true_eq]; exact h8)]; rfl) ht
   rcases hr with ⟨r, r1, r2, r3, r4, r5⟩ | ⟨r4, r5⟩
   ·have hok : jA r = true := by
     unfold jA
     rw [r2, Bool.true_and]; exact decide_eq_true (by omega)
    rw [if_pos hok] at r5
    exact ⟨r, true, kH (Ev.bind ew (aY h (hsp _ r4))), goI _ r5, fun _ => hok, by omega, r3⟩
   ·exact ⟨[], false, kH (Ev.bind ew (aY h (hsp _ r4))), goI _ r5, by simp, by simp, by simp⟩
theorem ev_det {α : Type} {g : Nat → Option α} {a b : α} (h : Ev g a) (k : Ev g b) : a = b := by
 obtain ⟨n, h⟩ := h
 obtain ⟨m, k⟩ := k
 have h := h (n + m) (by omega)
 have k := k (n + m) (by omega)
 rw [h] at k; exact Option.some.inj k
theorem CO (s : ByteArray) (hs : s.size ≤ 1000) {x : UInt8} {r : B} (hl : L s = x :: r) (hx : x = 60 ∨ x = 62) : Ev (fun k => aJ.f k s) (toS (oQ (gJ 32 [] (L s)))) := by
 have hsz := fM s
 have h42 : ¬ L s = [42] := by rw [hl]; intro e; have := (List.cons.inj e).1; rcases hx with rfl | rfl <;> exact absurd this (by decide)
 have Jf : ¬ s.toList = ([42] : List UInt8) := by rw [eY]; exact h42
 have hb : bt s 0 = (x.toNat : Int) := by have := pO s 0; rw [hl] at this; exact this
 have hpos : 1 ≤ s.size := by rw [hsz, hl, List.length_cons]; omega
 have hj1 : Ev (fun k => aJ.j1 k s true) (toS (oQ (gJ 32 [] (L s)))) := Ev.step (fun k => by rw [aJ.j1, if_pos rfl]) (Ev.bind (O9 s hs) (Ev.now _))
 have hj0 : Ev (fun k => aJ.j0 k s false) (toS (oQ (gJ 32 [] (L s)))) := by
  by_cases e : bt s 0 = 62
  ·exact Ev.step (fun k => by rw [aJ.j0, if_neg (by decide), if_pos (by omega), if_pos (by omega), if_pos e]) hj1
  ·have : (bt s 0 == 60) = true := by
    rcases hx with rfl | rfl
    ·rw [hb]; rfl
    ·exact absurd hb e
   exact Ev.step (fun k => by rw [aJ.j0, if_neg (by decide), if_pos (by omega), if_pos (by omega), if_neg e, this]) hj1
 unfold aJ.f
 refine aY Jf ?_
 by_cases h1 : (s.size : Int) > 1
 ·have e1 : ¬ bt s 0 = 94 := fun z => by rw [hb] at z; rcases hx with rfl | rfl <;> exact absurd z (by decide)
  have e2 : (bt s 0 == 126) = false := by rw [hb]; rcases hx with rfl | rfl <;> rfl
  refine aK h1 (aK (by omega) (aY e1 ?_))
  rw [e2]; exact hj0
 ·exact aY h1 hj0
theorem zX {l : B} (h : jX l = true) (hn : l ≠ []) : dX l = true := by
 unfold jX at h
 cases l with
 | nil => exact absurd rfl hn
 | cons a l => simpa using h
theorem Vp (b : BD) (hb : Jg b = true) (hl : (jD b).length ≤ 1000) : Ev (fun k => aJ.f k (S (jD b))) (b.f0, b.f1, true) := by
 unfold Jg at hb
 rw [Bool.and_eq_true] at hb
 obtain ⟨h0, h1⟩ := hb
 have hs : (S (jD b)).size ≤ 1000 := by rw [fD]; omega
 have e0 : S (L b.f0) = b.f0 := S_L _
 have e1 : S (L b.f1) = b.f1 := S_L _
 by_cases c1 : L b.f1 = []
 ·by_cases c0 : L b.f0 = []
  ·have hbt : jD b = [42] := by unfold jD; rw [if_pos c1, if_pos c0]
   rw [hbt]
   unfold aJ.f
   refine eH (aK (by rw [eY, lQ]) (Ev.now _)) ?_
   rw [← e0, ← e1, c0, c1]; rfl
  ·have hbt : jD b = 62 :: 61 :: L b.f0 := by unfold jD; rw [if_pos c1, if_neg c0]
   have := CO (S (jD b)) hs (x := 62) (r := 61 :: L b.f0) (by rw [lQ, hbt]) (.inr rfl)
   rw [lQ, (oP (L b.f0) []).2 (.inl ⟨zX h0 c0, hbt, rfl⟩)] at this
   refine eH this ?_
   show (S (L b.f0), S [], true) = _
   rw [e0, ← e1, c1]
 ·by_cases c0 : L b.f0 = []
  ·have hbt : jD b = 60 :: L b.f1 := by unfold jD; rw [if_neg c1, if_pos c0]
   have := CO (S (jD b)) hs (x := 60) (r := L b.f1) (by rw [lQ, hbt]) (.inl rfl)
   rw [lQ, (oP [] (L b.f1)).2 (.inr (.inl ⟨zX h1 c1, hbt, rfl⟩))] at this
   refine eH this ?_
   show (S [], S (L b.f1), true) = _
   rw [e1, ← e0, c0]
  ·have hbt : jD b = 62 :: 61 :: (L b.f0 ++ 32 :: 60 :: L b.f1) := by unfold jD; rw [if_neg c1, if_neg c0]
   have := CO (S (jD b)) hs (x := 62) (r := 61 :: (L b.f0 ++ 32 :: 60 :: L b.f1)) (by rw [lQ, hbt]) (.inr rfl)
   rw [lQ, (oP (L b.f0) (L b.f1)).2 (.inr (.inr ⟨zX h0 c0, zX h1 c1, hbt⟩))] at this
   refine eH this ?_
   show (S (L b.f0), S (L b.f1), true) = _
   rw [e0, e1]
theorem U0 {l : B} {i : Nat} (h : Lib.occAt l iG i = true) : (l.drop i)[1]? = some 124 := by
 have := (zY l i).1 h
 have h2 : ((l.drop i).take 4)[1]? = some 124 := by rw [this]; rfl
 rw [List.getElem?_take] at h2
 simpa using h2
theorem RP {x r : B} (h : 124 ∉ x) : Lib.index (x ++ iG ++ r) iG = (x.length : Int) := by
 refine Lib.index_first (by simp) ((zY _ _).2 (by rw [List.append_assoc, List.drop_left]; rfl)) fun j hj => ?_
 rw [Bool.eq_false_iff]
 intro ho
 have h1 := U0 ho
 rw [List.getElem?_drop, List.append_assoc] at h1
 by_cases hj2 : j + 1 < x.length
 ·rw [List.getElem?_append_left hj2] at h1
  exact h (List.mem_of_getElem? h1)
 ·have : j + 1 = x.length := by omega
  rw [this, List.getElem?_append_right (Nat.le_refl _)] at h1
  simp at h1
theorem Oc {x : B} (h : 124 ∉ x) : Lib.index x iG = -1 := Lib.index_none fun j hj => by
 rw [Bool.eq_false_iff]
 intro ho
 have h1 := U0 ho
 exact h (List.mem_of_mem_drop (List.mem_of_getElem? h1))
theorem Ia : ∀ (r : List B) (x : B), (∀ y ∈ x :: r, 124 ∉ y) → Lib.split (Lib.join (x :: r) iG) iG = x :: r
 | [], x, h => by rw [Lib.join_one, yH (Oc (h x (by simp)))]
 | y :: r, x, h => by
  have e : Lib.join (x :: y :: r) iG = x ++ iG ++ Lib.join (y :: r) iG := by
   rw [Lib.join_cons, Lib.join_cons]
   show x ++ Lib.joinTail iG (y :: r) = _
   unfold Lib.joinTail
   simp
  rw [e, Em (RP (h x (by simp)))]
  have h1 : (x ++ iG ++ Lib.join (y :: r) iG).take x.length = x := by rw [List.append_assoc, List.take_left]
  have h2 : (x ++ iG ++ Lib.join (y :: r) iG).drop (x.length + 4) = Lib.join (y :: r) iG := by
   rw [List.drop_left' (by rw [List.length_append]; rfl)]
  rw [h1, h2, Ia r y (fun z hz => h z (by simp [hz]))]
theorem Oe {b : BD} (hb : Jg b = true) : 124 ∉ jD b := by
 unfold Jg at hb
 rw [Bool.and_eq_true] at hb
 have hn : ∀ l : B, jX l = true → 124 ∉ l := fun l hl => by
  by_cases e : l = []
  ·subst e; simp
  ·exact O7 (zX hl e) 124 (by decide) (by decide)
 have h0 := hn _ hb.1
 have h1 := hn _ hb.2
 unfold jD
 split <;> split <;> simp [h0, h1]
theorem Og (t : List BD) (ht : t.all Jg = true) (hl : ∀ b ∈ t, (jD b).length ≤ 1000) (h8 : t.length ≤ 8) : ∀ (d i : Nat), i + d = t.length → Ev (fun k => aH.l0 k (t.take i) ((t.map jD).map S) (i : Int)) (t, true) := by
 have hlen : ((t.map jD).map S).length = t.length := by rw [List.length_map, List.length_map]
 intro d
 induction d with
 | zero =>
  intro i hi
  have : i = t.length := by omega
  subst this
  rw [List.take_length]
  exact Ev.step (f := fun _ => some (t, true)) (fun k => by rw [aH.l0, if_neg (by omega)]) (Ev.now _)
 | succ d ih =>
  intro i hi
  have hlt : i < t.length := by omega
  have hm := List.getElem_mem hlt
  have hrd : iE ByteArray.empty ((t.map jD).map S) (i : Int) = S (jD t[i]) := by
   rw [yI, List.getD_eq_getElem?_getD, List.getElem?_map, List.getElem?_eq_getElem hlt]; rfl
  have hp := Vp t[i] (List.all_eq_true.1 ht _ hm) (hl _ hm)
  have hnext := ih (i + 1) (by omega)
  have htk : t.take (i + 1) = t.take i ++ [(⟨t[i].f0, t[i].f1⟩ : BD)] := by rw [List.take_succ_eq_append_getElem hlt]
  rw [htk] at hnext
  exact Ev.step (fun k => by rw [aH.l0, if_pos (by omega), if_pos (by omega), hrd, wC i (by omega)]) (Ev.bind hp (aK rfl (aK (show (t.take i).length < 4398046511104 by rw [List.length_take]; omega) hnext)))
theorem RQ (t : List BD) (h : oU t ≠ []) (h2 : (oU t).length ≤ 200) : Ev (fun k => dO.f k (S (oU t))) (t, true) := by
 have hok : jA t = true := by
  by_cases e : jA t = true
  ·exact e
  ·exfalso; apply h; unfold oU; rw [if_neg e]
 obtain ⟨q1, q2, q3⟩ := vM hok
 have hall : t.all Jg = true := by unfold jA at hok; rw [Bool.and_eq_true] at hok; exact hok.1
 have hbl : ∀ b ∈ t, (jD b).length ≤ 1000 := fun b hb => by have := Ag (q1 b hb); omega
 have hsplit : Lib.split (oU t) iG = t.map jD := by
  unfold oU
  rw [if_pos hok]
  cases t with
  | nil => simp at q2
  | cons b t =>
   exact Ia (t.map jD) (jD b) (fun y hy => by
    obtain ⟨z, hz, rfl⟩ := List.mem_map.1 (show y ∈ (b :: t).map jD from hy)
    exact Oe (List.all_eq_true.1 hall z hz))
 have hsz : (S (oU t)).size ≤ 200 := by rw [fD]; omega
 obtain ⟨r, ok, e1, e2, _⟩ := yw (S (oU t)) (by omega)
 have es : Ev (fun k => aH.f k (S (oU t))) (t, true) := by
  have ew := xN (S (oU t)) (by omega)
  rw [lQ, hsplit] at ew
  have hlen : ((t.map jD).map S).length = t.length := by rw [List.length_map, List.length_map]
  unfold aH.f
  refine kH (Ev.bind ew (aY (by omega) (Ev.step (fun k => by rw [aH.j0, if_neg (by rw [decide_eq_true_eq]; omega)]; rfl) (Og t hall hbl q3 t.length 0 (by omega)))))
 have := ev_det e1 es
 rw [this] at e2; exact e2
abbrev es : ByteArray := ⟨#[]⟩
theorem mF : es.size ≤ 1048576 := by decide
theorem Vq (c : UInt8) : ∀ (l p x : B), x ∈ gJ c p l → x.length ≤ p.length + l.length := by
 intro l
 induction l with
 | nil => intro p x hx; simp only [gJ, List.mem_singleton] at hx; subst hx; simp
 | cons y l ih =>
  intro p x hx
  unfold gJ at hx
  by_cases h : y = c
  ·rw [if_pos h] at hx
   rcases List.mem_cons.1 hx with rfl | hx
   ·simp only [List.length_cons]; omega
   ·have := ih [] x hx; simp only [List.length_nil, List.length_cons] at *; omega
  ·rw [if_neg h] at hx
   have := ih _ x hx; simp only [List.length_append, List.length_cons, List.length_nil] at *; omega
theorem vt_len (a b c : Int) (p : List ByteArray) : (S (iZ a b c p)).size ≤ 1048576 := by have := Ah a b c p; rw [fD]; omega
theorem CP (a b c : Int) (p : List ByteArray) (q : Int) : ∃ t ok, Ev (fun k => eu.f k a b c p q) (t, ok) ∧ t.size ≤ 1048576 := by
 have hn := Vr a b c [] q
 have e1 := yJ a b c [] q (by simp) (by simp)
 generalize Fh a b c [] q = v at hn e1
 obtain ⟨x, y, z, m⟩ := v
 have hm : m = [] := List.eq_nil_of_length_eq_zero (Nat.le_zero.1 hn)
 subst hm
 have e2 := lH x y z [] a b c [] (by simp) (by simp) (by simp)
 unfold eu.f
 by_cases h : xO x y z (List.map L []) a b c (List.map L []) = 0
 ·exact ⟨es, false, kH (Ev.bind e1 (Ev.bind e2 (aK h (Ev.now _)))), mF⟩
 ·exact ⟨_, true, kH (Ev.bind e1 (Ev.bind e2 (aY h (Ev.bind (lF x y z [(⟨#[48]⟩ : ByteArray)] (by simp) (fun x hx => by rw [List.mem_singleton] at hx; subst hx; decide)) (Ev.now _))))), vt_len _ _ _ _⟩
theorem KT (s : ByteArray) (a b c : Int) (p : List ByteArray) (q : Int) (hs : s.size ≤ 1048576) : ∃ x y ok, Ev (fun k => iI.f k s a b c p q) (x, y, ok) ∧ x.size ≤ 1048576 ∧ y.size ≤ 1048576 := by
 obtain ⟨t, ok, e, ht⟩ := CP a b c p q
 unfold iI.f
 by_cases h : ok = true
 ·exact ⟨s, t, true, Ev.bind e (aK h (Ev.now _)), hs, ht⟩
 ·exact ⟨es, es, false, Ev.bind e (aY h (Ev.now _)), mF, mF⟩
theorem RS (s : ByteArray) (hs : s.size ≤ 1000) : ∃ x y ok, Ev (fun k => fE.f k s) (x, y, ok) ∧ x.size ≤ 1048576 ∧ y.size ≤ 1048576 := by
 have e1 := eX s (by omega)
 generalize aI (L s) = v at e1
 obtain ⟨a, b, c, p, ok⟩ := v
 unfold fE.f
 by_cases h : ok = true
 ·by_cases h2 : (p.length : Int) > 0
  ·have hz : (s ++ (⟨#[46, 48]⟩ : ByteArray)).size = s.size + 2 := iC _ _
   have e2 := eX (s ++ (⟨#[46, 48]⟩ : ByteArray)) (by omega)
   by_cases h3 : (aI (L (s ++ (⟨#[46, 48]⟩ : ByteArray)))).2.2.2.2 = true
   ·exact ⟨s, s ++ (⟨#[46, 48]⟩ : ByteArray), true, Ev.bind e1 (aK h (aK h2 (aK (by omega) (Ev.bind e2 (aK h3 (Ev.now _)))))), by omega, by omega⟩
   ·exact ⟨es, es, false, Ev.bind e1 (aK h (aK h2 (aK (by omega) (Ev.bind e2 (aY h3 (Ev.now _)))))), mF, mF⟩
  ·obtain ⟨t, ok2, e, ht⟩ := CP a b c p 2
   by_cases h3 : ok2 = true
   ·exact ⟨s, t, true, Ev.bind e1 (aK h (aY h2 (Ev.bind e (aK h3 (Ev.now _))))), by omega, ht⟩
   ·exact ⟨es, es, false, Ev.bind e1 (aK h (aY h2 (Ev.bind e (aY h3 (Ev.now _))))), mF, mF⟩
 ·exact ⟨es, es, false, Ev.bind e1 (aY h (Ev.now _)), mF, mF⟩
theorem RU (s : ByteArray) (hs : s.size ≤ 1000) : ∃ x y ok, Ev (fun k => ak.f k s) (x, y, ok) ∧ x.size ≤ 1048576 ∧ y.size ≤ 1048576 := by
 have ec : Ev (fun k => dF.f k s 46) _ := mf s 46 (by omega)
 generalize (gJ 46 [] (L s)).map S = w at ec
 have key : ∀ u : ByteArray, u.size ≤ 1048576 → ∃ x y ok, Ev (fun k => ak.j0 k w u) (x, y, ok) ∧ x.size ≤ 1048576 ∧ y.size ≤ 1048576 := by
  intro u hu
  have er := eX u hu
  generalize aI (L u) = v at er
  obtain ⟨a, b, c, p, ok⟩ := v
  have fin : ∀ f : Bool, ∃ x y ok, Ev (fun k => ak.j1 k w u f a b c p) (x, y, ok) ∧ x.size ≤ 1048576 ∧ y.size ≤ 1048576 := by
   intro f
   cases f with
   | true => exact ⟨es, es, false, Ev.step (f := fun _ => some (es, es, false)) (fun k => by rw [ak.j1, if_pos rfl]) (Ev.now _), mF, mF⟩
   | false =>
    obtain ⟨t, ok, e, ht⟩ := CP a b c p (wrap64 ((w.length : Int) - 1))
    by_cases h : ok = true
    ·exact ⟨u, t, true, Ev.step (fun k => by rw [ak.j1, if_neg (by decide)]) (Ev.bind e (aK h (Ev.now _))), hu, ht⟩
    ·exact ⟨es, es, false, Ev.step (fun k => by rw [ak.j1, if_neg (by decide)]) (Ev.bind e (aY h (Ev.now _))), mF, mF⟩
  by_cases h : ok = true
  ·by_cases h2 : decide (1 ≤ (w.length : Int) ∧ (w.length : Int) ≤ 2) = true
   ·obtain ⟨x, y, o, e, z⟩ := fin (decide ((p.length : Int) > 0))
    exact ⟨x, y, o, Ev.step (fun k => by rw [ak.j0]) (Ev.bind er (aK h (bn (jJ _ _ _) (aK h2 e)))), z⟩
   ·obtain ⟨x, y, o, e, z⟩ := fin true
    exact ⟨x, y, o, Ev.step (fun k => by rw [ak.j0]) (Ev.bind er (aK h (bn (jJ _ _ _) (aY h2 e)))), z⟩
  ·obtain ⟨x, y, o, e, z⟩ := fin true
   exact ⟨x, y, o, Ev.step (fun k => by rw [ak.j0]) (Ev.bind er (aY h e)), z⟩
 have z4 : (s ++ (⟨#[46, 48, 46, 48]⟩ : ByteArray)).size = s.size + 4 := iC _ _
 have z2 : (s ++ (⟨#[46, 48]⟩ : ByteArray)).size = s.size + 2 := iC _ _
 unfold ak.f
 by_cases h : (w.length : Int) = 1
 ·obtain ⟨x, y, o, e, z⟩ := key _ (show (s ++ (⟨#[46, 48, 46, 48]⟩ : ByteArray)).size ≤ 1048576 by omega)
  exact ⟨x, y, o, Ev.bind ec (aK (by omega) (aK h (aK (by omega) e))), z⟩
 ·obtain ⟨x, y, o, e, z⟩ := key _ (show (s ++ (⟨#[46, 48]⟩ : ByteArray)).size ≤ 1048576 by omega)
  exact ⟨x, y, o, Ev.bind ec (aK (by omega) (aY h e)), z⟩
theorem RV (s : ByteArray) (hs : s.size ≤ 1000) : ∃ x y ok, Ev (fun k => aU.f k s) (x, y, ok) ∧ x.size ≤ 1048576 ∧ y.size ≤ 1048576 := by
 have ew : Ev (fun k => jT.f k s) ((gJ 32 [] (L s)).map S) := by unfold jT.f; exact Ev.bind (mf s 32 (by omega)) (Ev.now _)
 have hw : ∀ x ∈ (gJ 32 [] (L s)).map S, x.size ≤ 1000 := fun x hx => by
  obtain ⟨y, hy, rfl⟩ := List.mem_map.1 hx
  have := Vq 32 _ _ _ hy
  have h2 := fM s
  rw [fD]; simp only [List.length_nil] at this; omega
 have hwl : ((gJ 32 [] (L s)).map S).length ≤ 1001 := by
  have := (vN 32 (L s) []).2
  have h2 := fM s
  rw [List.length_map]; omega
 generalize (gJ 32 [] (L s)).map S = w at ew hw hwl
 have key : ∀ (d i : Nat) (u v : ByteArray), i + d = w.length → u.size ≤ 1048576 → v.size ≤ 1048576 → ∃ x y ok, Ev (fun k => aU.l0 k w (i : Int) u v) (x, y, ok) ∧ x.size ≤ 1048576 ∧ y.size ≤ 1048576 := by
  intro d
  induction d with
  | zero =>
   intro i u v hi hu hv
   by_cases h : (w.length : Int) > 2
   ·exact ⟨es, es, false, Ev.step (f := fun _ => some (es, es, false)) (fun k => by rw [aU.l0, if_neg (by omega), if_pos h]) (Ev.now _), mF, mF⟩
   ·have er := nY [(⟨u, v⟩ : iR)] (by simp) (fun b hb => by rw [List.mem_singleton] at hb; subst hb; exact ⟨hu, hv⟩)
    by_cases h2 : jA [(⟨u, v⟩ : iR)] = true
    ·exact ⟨u, v, true, Ev.step (fun k => by rw [aU.l0, if_neg (by omega), if_neg h]) (Ev.bind er (aK h2 (Ev.now _))), hu, hv⟩
    ·exact ⟨es, es, false, Ev.step (fun k => by rw [aU.l0, if_neg (by omega), if_neg h]) (Ev.bind er (aY h2 (Ev.now _))), mF, mF⟩
  | succ d ih =>
   intro i u v hi hu hv
   have hx : (iE ByteArray.empty w (i : Int)).size ≤ 1000 := hw _ (getD_mem w i ByteArray.empty (by omega))
   have hj : ∀ f : Bool, (f = true → (iE ByteArray.empty w (i : Int)).size ≥ 2) → ∃ x y ok, Ev (fun k => aU.j1 k w (i : Int) f u v) (x, y, ok) ∧ x.size ≤ 1048576 ∧ y.size ≤ 1048576 := by
    intro f hf
    cases f with
    | true =>
     have h2 := hf rfl
     have hz := jy (iE ByteArray.empty w (i : Int)) 2 (iE ByteArray.empty w (i : Int)).size
     obtain ⟨x, y, o, e, z⟩ := ih (i + 1) ((iE ByteArray.empty w (i : Int)).extract 2 (iE ByteArray.empty w (i : Int)).size) v (by omega) (by omega) hv
     exact ⟨x, y, o, Ev.step (fun k => by rw [aU.j1, if_pos rfl, if_pos (by omega), if_pos (by omega), if_pos (by omega), wC i (by omega)]) e, z⟩
    | false =>
     by_cases h : (i : Int) = wrap64 ((w.length : Int) - 1)
     ·by_cases h1 : ((iE ByteArray.empty w (i : Int)).size : Int) > 1
      ·by_cases h3 : bt (iE ByteArray.empty w (i : Int)) 0 = 60
       ·have hz := jy (iE ByteArray.empty w (i : Int)) 1 (iE ByteArray.empty w (i : Int)).size
        obtain ⟨x, y, o, e, z⟩ := ih (i + 1) u ((iE ByteArray.empty w (i : Int)).extract 1 (iE ByteArray.empty w (i : Int)).size) (by omega) hu (by omega)
        exact ⟨x, y, o, Ev.step (fun k => by rw [aU.j1, if_neg (by decide), if_pos h, if_pos (by omega), if_pos (by omega), if_pos h1, if_pos (by omega), if_pos h3, if_pos (by omega), wC i (by omega)]) e, z⟩
       ·exact ⟨es, es, false, Ev.step (f := fun _ => some (es, es, false)) (fun k => by rw [aU.j1, if_neg (by decide), if_pos h, if_pos (by omega), if_pos (by omega), if_pos h1, if_pos (by omega), if_neg h3]) (Ev.now _), mF, mF⟩
      ·exact ⟨es, es, false, Ev.step (f := fun _ => some (es, es, false)) (fun k => by rw [aU.j1, if_neg (by decide), if_pos h, if_pos (by omega), if_pos (by omega), if_neg h1]) (Ev.now _), mF, mF⟩
     ·exact ⟨es, es, false, Ev.step (f := fun _ => some (es, es, false)) (fun k => by rw [aU.j1, if_neg (by decide), if_neg h]) (Ev.now _), mF, mF⟩
   by_cases h0 : (i : Int) = 0
   ·by_cases h1 : ((iE ByteArray.empty w (i : Int)).size : Int) > 2
    ·obtain ⟨x, y, o, e, z⟩ := hj (((iE ByteArray.empty w (i : Int)).extract 0 2).toList == ([62, 61] : List UInt8)) (fun _ => by omega)
     exact ⟨x, y, o, Ev.step (fun k => by rw [aU.l0, if_pos (by omega), if_pos h0, if_pos (by omega), if_pos h1, if_pos (by omega), if_pos (by omega)]) e, z⟩
    ·obtain ⟨x, y, o, e, z⟩ := hj false (by simp)
     exact ⟨x, y, o, Ev.step (fun k => by rw [aU.l0, if_pos (by omega), if_pos h0, if_pos (by omega), if_neg h1]) e, z⟩
   ·obtain ⟨x, y, o, e, z⟩ := hj false (by simp)
    exact ⟨x, y, o, Ev.step (fun k => by rw [aU.l0, if_pos (by omega), if_neg h0]) e, z⟩
 obtain ⟨x, y, o, e, z⟩ := key w.length 0 es es (by omega) mF mF
 unfold aU.f
 exact ⟨x, y, o, Ev.bind ew e, z⟩
theorem Vs (s : ByteArray) (hs : s.size ≤ 1000) : ∃ x y ok, Ev (fun k => aJ.f k s) (x, y, ok) ∧ x.size ≤ 1048576 ∧ y.size ≤ 1048576 := by
 have hj1 : ∀ f : Bool, ∃ x y ok, Ev (fun k => aJ.j1 k s f) (x, y, ok) ∧ x.size ≤ 1048576 ∧ y.size ≤ 1048576 := by
  intro f
  cases f with
  | true =>
   obtain ⟨x, y, o, e, z⟩ := RV s hs
   exact ⟨x, y, o, Ev.step (fun k => by rw [aJ.j1, if_pos rfl]) (Ev.bind e (Ev.now _)), z⟩
  | false =>
   obtain ⟨x, y, o, e, z⟩ := RS s hs
   by_cases h : o = true
   ·exact ⟨x, y, true, Ev.step (fun k => by rw [aJ.j1, if_neg (by decide)]) (Ev.bind e (aK h (Ev.now _))), z⟩
   ·obtain ⟨x2, y2, o2, e2, z2⟩ := RU s hs
    exact ⟨x2, y2, o2, Ev.step (fun k => by rw [aJ.j1, if_neg (by decide)]) (Ev.bind e (aY h (Ev.bind e2 (Ev.now _)))), z2⟩
 have hj0 : ∀ f : Bool, (f = true → s.size > 1) → ∃ x y ok, Ev (fun k => aJ.j0 k s f) (x, y, ok) ∧ x.size ≤ 1048576 ∧ y.size ≤ 1048576 := by
  intro f hf
  cases f with
  | true =>
   have h1 := hf rfl
   have hz := jy s 1 s.size
   have er := eX (s.extract 1 s.size) (by omega)
   generalize aI (L (s.extract 1 s.size)) = v at er
   obtain ⟨a, b, c, p, ok⟩ := v
   by_cases h : ok = true
   ·by_cases h2 : bt s 0 = 126
    ·obtain ⟨x, y, o, e, z⟩ := KT (s.extract 1 s.size) a b c p 1 (by omega)
     exact ⟨x, y, o, Ev.step (fun k => by rw [aJ.j0, if_pos rfl, if_pos (by omega)]) (Ev.bind er (aK h (aK (show 0 < (s.size : Int) by omega) (aK h2 (Ev.bind e (Ev.now _)))))), z⟩
    ·have hcar : ∃ q, jW.f a b c p = some q := by
      unfold jW.f
      by_cases c1 : a > 0
      ·exact ⟨_, by rw [if_pos c1]⟩
      ·by_cases c2 : b > 0
       ·exact ⟨_, by rw [if_neg c1, if_pos c2]⟩
       ·exact ⟨_, by rw [if_neg c1, if_neg c2]⟩
     obtain ⟨q, hq⟩ := hcar
     obtain ⟨x, y, o, e, z⟩ := KT (s.extract 1 s.size) a b c p q (by omega)
     exact ⟨x, y, o, Ev.step (fun k => by rw [aJ.j0, if_pos rfl, if_pos (by omega)]) (Ev.bind er (aK h (aK (show 0 < (s.size : Int) by omega) (aY h2 (bn hq (Ev.bind e (Ev.now _))))))), z⟩
   ·exact ⟨es, es, false, Ev.step (fun k => by rw [aJ.j0, if_pos rfl, if_pos (by omega)]) (Ev.bind er (aY h (Ev.now _))), mF, mF⟩
  | false =>
   by_cases h : (s.size : Int) > 0
   ·by_cases h2 : bt s 0 = 62
    ·obtain ⟨x, y, o, e, z⟩ := hj1 true
     exact ⟨x, y, o, Ev.step (fun k => by rw [aJ.j0, if_neg (by decide), if_pos h, if_pos (by omega), if_pos h2]) e, z⟩
    ·obtain ⟨x, y, o, e, z⟩ := hj1 (bt s 0 == 60)
     exact ⟨x, y, o, Ev.step (fun k => by rw [aJ.j0, if_neg (by decide), if_pos h, if_pos (by omega), if_neg h2]) e, z⟩
   ·obtain ⟨x, y, o, e, z⟩ := hj1 false
    exact ⟨x, y, o, Ev.step (fun k => by rw [aJ.j0, if_neg (by decide), if_neg h]) e, z⟩
 unfold aJ.f
 by_cases h : s.toList = ([42] : List UInt8)
 ·exact ⟨es, es, true, aK h (Ev.now _), mF, mF⟩
 ·by_cases h1 : (s.size : Int) > 1
  ·by_cases h2 : bt s 0 = 94
   ·obtain ⟨x, y, o, e, z⟩ := hj0 true (fun _ => by omega)
    exact ⟨x, y, o, aY h (aK h1 (aK (by omega) (aK h2 e))), z⟩
   ·obtain ⟨x, y, o, e, z⟩ := hj0 (bt s 0 == 126) (fun _ => by omega)
    exact ⟨x, y, o, aY h (aK h1 (aK (by omega) (aY h2 e))), z⟩
  ·obtain ⟨x, y, o, e, z⟩ := hj0 false (by simp)
   exact ⟨x, y, o, aY h (aY h1 e), z⟩
theorem RX (s : ByteArray) (hs : s.size ≤ 1048576) : ∃ w, Ev (fun k => aj.f k s) w ∧ (∀ x ∈ w, x.size ≤ s.size) ∧ w.length ≤ 1048577 := by
 have key : ∀ (d i a : Nat) (acc : List ByteArray), s.size ≤ i + d → i ≤ s.size → a ≤ s.size → acc.length ≤ i → (∀ x ∈ acc, x.size ≤ s.size) →
   ∃ w, Ev (fun k => aj.l0 k s acc (a : Int) (i : Int)) w ∧ (∀ x ∈ w, x.size ≤ s.size) ∧ w.length ≤ 1048577 := by
  intro d
  induction d with
  | zero =>
   intro i a acc hi hi2 ha hc hm
   refine ⟨acc ++ [s.extract ((a : Int)).toNat s.size], Ev.step (f := fun _ => some (acc ++ [s.extract ((a : Int)).toNat s.size])) (fun k => by rw [aj.l0, wa4 i (by omega), if_neg (by omega), if_pos (by omega), if_pos (by omega), if_pos (by omega)]) (Ev.now _), fun x hx => ?_, by rw [List.length_append, List.length_singleton]; omega⟩
   rcases List.mem_append.1 hx with hx | hx
   ·exact hm x hx
   ·rw [List.mem_singleton.1 hx]; exact jy _ _ _
  | succ d ih =>
   intro i a acc hi hi2 ha hc hm
   by_cases h : ((i + 4 : Nat) : Int) ≤ (s.size : Int)
   ·by_cases h1 : (i : Int) ≥ (a : Int)
    ·by_cases h2 : (s.extract ((i : Int)).toNat (((i + 4 : Nat) : Int)).toNat).toList = ([32, 124, 124, 32] : List UInt8)
     ·obtain ⟨w, e, z⟩ := ih (i + 1) (i + 4) (acc ++ [s.extract ((a : Int)).toNat ((i : Int)).toNat]) (by omega) (by omega) (by omega) (by rw [List.length_append, List.length_singleton]; omega) (fun x hx => by
       rcases List.mem_append.1 hx with hx | hx
       ·exact hm x hx
       ·rw [List.mem_singleton.1 hx]; exact jy _ _ _)
      exact ⟨w, Ev.step (fun k => by rw [aj.l0, wa4 i (by omega), if_pos h, if_pos h1, if_pos (by omega), if_pos (by omega), if_pos h2, if_pos (by omega), if_pos (by omega), if_pos (by omega), if_pos (by omega), wC i (by omega)]) e, z⟩
     ·obtain ⟨w, e, z⟩ := ih (i + 1) a acc (by omega) (by omega) ha (by omega) hm
      exact ⟨w, Ev.step (fun k => by rw [aj.l0, wa4 i (by omega), if_pos h, if_pos h1, if_pos (by omega), if_pos (by omega), if_neg h2, wC i (by omega)]) e, z⟩
    ·obtain ⟨w, e, z⟩ := ih (i + 1) a acc (by omega) (by omega) ha (by omega) hm
     exact ⟨w, Ev.step (fun k => by rw [aj.l0, wa4 i (by omega), if_pos h, if_neg h1, wC i (by omega)]) e, z⟩
   ·refine ⟨acc ++ [s.extract ((a : Int)).toNat s.size], Ev.step (f := fun _ => some (acc ++ [s.extract ((a : Int)).toNat s.size])) (fun k => by rw [aj.l0, wa4 i (by omega), if_neg h, if_pos (by omega), if_pos (by omega), if_pos (by omega)]) (Ev.now _), fun x hx => ?_, by rw [List.length_append, List.length_singleton]; omega⟩
    rcases List.mem_append.1 hx with hx | hx
    ·exact hm x hx
    ·rw [List.mem_singleton.1 hx]; exact jy _ _ _
 exact key s.size 0 0 [] (by omega) (by omega) (by omega) (by simp) (fun x hx => by simp at hx)
def zZ (r : List iR) : Prop := r.length ≤ 8 ∧ ∀ b ∈ r, b.f0.size ≤ 1048576 ∧ b.f1.size ≤ 1048576
theorem CQ : zZ [] := ⟨by simp, fun b hb => by simp at hb⟩
theorem Jh (s : ByteArray) (hs : s.size ≤ 1048576) : ∃ r ok, Ev (fun k => aH.f k s) (r, ok) ∧ zZ r := by
 obtain ⟨w, ew, hw, hl⟩ := RX s hs
 unfold aH.f
 by_cases h : (s.size : Int) > 200
 ·exact ⟨[], false, kH (Ev.bind ew (aK h (Ev.step (f := fun _ => some ([], false)) (fun k => by rw [aH.j0, if_pos rfl]) (Ev.now _)))), CQ⟩
 ·by_cases h2 : (w.length : Int) > 8
  ·exact ⟨[], false, kH (Ev.bind ew (aY h (Ev.step (f := fun _ => some ([], false)) (fun k => by rw [aH.j0, if_pos (by exact decide_eq_true h2)]) (Ev.now _)))), CQ⟩
  ·have key : ∀ (d i : Nat) (acc : List iR), i + d = w.length → acc.length ≤ i → (∀ b ∈ acc, b.f0.size ≤ 1048576 ∧ b.f1.size ≤ 1048576) → ∃ r ok, Ev (fun k => aH.l0 k acc w (i : Int)) (r, ok) ∧ zZ r := by
    intro d
    induction d with
    | zero =>
     intro i acc hi ha hm
     exact ⟨acc, true, Ev.step (f := fun _ => some (acc, true)) (fun k => by rw [aH.l0, if_neg (by omega)]) (Ev.now _), by omega, hm⟩
    | succ d ih =>
     intro i acc hi ha hm
     have hx : (iE ByteArray.empty w (i : Int)).size ≤ s.size := hw _ (getD_mem w i ByteArray.empty (by omega))
     obtain ⟨x, y, o, e, z1, z2⟩ := Vs (iE ByteArray.empty w (i : Int)) (by omega)
     by_cases h3 : o = true
     ·obtain ⟨r, ok, e2, z⟩ := ih (i + 1) (acc ++ [(⟨x, y⟩ : iR)]) (by omega) (by rw [List.length_append, List.length_singleton]; omega) (fun b hb => by
       rcases List.mem_append.1 hb with hb | hb
       ·exact hm b hb
       ·rw [List.mem_singleton.1 hb]; exact ⟨z1, z2⟩)
      exact ⟨r, ok, Ev.step (fun k => by rw [aH.l0, if_pos (by omega), if_pos (by omega), wC i (by omega)]) (Ev.bind e (aK h3 (aK (show acc.length < 4398046511104 by omega) e2))), z⟩
     ·exact ⟨[], false, Ev.step (fun k => by rw [aH.l0, if_pos (by omega), if_pos (by omega), wC i (by omega)]) (Ev.bind e (aY h3 (Ev.now _))), CQ⟩
   obtain ⟨r, ok, e, z⟩ := key w.length 0 [] (by omega) (by simp) (fun b hb => by simp at hb)
   refine ⟨r, ok, kH (Ev.bind ew (aY h (Ev.step (fun k => by rw [aH.j0, if_neg (by rw [decide_eq_true_eq]; exact h2)]; rfl) e))), z⟩
theorem KU (l : List Int) (i h : Int) (hl : l.length ≤ 1099511627776) (h0 : 0 ≤ i) (hi : i ≤ l.length) :
  ∃ t i' h', Ev (fun k => aN.f k l i h) (t, i', h') ∧ t.size ≤ 500000 ∧ 0 ≤ i' ∧ i' ≤ l.length := by
 have key : ∀ (n : Int) (hn : n ≤ 10) (d j : Nat) (t : ByteArray) (i h : Int), (j : Int) + d = n → t.size ≤ 3000 * j → 0 ≤ i → i ≤ l.length →
   ∃ t' i' h', Ev (fun k => aN.l0 k t n (j : Int) l i h) (t', i', h') ∧ t'.size ≤ 500000 ∧ 0 ≤ i' ∧ i' ≤ l.length := by
  intro n hn d
  induction d with
  | zero =>
   intro j t i h hj ht h0 hi
   exact ⟨t, i, h, Ev.step (f := fun _ => some (t, i, h)) (fun k => by rw [aN.l0, if_neg (by omega)]) (Ev.now _), by omega, h0, hi⟩
  | succ d ih =>
   intro j t i h hj ht h0 hi
   have nxt : ∀ (u : ByteArray) (i h : Int), u.size ≤ 3000 * j + 3000 → 0 ≤ i → i ≤ l.length → ∃ t' i' h', Ev (fun k => aN.l0 k u n (wrap64 ((j : Int) + 1)) l i h) (t', i', h') ∧ t'.size ≤ 500000 ∧ 0 ≤ i' ∧ i' ≤ l.length := by
    intro u i h hu h0 hi
    rw [wC j (by omega)]
    exact ih (j + 1) u i h (by omega) (by omega) h0 hi
   have hj2 : ∀ (u : ByteArray), u.size ≤ 3000 * j + 4 → ∃ t' i' h', Ev (fun k => aN.j2 k u n (j : Int) l i h) (t', i', h') ∧ t'.size ≤ 500000 ∧ 0 ≤ i' ∧ i' ≤ l.length := by
    intro u hu
    obtain ⟨r, i1, h1, e1, r0, r1, _, p0, p1⟩ := lh l i h 8 hl h0 hi (by omega)
    have a1 : ∀ x : UInt8, (u ++ (⟨#[x]⟩ : ByteArray)).size = u.size + 1 := fun x => iC _ _
    have a2 : ∀ x y : UInt8, (u ++ (⟨#[x, y]⟩ : ByteArray)).size = u.size + 2 := fun x y => iC _ _
    obtain ⟨v, i2, h2, e2, hv, q0, q1⟩ := Ai l i1 h1 hl p0 p1
    by_cases c0 : r = 0
    ·obtain ⟨t', i', h', e, z⟩ := nxt (u ++ (⟨#[42]⟩ : ByteArray)) i1 h1 (by rw [a1]; omega) p0 p1
     exact ⟨t', i', h', Ev.step (fun k => by rw [aN.j2, e1, Option.bind_some, if_pos c0, if_pos (show u.size + 1 ≤ 9223372036854775807 by omega)]) e, z⟩
    by_cases c1 : r = 1
    ·obtain ⟨t', i', h', e, z⟩ := nxt ((u ++ (⟨#[94]⟩ : ByteArray)) ++ v) i2 h2 (by rw [iC, a1]; omega) q0 q1
     exact ⟨t', i', h', Ev.step (fun k => by rw [aN.j2, e1, Option.bind_some, if_neg c0, if_pos c1, if_pos (show u.size + 1 ≤ 9223372036854775807 by omega)]) (Ev.bind e2 (aK (show (u ++ (⟨#[94]⟩ : ByteArray)).size + v.size ≤ 9223372036854775807 by rw [a1]; omega) e)), z⟩
    by_cases c2 : r = 2
    ·obtain ⟨t', i', h', e, z⟩ := nxt ((u ++ (⟨#[126]⟩ : ByteArray)) ++ v) i2 h2 (by rw [iC, a1]; omega) q0 q1
     exact ⟨t', i', h', Ev.step (fun k => by rw [aN.j2, e1, Option.bind_some, if_neg c0, if_neg c1, if_pos c2, if_pos (show u.size + 1 ≤ 9223372036854775807 by omega)]) (Ev.bind e2 (aK (show (u ++ (⟨#[126]⟩ : ByteArray)).size + v.size ≤ 9223372036854775807 by rw [a1]; omega) e)), z⟩
    by_cases c3 : r = 3
    ·obtain ⟨t', i', h', e, z⟩ := nxt ((u ++ (⟨#[62, 61]⟩ : ByteArray)) ++ v) i2 h2 (by rw [iC, a2]; omega) q0 q1
     exact ⟨t', i', h', Ev.step (fun k => by rw [aN.j2, e1, Option.bind_some, if_neg c0, if_neg c1, if_neg c2, if_pos c3, if_pos (show u.size + 2 ≤ 9223372036854775807 by omega)]) (Ev.bind e2 (aK (show (u ++ (⟨#[62, 61]⟩ : ByteArray)).size + v.size ≤ 9223372036854775807 by rw [a2]; omega) e)), z⟩
    by_cases c4 : r = 4
    ·obtain ⟨v2, i3, h3, e3, hv2, s0, s1⟩ := Ai l i2 h2 hl q0 q1
     have b1 : ((u ++ (⟨#[62, 61]⟩ : ByteArray)) ++ v).size = u.size + 2 + v.size := by rw [iC, a2]
     have b2 : (((u ++ (⟨#[62, 61]⟩ : ByteArray)) ++ v) ++ (⟨#[32, 60]⟩ : ByteArray)).size = u.size + 2 + v.size + 2 := by rw [iC, b1]; rfl
     obtain ⟨t', i', h', e, z⟩ := nxt ((((u ++ (⟨#[62, 61]⟩ : ByteArray)) ++ v) ++ (⟨#[32, 60]⟩ : ByteArray)) ++ v2) i3 h3 (by rw [iC, b2]; omega) s0 s1
     exact ⟨t', i', h', Ev.step (fun k => by rw [aN.j2, e1, Option.bind_some, if_neg c0, if_neg c1, if_neg c2, if_neg c3, if_pos c4, if_pos (show u.size + 2 ≤ 9223372036854775807 by omega)]) (Ev.bind e2 (aK (show (u ++ (⟨#[62, 61]⟩ : ByteArray)).size + v.size ≤ 9223372036854775807 by rw [a2]; omega) (aK (show ((u ++ (⟨#[62, 61]⟩ : ByteArray)) ++ v).size + 2 ≤ 9223372036854775807 by rw [b1]; omega) (Ev.bind e3 (aK (show (((u ++ (⟨#[62, 61]⟩ : ByteArray)) ++ v) ++ (⟨#[32, 60]⟩ : ByteArray)).size + v2.size ≤ 9223372036854775807 by rw [b2]; omega) e))))), z⟩
    by_cases c5 : r = 5
    ·obtain ⟨w, i3, h3, e3, hw, s0, s1⟩ := pick_any l i1 h1 [(⟨#[49]⟩ : ByteArray), (⟨#[49, 46, 50]⟩ : ByteArray), (⟨#[48]⟩ : ByteArray), (⟨#[48, 46, 48]⟩ : ByteArray), (⟨#[60, 50, 46, 48, 46, 48]⟩ : ByteArray), (⟨#[48, 49]⟩ : ByteArray), (⟨#[49, 46]⟩ : ByteArray), (⟨#[57, 57, 57, 57, 57, 57, 57, 57, 57]⟩ : ByteArray), (⟨#[94, 57, 57, 57, 57, 57, 57, 57, 57, 57, 46, 48, 46, 48]⟩ : ByteArray)] hl p0 p1 (by simp) (by simp)
     have hw1 : w.size ≤ 20 := by
      have : ∀ x ∈ [(⟨#[49]⟩ : ByteArray), (⟨#[49, 46, 50]⟩ : ByteArray), (⟨#[48]⟩ : ByteArray), (⟨#[48, 46, 48]⟩ : ByteArray), (⟨#[60, 50, 46, 48, 46, 48]⟩ : ByteArray), (⟨#[48, 49]⟩ : ByteArray), (⟨#[49, 46]⟩ : ByteArray), (⟨#[57, 57, 57, 57, 57, 57, 57, 57, 57]⟩ : ByteArray), (⟨#[94, 57, 57, 57, 57, 57, 57, 57, 57, 57, 46, 48, 46, 48]⟩ : ByteArray)], x.size ≤ 20 := by decide
      exact this w hw
     obtain ⟨t', i', h', e, z⟩ := nxt (u ++ w) i3 h3 (by rw [iC]; omega) s0 s1
     exact ⟨t', i', h', Ev.step (fun k => by rw [aN.j2, e1, Option.bind_some, if_neg c0, if_neg c1, if_neg c2, if_neg c3, if_neg c4, if_pos c5, e3, Option.bind_some, if_pos (show u.size + w.size ≤ 9223372036854775807 by omega)]) e, z⟩
    ·obtain ⟨t', i', h', e, z⟩ := nxt (u ++ v) i2 h2 (by rw [iC]; omega) q0 q1
     exact ⟨t', i', h', Ev.step (fun k => by rw [aN.j2, e1, Option.bind_some, if_neg c0, if_neg c1, if_neg c2, if_neg c3, if_neg c4, if_neg c5]) (Ev.bind e2 (aK (show u.size + v.size ≤ 9223372036854775807 by omega) e)), z⟩
   by_cases c0 : (j : Int) > 0
   ·have a4 : (t ++ (⟨#[32, 124, 124, 32]⟩ : ByteArray)).size = t.size + 4 := iC _ _
    obtain ⟨t', i', h', e, z⟩ := hj2 (t ++ (⟨#[32, 124, 124, 32]⟩ : ByteArray)) (by rw [a4]; omega)
    exact ⟨t', i', h', Ev.step (fun k => by rw [aN.l0, if_pos (by omega), if_pos c0, if_pos (show t.size + 4 ≤ 9223372036854775807 by omega)]) e, z⟩
   ·obtain ⟨t', i', h', e, z⟩ := hj2 t (by omega)
    exact ⟨t', i', h', Ev.step (fun k => by rw [aN.l0, if_pos (by omega), if_neg c0]) e, z⟩
 have go : ∀ (n : Int), 0 ≤ n → n ≤ 10 → ∀ (i h : Int), 0 ≤ i → i ≤ l.length → ∃ t i' h', Ev (fun k => aN.j0 k (⟨#[]⟩ : ByteArray) n l i h) (t, i', h') ∧ t.size ≤ 500000 ∧ 0 ≤ i' ∧ i' ≤ l.length := by
  intro n hn0 hn i h h0 hi
  obtain ⟨t, i', h', e, z⟩ := key n hn n.toNat 0 (⟨#[]⟩ : ByteArray) i h (by omega) (by decide) h0 hi
  exact ⟨t, i', h', Ev.step (fun k => by rw [aN.j0]; rfl) e, z⟩
 obtain ⟨a, i1, h1, e1, r0, r1, _, p0, p1⟩ := lh l i h 3 hl h0 hi (by omega)
 have ha := r1 (by omega)
 obtain ⟨b, i2, h2, e2, q0, q1⟩ := zf l i1 h1 16 hl p0 p1 (by omega)
 unfold aN.f
 by_cases hb : b = true
 ·obtain ⟨c, i3, h3, e3, s0, s1, _, t0, t1⟩ := lh l i2 h2 2 hl q0 q1 (by omega)
  have hc := s1 (by omega)
  obtain ⟨t, i', h', e, z⟩ := go (wrap64 (8 + c)) (by rw [rO (by omega) (by omega)]; omega) (by rw [rO (by omega) (by omega)]; omega) i3 h3 t0 t1
  exact ⟨t, i', h', bn e1 (bn e2 (aK hb (bn e3 e))), z⟩
 ·obtain ⟨t, i', h', e, z⟩ := go (wrap64 (1 + a)) (by rw [rO (by omega) (by omega)]; omega) (by rw [rO (by omega) (by omega)]; omega) i2 h2 q0 q1
  exact ⟨t, i', h', bn e1 (bn e2 (aY hb e)), z⟩
theorem CS (l : List Int) (i h : Int) (hl : l.length ≤ 1099511627776) (h0 : 0 ≤ i) (hi : i ≤ l.length) :
  ∃ r i' h', Ev (fun k => bg.f k l i h) (r, i', h') ∧ zZ r ∧ 0 ≤ i' ∧ i' ≤ l.length := by
 obtain ⟨t, i1, h1, e1, ht, p0, p1⟩ := KU l i h hl h0 hi
 obtain ⟨r, ok, e2, hr⟩ := Jh t (by omega)
 have off : ∀ (i h : Int), 0 ≤ i → i ≤ l.length → ∃ r' i' h', Ev (fun k => bg.j0 k r false l i h) (r', i', h') ∧ zZ r' ∧ 0 ≤ i' ∧ i' ≤ l.length := fun i h h0 hi =>
  ⟨r, i, h, Ev.step (f := fun _ => some (r, i, h)) (fun k => by rw [bg.j0, if_neg (by decide)]) (Ev.now _), hr, h0, hi⟩
 unfold bg.f
 by_cases c : (r.length : Int) > 0
 ·obtain ⟨b, i2, h2, e3, q0, q1⟩ := zf l i1 h1 12 hl p0 p1 (by omega)
  by_cases hb : b = true
  ·subst hb
   obtain ⟨x, i3, h3, e4, x0, x1, _, s0, s1⟩ := lh l i2 h2 (r.length : Int) hl q0 q1 (by have := hr.1; omega)
   have hx := x1 c
   obtain ⟨u, i4, h4, e5, hu, t0, t1⟩ := pick_any l i3 h3 [(⟨#[120]⟩ : ByteArray), (⟨#[49]⟩ : ByteArray), (⟨#[]⟩ : ByteArray), (⟨#[49, 46, 48, 46, 48, 45]⟩ : ByteArray)] hl s0 s1 (by simp) (by simp)
   have hu1 : u.size ≤ 1048576 := by
    have : ∀ x ∈ [(⟨#[120]⟩ : ByteArray), (⟨#[49]⟩ : ByteArray), (⟨#[]⟩ : ByteArray), (⟨#[49, 46, 48, 46, 48, 45]⟩ : ByteArray)], x.size ≤ 1048576 := by decide
    exact this u hu
   have hm : dS r x ∈ r := getD_mem r x.toNat z67 (by omega)
   refine ⟨r.set x.toNat (⟨u, (dS r x).f1⟩ : iR), i4, h4, Ev.bind e1 (Ev.bind e2 (aK c (bn e3 (Ev.step (f := fun _ => some (r.set x.toNat (⟨u, (dS r x).f1⟩ : iR), i4, h4)) (fun k => by rw [bg.j0, if_pos rfl, e4, Option.bind_some, e5, Option.bind_some, if_pos x0, if_pos hx]) (Ev.now _))))), ⟨by rw [List.length_set]; exact hr.1, fun y hy => ?_⟩, t0, t1⟩
   rcases List.mem_or_eq_of_mem_set hy with h | h
   ·exact hr.2 y h
   ·subst h; exact ⟨hu1, (hr.2 _ hm).2⟩
  ·rw [Bool.not_eq_true] at hb
   subst hb
   obtain ⟨r', i', h', e, z⟩ := off i2 h2 q0 q1
   exact ⟨r', i', h', Ev.bind e1 (Ev.bind e2 (aK c (bn e3 e))), z⟩
 ·obtain ⟨r', i', h', e, z⟩ := off i1 h1 p0 p1
  exact ⟨r', i', h', Ev.bind e1 (Ev.bind e2 (aY c e)), z⟩
end Go.Proofs.YtieohddolkeegaaGreatDoor.U

end
section
namespace Go.Proofs.YtieohddolkeegaaGreatDoor.Pure
open Go Go.RowKit Go.Proofs.aA.aZ Go.Proofs.YtieohddolkeegaaGreatDoor.G Go.Proofs.YtieohddolkeegaaGreatDoor.U
set_option linter.unusedVariables false
set_option linter.unusedSimpArgs false
theorem Oh (l : List Int) (hl : l.length ≤ 1048576) : ∃ r, Ev (fun k => dL.f k l) r ∧ zZ r := by
 obtain ⟨h, e⟩ := new_any l hl
 obtain ⟨r, i2, h2, e3, hr, _⟩ := CS l 0 h (by omega) (by omega) (by omega)
 exact ⟨r, by unfold dL.f; exact Ev.bind e (Ev.bind e3 (Ev.now _)), hr⟩
theorem Ji (l : List Int) (hl : l.length ≤ 1048576) : ∃ r, Ev (fun k => dB.f k l) r ∧ zZ r := by
 obtain ⟨h, e⟩ := new_any l hl
 obtain ⟨r, i2, h2, e3, hr, _⟩ := CS l 0 h (by omega) (by omega) (by omega)
 exact ⟨r, by unfold dB.f; exact Ev.bind e (Ev.bind e3 (Ev.now _)), hr⟩
theorem Jj (l : List Int) (hl : l.length ≤ 1048576) : ∃ t, Ev (fun k => dD.f k l) t ∧ t.size ≤ 1048576 := by
 obtain ⟨h, e⟩ := new_any l hl
 obtain ⟨t, i1, h1, e1, ht, p0, p1⟩ := KU l 0 h (by omega) (by omega) (by omega)
 obtain ⟨u, i2, h2, e2, hu, _⟩ := Oi l i1 h1 t ht (by omega) p0 p1
 exact ⟨u, by unfold dD.f; exact Ev.bind e (Ev.bind e1 (bn e2 (Ev.now _))), hu⟩
theorem Vt (l : List Int) (hl : l.length ≤ 1048576) : ∃ t, Ev (fun k => eF.f k l) t ∧ t.size ≤ 1048576 := by
 obtain ⟨h, e⟩ := new_any l hl
 obtain ⟨t, i1, h1, e1, ht, p0, p1⟩ := Ai l 0 h (by omega) (by omega) (by omega)
 obtain ⟨u, i2, h2, e2, hu, _⟩ := Oi l i1 h1 t (by omega) (by omega) p0 p1
 exact ⟨u, by unfold eF.f; exact Ev.bind e (Ev.bind e1 (bn e2 (Ev.now _))), hu⟩
theorem drawIn (l : List Int) (hl : l.length ≤ 1048576) : ∃ v r, Ev (fun k => fZ.f k l) (v, r) ∧ v.size ≤ 1048576 ∧ zZ r := by
 obtain ⟨h, e⟩ := new_any l hl
 obtain ⟨t, i1, h1, e1, ht, p0, p1⟩ := Ai l 0 h (by omega) (by omega) (by omega)
 obtain ⟨r, i2, h2, e3, hr, _⟩ := CS l i1 h1 (by omega) p0 p1
 exact ⟨t, r, by unfold fZ.f; exact Ev.bind e (Ev.bind e1 (Ev.bind e3 (Ev.now _))), by omega, hr⟩
theorem wY (l : List BD) (h : l.length ≤ 1048580) : Ev (fun k => bD.f k l l) true := by
 unfold bD.f
 refine aK rfl ?_
 have key : ∀ d i : Nat, i + d = l.length → Ev (fun k => bD.l0 k l l (i : Int)) true := by
  intro d
  induction d with
  | zero => intro i hi; exact Ev.step (f := fun _ => some true) (fun k => by rw [bD.l0, if_neg (by omega)]) (Ev.now _)
  | succ d ih => intro i hi; exact Ev.step (fun k => by rw [bD.l0, if_pos (by omega), if_pos (by omega), if_pos (by omega), if_neg (by simp), wC i (by omega)]) (ih (i + 1) (by omega))
 exact key l.length 0 (by omega)
theorem Ib (b : Bool) : ¬ (b != b) = true := by cases b <;> decide
theorem FnRange : bf.Pure := by
 intro code hcode
 refine Ev.rounds (r := true) ?_
 unfold bf.f
 refine bn (show xG.f code = some (decide ((code.length : Int) > 1048576)) from rfl) ?_
 by_cases hb : (code.length : Int) > 1048576
 ·exact aK (decide_eq_true hb) (Ev.now _)
 refine aY (by rw [decide_eq_true_eq]; exact hb) ?_
 obtain ⟨o, e1, o1, o2⟩ := Oh code (by omega)
 obtain ⟨t, e2, t1, t2⟩ := Ji code (by omega)
 obtain ⟨r, e3, r1⟩ := Jj code (by omega)
 obtain ⟨e, e4, x1⟩ := Vt code (by omega)
 obtain ⟨v, h, e5, v1, h1, h2⟩ := drawIn code (by omega)
 obtain ⟨y, ok, rs, ri, rok, y1, y2⟩ := yw r r1
 have ex := RY e
 have exb : ∀ b ∈ l7 e, b.f0.size ≤ 1048576 ∧ b.f1.size ≤ 1048576 := by
  intro b hbm
  by_cases c : l7 e = []
  ·rw [c] at hbm; simp at hbm
  ·have hl1 : (l7 e).length = 1 := by
    cases hq : l7 e with
    | nil => exact absurd hq c
    | cons a q => rw [hq, List.length_cons] at ex; rw [List.length_cons]; omega
   obtain ⟨J9, hin, _⟩ := Oj e (l7 e) rfl hl1
   have hr : jA (l7 e) = true := by
    unfold inL at hin
    simp only [Bool.and_eq_true] at hin
    exact hin.1.2
   obtain ⟨q1, _⟩ := vM hr
   have := q1 b hbm
   exact ⟨by rw [fM]; omega, by rw [fM]; omega⟩
 have hj2 : Ev (fun k => if (S (oU t)).toList = ([] : List UInt8) then bf.j2 k t (S (oU t)) true else bf.j2 k t (S (oU t)) (decide (((S (oU t)).size : Int) > 200))) true := by
  by_cases c : (S (oU t)).toList = ([] : List UInt8)
  ·exact aK c (Ev.step (f := fun _ => some true) (fun k => by rw [bf.j2, if_pos rfl]) (Ev.now _))
  ·refine aY c ?_
   by_cases c2 : ((S (oU t)).size : Int) > 200
   ·exact Ev.step (f := fun _ => some true) (fun k => by rw [bf.j2, if_pos (decide_eq_true c2)]) (Ev.now _)
   ·have hne : oU t ≠ [] := fun z => c (by rw [eY, lQ]; exact z)
    have hrb := RQ t hne (by rw [fD] at c2; omega)
    exact Ev.step (fun k => by rw [bf.j2, if_neg (by rw [decide_eq_true_eq]; exact c2)]) (Ev.bind hrb (aK rfl (Ev.bind (wY t (by omega)) (Ev.now _))))
 have hj1 : Ev (fun k => bf.j1 k t (S (oU t)) v h false) true :=
  Ev.step (fun k => by rw [bf.j1, if_neg (by decide)]) (Ev.bind (CU v h v1 (by omega) h2) (Ev.bind (RZ v h v1 (by omega) h2) (aY (Ib _) hj2)))
 have hj0 : Ev (fun k => bf.j0 k code t (S (oU t)) e (l7 e) false) true := by
  refine Ev.step (fun k => by rw [bf.j0, if_neg (by decide)]) (Ev.bind e5 ?_)
  by_cases c : ((l7 e).length : Int) = 1
  ·obtain ⟨J9, hin, hall⟩ := Oj e (l7 e) rfl (by omega)
   refine aK c (Ev.bind (CU e (l7 e) x1 (by omega) exb) (aK hin ?_))
   by_cases c2 : v.toList = e.toList
   ·exact aK c2 hj1
   ·have hno : inL (L v) (l7 e) = false := by
     rw [Bool.eq_false_iff]; intro z
     exact c2 (by rw [hall v z])
    refine aY c2 (Ev.bind (CU v (l7 e) v1 (by omega) exb) ?_)
    rw [hno]; exact hj1
  ·exact aY c hj1
 refine Ev.bind e1 (Ev.bind e2 (Ev.bind (Dw t (by omega) t2) (Ev.bind e3 (Ev.bind ri (Ev.bind rs (Ev.bind e4 (Ev.bind (Jk e x1) (Ev.bind (nX o (by omega) o2) (Ev.bind (nY o (by omega) o2) (aY (Ib _) (Ev.bind (Dx t (by omega) t2) (aK rfl (Ev.bind (wY y (by omega)) (aK rfl (aY (Ib _) (Ev.bind (Jl e x1) (Ev.bind (wY (l7 e) (by omega)) (aK rfl ?_))))))))))))))))))
 by_cases c : ok = true
 ·refine aK c (Ev.bind (nX y (by omega) y2) ?_)
  rw [rok c]; exact hj0
 ·exact aY c hj0
end Go.Proofs.YtieohddolkeegaaGreatDoor.Pure

end
section
namespace Go.Proofs.YtieohddolkeegaaGreatDoor.U1
open Go.ChangeShapes Go.WideShapes Go.ChangeAt Go.RowKit Go.Proofs.YtieohddolkeegaaGreatDoor Go.Proofs.YtieohddolkeegaaGreatDoor.G Go.Proofs.aA.aZ
open Go.ChangeMaps (open_string shut_string)
set_option linter.unusedVariables false
set_option linter.unusedSimpArgs false
theorem own : ownKnob Tryz.prog.godebug = none := by kernel_rfl
theorem laidOut : laidOutB Tryz.prog = true := by kernel_rfl
set_option maxRecDepth 100000 in
theorem contract (H : Type) (enc : TypeId × Value → H) (W : World) (base : Nat) (args : Array Value) (ds gs : List (DataW H)) (before : List MemPlace)
    (hval : ∀ (j : Nat) t v, Tryz.f3.params[j]? = some t → args[j]? = some v → Value.okWide Tryz.prog W .any base t v)
    (hW : DataW.Whole enc Tryz.prog Tryz.f3.params.toList Rows.fnRangeSpec.vars false W args.toList ds gs before) (hFE : cZ ji W) (hFM : cZ jU W) (hFT : cZ jb W) :
    Calls Tryz.prog 3 args W fun e W' => ∃ v, e = .returned v ∧ Rows.fnRangeSpec.post enc Tryz.prog Tryz.f3 false true false false W args v W' := by
  have hW' := hW
  obtain ⟨p, q, hA0, hV, rfl, hfz, hnd⟩ := hW
  have hA : DataW.TrodAll enc Tryz.prog W 0 (fun _ => true) true Tryz.f3.params.toList args.toList ds p := hA0
  rw [Tryz.params3] at hA hval
  obtain ⟨v0, vs0, d0, ds0, p0, q0, hargs, rfl, rfl, h0, r0⟩ := trodAll_cons hA
  obtain ⟨rfl, rfl, rfl⟩ := trodAll_nil r0
  obtain rfl : args = #[v0] := by cases args; simp_all
  obtain ⟨rfl, rfl⟩ := trodVars_none hV
  obtain ⟨A0, len0, c0, rfl⟩ := okWide_slice Tryz.underlying22 (hval 0 22 v0 rfl rfl)
  have k0 := h0
  have lt0 : ∀ x ∈ p0, x.block < W.heap.size := by obtain ⟨m, hm⟩ := k0; exact DataW.trod_lt m _ _ _ hm
  obtain ⟨l0, rfl, hc0, hr0, z0⟩ := Op.Vu (Op.Ol (by kernel_rfl) Tryz.underlying22 (Op.Vw (by kernel_rfl) Tryz.underlying5)) h0
  clear hA0
  obtain ⟨k, h⟩ := Pure.FnRange l0 z0
  refine (bf.calls k A0 c0 l0 true W hr0 hc0 hFE hFM hFT rfl h).mono fun e W' ⟨he, bel0⟩ => ?_
  have bel : Below W.heap.size W W' := bel0
  subst he
  exact ⟨_, rfl, _, _, _, [], _, [], hW', trodAll_mk1 (shut_bool Tryz.underlying4 _), (trodAll_cons_mk (Below.trod laidOut (by kernel_rfl) (of_decide_eq_true (by kernel_rfl)) k0 bel lt0) trodAll_mk0), rfl, bel.frame _, fun h => by cases h⟩
theorem laid_met (os : Os) : laidMet Tryz.prog Rows.fnRangeRow.laid ((Laid.world os).forCall (fun _ _ => 0) ⟨#[], #[.slice none 0 0], []⟩).memory :=
  laidMet_of_run' Laid.fuel (by kernel_rfl) (by kernel_rfl)
theorem reads (os : Os) {H : Type} (enc : TypeId × Value → H) : ∃ places, DataW.whole enc Tryz.prog ((Laid.world os).forCall (fun _ _ => 0) ⟨#[], #[.slice none 0 0], []⟩).memory Tryz.f3.params.toList Rows.fnRangeSpec.vars false (#[.slice none 0 0] : Array Value).toList 8 = some ([.nil], [], places) :=
  ⟨[], by kernel_rfl⟩
set_option maxRecDepth 100000 in
theorem lifted (os : Os) (started : os.Started) (H : Type) (enc : TypeId × Value → H) (F : Stop.Interp) :
    ReturnsInHanded {} Tryz.checked os 3 .any ((OpenSpec.ofChange Rows.fnRangeSpec).preRow enc Tryz.prog Tryz.f3 Rows.fnRangeRow.domain false Rows.fnRangeRow.laid) (((OpenSpec.ofChange Rows.fnRangeSpec).at F).post enc Tryz.prog Tryz.f3 false true false false) := by
  obtain ⟨places, hx⟩ := reads os enc
  refine returnsInHanded_of_row (C := Tryz.checked) (s := OpenSpec.ofChange Rows.fnRangeSpec) own started (by kernel_rfl) Tryz.func3
    (witness_row_atRef (enc := enc) (C := Tryz.checked) false (Laid.world os) #[.slice none 0 0] rfl (Laid.vars os _) (Laid.heap os _) (by kernel_rfl)
      (OpenSpec.preRow_of_cond 8 hx (by kernel_rfl) (fun k hk => by cases hk) (by kernel_rfl) (laid_met os))) ?_
  intro W base args ds gs before hval hW _ _ _ hL hS _
  exact contract H enc W base args ds gs before hval hW (XX hS hL (fun h => h) (by repeat (first | exact List.Mem.head _ | apply List.Mem.tail)) (by repeat (first | exact List.Mem.head _ | apply List.Mem.tail))) (XU hS hL) (XV hS hL (fun h => h) (by repeat (first | exact List.Mem.head _ | apply List.Mem.tail)))
theorem j10 : (Rows.fnRangeRow.inPlace == Tryz.prog.inPlace 3) = true := by kernel_rfl
theorem j11 : (Rows.fnRangeRow.unfollowed == Tryz.prog.unfollowed 3) = true := by kernel_rfl
theorem j12 : (Rows.fnRangeRow.recurses == Tryz.prog.recurses 3) = true := by kernel_rfl
theorem j13 : (Rows.fnRangeRow.named == Tryz.prog.varsNamed 3) = true := by kernel_rfl
set_option maxRecDepth 100000 in
theorem closed : joinedFacts Tryz.prog 3 Tryz.f3 (OpenSpec.ofChange Rows.fnRangeSpec).bare Rows.fnRangeRow = true :=
  (Facts.jc (Facts.jc (Facts.jc (Facts.jc (Facts.jc (Facts.jc (Facts.jc (Facts.jc (Facts.jc (Facts.jc (Facts.jc (Facts.jc (Facts.jc (Facts.jc (Facts.jc (Facts.jc (Facts.jc (Facts.jc (Facts.jc (Facts.jc (Facts.jc (Facts.jc (Facts.jc (Facts.jc (Facts.jc (Facts.jc (Facts.jc (Facts.jc (Facts.jc (Facts.jc (Facts.jc (by kernel_rfl) Facts.laidOut) Facts.mapsRowed) (by kernel_rfl)) (by kernel_rfl)) (by kernel_rfl)) (by kernel_rfl)) (by kernel_rfl)) (by kernel_rfl)) j10) j11) j12) j13) (by kernel_rfl)) (by kernel_rfl)) (by kernel_rfl)) (by kernel_rfl)) (by kernel_rfl)) (by kernel_rfl)) (by kernel_rfl)) (by kernel_rfl)) (by kernel_rfl)) (Facts.plainKeys _ rfl)) (by kernel_rfl)) Facts.heard) Facts.mayEnter) (Facts.lifts _ rfl)) (Facts.make _ rfl)) (by kernel_rfl)) (by kernel_rfl)) (by kernel_rfl)) (by kernel_rfl))
theorem goes : false = Rows.fnRangeRow.goesBy Tryz.prog := by kernel_rfl
theorem said : Rows.FnRangeSaid :=
  OpenClaim.holds_of_cond 3 Tryz.f3 rfl rfl rfl rfl rfl rfl rfl ⟨rfl, rfl, rfl, rfl, rfl⟩ rfl rfl rfl rfl rfl (by kernel_rfl) Tryz.func3 closed
    (of_decide_eq_true (by kernel_rfl)) (by unfold Func.isWrapper; first | (rw [if_pos (by decide +kernel)]; kernel_rfl) | (rw [if_neg (by decide +kernel)]; exact ⟨rfl, rfl⟩))
    (fun os started H enc _ F => by rw [OpenClaim.pre_eq_preRow]; exact lifted os started H enc F)
theorem plain (f : FuncId) (fn : Func) (hf : Tryz.pinned.checked.prog.funcNamed "loop.example/g00445/laws.FnRange" = some f) (hfn : Tryz.pinned.checked.prog.funcs[f]? = some fn) :
    true = Tryz.pinned.checked.prog.looks [] ∧ ∀ (j : Nat) t, fn.params[j]? = some t → Tryz.pinned.checked.prog.wantsStandIn t = false := by
  obtain rfl : f = 3 := Option.some.inj ((show Tryz.prog.funcNamed "loop.example/g00445/laws.FnRange" = some 3 by kernel_rfl).symm.trans hf) |>.symm
  obtain rfl : fn = Tryz.f3 := (Option.some.inj (Tryz.func3.symm.trans hfn)).symm
  refine ⟨Facts.looks, fun j t ht => ?_⟩
  rw [Tryz.params3] at ht
  have hm := Array.mem_of_getElem? ht
  have hall : (#[22] : Array TypeId).all (fun t => Tryz.prog.wantsStandIn t == false) = true := by kernel_rfl
  show Tryz.prog.wantsStandIn t = false
  have h1 := Array.all_eq_true'.1 hall t hm
  exact beq_iff_eq.1 h1
theorem proved : Rows.FnRangeCardSaid :=
  Claim7.holds_tied_plain_at .later [] _ _ _ _ said (fun _ h => by cases h) (by kernel_rfl) (fun _ h => by cases h) fnRange_row_tie rfl ⟨rfl, rfl⟩ Facts.main rfl plain goes
end Go.Proofs.YtieohddolkeegaaGreatDoor.U1
namespace Go.Proofs.YtieohddolkeegaaGreatDoor
theorem fnRange_holds : Rows.FnRangeCardSaid := U1.proved
end Go.Proofs.YtieohddolkeegaaGreatDoor

end
