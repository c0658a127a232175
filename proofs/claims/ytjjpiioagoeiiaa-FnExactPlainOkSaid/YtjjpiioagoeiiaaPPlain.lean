/- What PlainOk answers, of the program and of the reference. -/
import Derived.Test.YtjjpiioagoeiiaaPIn
import Derived.Test.YtjjpiioagoeiiaaGspecPlainOk
import Derived.Test.YtjjpiioagoeiiaaGimplPlainOk
namespace Go.Proofs.Ytjjpiioagoeiiaa.U
open Go Go.RowKit Go.Proofs.YtjjpiioagoeiiaaW.PrintWords Go.Proofs.Ytjjpiioagoeiiaa.G
set_option linter.unusedVariables false
set_option linter.unusedSimpArgs false

def plain1 (c : UInt8) : Bool := decide (33 ≤ c.toNat) && decide (c.toNat ≤ 126) && c != 34 && c != 39 && c != 44 && c != 92
def plainOk (l : B) : Bool := decide (l.length ≤ 100) && l.all plain1

theorem impl_PlainOk_1_eq (c : UInt8) : impl_PlainOk_1.f (c.toNat : Int) = some (plain1 c) := by
  revert c
  refine all_bytes ?_
  decide +kernel

theorem impl_all_plain (s : ByteArray) (hs : s.size ≤ 1099511627776) : Ev (fun k => impl_all__impl_PlainOk_1.f k s) ((L s).all plain1) := by
  refine ev_use (loop_up (fun k i (_ : Unit) => impl_all__impl_PlainOk_1.l0 k s (s.size : Int) i) (L s).length (fun _ _ => True) (fun i _ => ((L s).drop i).all plain1) ?_ ?_ 0 () (by omega) trivial) (by simp)
  · intro st _
    refine Ev.step (f := fun k => some true) (fun k => by rw [impl_all__impl_PlainOk_1.l0, if_neg (by rw [size_L]; omega)]) ?_
    simpa using Ev.now true
  · intro i st hi _ ih
    have hz : (i : Int) < (s.size : Int) := by rw [size_L]; omega
    by_cases h : plain1 (at_ (L s) i) = true
    · refine Ev.step (f := fun k => impl_all__impl_PlainOk_1.l0 k s (s.size : Int) ((i + 1 : Nat) : Int)) (fun k => ?_) (ev_use (ih () trivial) ?_)
      · rw [impl_all__impl_PlainOk_1.l0, if_pos hz, if_pos (by omega), if_pos hz, bt_nat, impl_PlainOk_1_eq, Option.bind_some, if_pos h, inc i (by rw [← size_L] at hi; omega)]
      · rw [drop_at _ _ hi, List.all_cons, h, Bool.true_and]
    · refine Ev.step (f := fun k => some false) (fun k => ?_) ?_
      · rw [impl_all__impl_PlainOk_1.l0, if_pos hz, if_pos (by omega), if_pos hz, bt_nat, impl_PlainOk_1_eq, Option.bind_some, if_neg h]
      · rw [drop_at _ _ hi, List.all_cons]; simp only [Bool.not_eq_true] at h; rw [h]; exact Ev.now _

theorem impl_PlainOk_ev (s : ByteArray) (hs : s.size ≤ 1099511627776) : Ev (fun k => impl_PlainOk.f k s) (plainOk (L s)) := by
  unfold impl_PlainOk.f plainOk
  rw [← size_L]
  by_cases h : (s.size : Int) ≤ 100
  · refine ev_pos h (ev_use (Ev.bind (impl_all_plain s hs) (Ev.now _)) ?_)
    have : s.size ≤ 100 := by omega
    simp [this]
  · refine ev_neg h ?_
    have : ¬ s.size ≤ 100 := by omega
    simpa [this] using Ev.now false

theorem spec_PlainOk_ev (s : ByteArray) (hs : s.size ≤ 1099511627776) : Ev (fun k => spec_PlainOk.f k s) (plainOk (L s)) := by
  have hd : plainOk (L s) = (((L s).drop 0).all plain1 && decide (s.size ≤ 100)) := by
    unfold plainOk; rw [← size_L, Bool.and_comm]; rfl
  rw [hd]
  refine loop_up (fun k i (_ : Unit) => spec_PlainOk.l0 k s i) (L s).length (fun _ _ => True) (fun i _ => ((L s).drop i).all plain1 && decide (s.size ≤ 100)) ?_ ?_ 0 () (by omega) trivial
  · intro st _
    refine Ev.step (f := fun k => some (decide (s.size ≤ 100))) (fun k => ?_) ?_
    · rw [spec_PlainOk.l0, if_neg (by rw [size_L]; omega)]
      by_cases h : s.size ≤ 100
      · rw [if_pos (by omega), decide_eq_true h, decide_eq_true (by omega)]
      · rw [if_neg (by omega), decide_eq_false h]
    · simpa using Ev.now (decide (s.size ≤ 100))
  · intro i st hi _ ih
    have hz : (i : Int) < (s.size : Int) := by rw [size_L]; omega
    have hb := byte_lt (at_ (L s) i)
    by_cases h : plain1 (at_ (L s) i) = true
    · refine Ev.step (f := fun k => spec_PlainOk.l0 k s ((i + 1 : Nat) : Int)) (fun k => ?_) (ev_use (ih () trivial) ?_)
      · rw [spec_PlainOk.l0, if_pos hz, if_pos (by omega), bt_nat, w64 (by omega) (by omega), spec_l01In_eq, Option.bind_some, inc i (by rw [← size_L] at hi; omega)]
        revert h; generalize at_ (L s) i = c; intro h
        have e : ∀ c : UInt8, plain1 c = true → (decide ((33 : Int) ≤ (c.toNat : Int) ∧ (c.toNat : Int) ≤ 126) = true ∧ ¬ (c.toNat : Int) = 34 ∧ ¬ (c.toNat : Int) = 39 ∧ ¬ (c.toNat : Int) = 44 ∧ ¬ (c.toNat : Int) = 92) := all_bytes (by decide +kernel)
        obtain ⟨e1, e2, e3, e4, e5⟩ := e c h
        rw [if_pos e1, if_neg e2, if_neg e3, if_neg e4, if_neg e5]
      · rw [drop_at _ _ hi, List.all_cons, h, Bool.true_and]
    · refine Ev.step (f := fun k => some false) (fun k => ?_) ?_
      · rw [spec_PlainOk.l0, if_pos hz, if_pos (by omega), bt_nat, w64 (by omega) (by omega), spec_l01In_eq, Option.bind_some]
        revert h; generalize at_ (L s) i = c; intro h
        have e : ∀ c : UInt8, ¬ plain1 c = true → ¬ (decide ((33 : Int) ≤ (c.toNat : Int) ∧ (c.toNat : Int) ≤ 126) = true ∧ ¬ (c.toNat : Int) = 34 ∧ ¬ (c.toNat : Int) = 39 ∧ ¬ (c.toNat : Int) = 44 ∧ ¬ (c.toNat : Int) = 92) := all_bytes (by decide +kernel)
        have e := e c h
        by_cases e1 : decide ((33 : Int) ≤ (c.toNat : Int) ∧ (c.toNat : Int) ≤ 126) = true
        · rw [if_pos e1]
          by_cases e2 : (c.toNat : Int) = 34
          · rw [if_pos e2]
          · rw [if_neg e2]
            by_cases e3 : (c.toNat : Int) = 39
            · rw [if_pos e3]
            · rw [if_neg e3]
              by_cases e4 : (c.toNat : Int) = 44
              · rw [if_pos e4]
              · rw [if_neg e4]
                by_cases e5 : (c.toNat : Int) = 92
                · rw [if_pos e5]
                · exact absurd ⟨e1, e2, e3, e4, e5⟩ e
        · rw [if_neg e1]
      · rw [drop_at _ _ hi, List.all_cons]; simp only [Bool.not_eq_true] at h; rw [h]; exact Ev.now _
end Go.Proofs.Ytjjpiioagoeiiaa.U
