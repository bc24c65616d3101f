/- Whether a step is right: what the program's isStep and the reference's StepRight compute. Conditions: one to eight blocks. -/
import Derived.Test.YtholfbdbgginpaaWithin
import Derived.Test.YtholfbdbgginpaaQx2
import Derived.Test.YtholfbdbgginpaaQx1
namespace Go.Proofs.Ytholfbdbgginpaa.Pure
set_option linter.unusedVariables false
set_option linter.unusedSimpArgs false
open Go Go.RowKit Go.Proofs.Ytholfbdbgginpaa.Q Go.Proofs.YtholfbdbgginpaaW.PrintWords Go.Proofs.YtholfbdbgginpaaW.PrintLast Go.Proofs.YtholfbdbgginpaaW.PrintMore
def emp (d : ByteArray) : Bool := d.toList == ([] : List UInt8)
def e8 (d : ByteArray) : Bool := (d.size : Int) == 8
def inr (x hi : Int) : Bool := decide (0 ≤ x ∧ x ≤ hi)
def stepM (k b c : Int) (d : ByteArray) (n : Int) : Bool :=
  if k = 1 then inr b (n - 1) && (c == 0) && emp d
  else if k = 2 then inr b (n - 1) && (c == 0) && e8 d
  else if k = 3 then inr b (n - 1) && inr c (n - 1) && emp d
  else if k = 4 then inr b (n - 1) && inr c (n - 1) && e8 d
  else if k = 5 then (b == 0) && inr c 1000000 && emp d
  else false
theorem specStep (k b c : Int) (d : ByteArray) (n : Int) (h : 1 ≤ n ∧ n ≤ 8) : spec_StepRight.f k b c d n = some (stepM k b c d n) := by
  unfold spec_StepRight.f stepM inr emp e8
  rw [wrap64_id (n := n - 1) (by omega) (by omega)]
  simp only [l03Is_eq, Option.bind_some, decide_eq_true h, if_true]
  generalize decide (0 ≤ b ∧ b ≤ n - 1) = t1
  generalize decide (0 ≤ c ∧ c ≤ n - 1) = t2
  generalize decide (0 ≤ c ∧ c ≤ 1000000) = t3
  generalize (d.toList == ([] : List UInt8)) = t4
  generalize ((d.size : Int) == 8) = t5
  have q : ∀ x y : Int, (x == y) = decide (x = y) := fun x y => by rw [Bool.eq_iff_iff]; simp
  by_cases k1 : k = 1
  · simp only [if_pos k1, q]; by_cases hc : c = 0 <;> cases t1 <;> simp [hc]
  · simp only [if_neg k1]
    by_cases k2 : k = 2
    · simp only [if_pos k2, q]; by_cases hc : c = 0 <;> cases t1 <;> simp [hc]
    · simp only [if_neg k2]
      by_cases k3 : k = 3
      · simp only [if_pos k3]; cases t1 <;> cases t2 <;> simp
      · simp only [if_neg k3]
        by_cases k4 : k = 4
        · simp only [if_pos k4]; cases t1 <;> cases t2 <;> simp
        · simp only [if_neg k4]
          by_cases k5 : k = 5
          · simp only [if_pos k5, q]; by_cases hb : b = 0 <;> cases t3 <;> simp [hb]
          · simp only [if_neg k5]
def j3M (k b c : Int) (x5 x6 x7 : Bool) : Bool := if k = 5 then (b == 0) && inr c 1000000 && x7 else decide (1 ≤ k ∧ k ≤ 5) && x5 && x6 && x7
theorem isStep_j3 (k b c : Int) (d : ByteArray) (x5 x6 x7 : Bool) : Ev (fun m => impl_isStep.j3 m x5 x6 x7 k b c d) (j3M k b c x5 x6 x7) := by
  refine Ev.step (fun m => by rw [impl_isStep.j3, impl_isTime.f, within_eq, within_eq]) ?_
  simp only [Option.bind_some]
  unfold j3M inr
  generalize decide (0 ≤ c ∧ c ≤ 1000000) = t3
  by_cases k5 : k = 5
  · simp only [if_pos k5, decide_eq_true (show 1 ≤ k ∧ k ≤ 5 by omega), if_true]
    by_cases hb : b = 0
    · cases t3
      · simp only [if_pos hb, Bool.false_eq_true, if_false, Bool.and_false, Bool.false_and]; exact Ev.now _
      · simp only [if_pos hb, if_true, hb, beq_self_eq_true, Bool.true_and]; exact Ev.now _
    · simp only [if_neg hb, show (b == 0) = false from beq_eq_false_iff_ne.2 hb, Bool.false_and]; exact Ev.now _
  · simp only [if_neg k5]
    generalize decide (1 ≤ k ∧ k ≤ 5) = t1
    cases t1
    · simp only [Bool.false_eq_true, if_false, Bool.false_and]; exact Ev.now _
    · cases x5
      · simp only [Bool.false_eq_true, if_false, if_true, Bool.false_and, Bool.true_and]; exact Ev.now _
      · cases x6
        · simp only [Bool.false_eq_true, if_false, if_true, Bool.false_and, Bool.true_and]; exact Ev.now _
        · simp only [if_true, Bool.true_and]; exact Ev.now _
theorem isStep_j2 (k b c : Int) (d : ByteArray) (x5 x6 x7 x39 : Bool) : Ev (fun m => impl_isStep.j2 m x5 x6 x7 x39 k b c d) (j3M k b c x5 x6 (if x39 = true then e8 d else x7)) := by
  refine Ev.step (fun m => by rw [impl_isStep.j2]) ?_
  by_cases h : x39 = true
  · simp only [if_pos h]; exact isStep_j3 k b c d x5 x6 _
  · simp only [if_neg h]; exact isStep_j3 k b c d x5 x6 x7
theorem isStep_j1 (k b c : Int) (d : ByteArray) (x5 x6 x7 : Bool) : Ev (fun m => impl_isStep.j1 m x5 x6 x7 k b c d) (j3M k b c x5 x6 (if k = 2 ∨ k = 4 then e8 d else x7)) := by
  refine Ev.step (fun m => by rw [impl_isStep.j1]) ?_
  by_cases h : k = 2
  · simp only [if_pos h, if_pos (show k = 2 ∨ k = 4 from .inl h)]
    have := isStep_j2 k b c d x5 x6 x7 true
    simpa using this
  · simp only [if_neg h]
    have := isStep_j2 k b c d x5 x6 x7 (k == 4)
    by_cases h4 : k = 4
    · rw [if_pos (.inr h4)]; rw [if_pos (by simp [h4])] at this; exact this
    · rw [if_neg (by omega)]; rw [if_neg (by simp [h4])] at this; exact this
theorem isStep_j0 (k b c : Int) (d : ByteArray) (n : Int) (h : 1 ≤ n ∧ n ≤ 8) (x5 x6 x7 x26 : Bool) : Ev (fun m => impl_isStep.j0 m n x5 x6 x7 x26 k b c d) (j3M k b c x5 (if x26 = true then inr c (n - 1) else x6) (if k = 2 ∨ k = 4 then e8 d else x7)) := by
  refine Ev.step (fun m => by rw [impl_isStep.j0, wrap64_id (n := n - 1) (by omega) (by omega), within_eq]) ?_
  by_cases h : x26 = true
  · simp only [if_pos h, Option.bind_some]; exact isStep_j1 k b c d x5 _ x7
  · simp only [if_neg h]; exact isStep_j1 k b c d x5 x6 x7
theorem implStep (k b c : Int) (d : ByteArray) (n : Int) (h : 1 ≤ n ∧ n ≤ 8) : Ev (fun m => impl_isStep.f m k b c d n) (stepM k b c d n) := by
  have key : Ev (fun m => impl_isStep.j0 m n (inr b (n - 1)) (c == 0) (emp d) (decide (k = 3 ∨ k = 4)) k b c d) (stepM k b c d n) := by
    have := isStep_j0 k b c d n h (inr b (n - 1)) (c == 0) (emp d) (decide (k = 3 ∨ k = 4))
    have e : j3M k b c (inr b (n - 1)) (if decide (k = 3 ∨ k = 4) = true then inr c (n - 1) else (c == 0)) (if k = 2 ∨ k = 4 then e8 d else emp d) = stepM k b c d n := by
      unfold j3M stepM
      by_cases k1 : k = 1
      · subst k1; simp
      · by_cases k2 : k = 2
        · subst k2; simp
        · by_cases k3 : k = 3
          · subst k3; simp
          · by_cases k4 : k = 4
            · subst k4; simp
            · by_cases k5 : k = 5
              · subst k5; simp
              · rw [if_neg k5, if_neg k1, if_neg k2, if_neg k3, if_neg k4, if_neg k5, decide_eq_false (show ¬ (1 ≤ k ∧ k ≤ 5) by omega)]; simp
    rw [e] at this
    exact this
  unfold impl_isStep.f
  rw [wrap64_id (n := n - 1) (by omega) (by omega), within_eq]
  simp only [Option.bind_some]
  by_cases k3 : k = 3
  · simp only [if_pos k3]
    rw [decide_eq_true (show k = 3 ∨ k = 4 from .inl k3)] at key
    exact key
  · simp only [if_neg k3]
    rw [show decide (k = 3 ∨ k = 4) = (k == 4) by rw [Bool.eq_iff_iff]; simp [k3]] at key
    exact key
end Go.Proofs.Ytholfbdbgginpaa.Pure
