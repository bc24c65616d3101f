/- The program's StepRight and the reference's StepRight return the same, for every step and every number of blocks. -/
import Derived.Test.YtholfbdbgginpaaOpen
import Derived.Test.YtholfbdbgginpaaStepM
import Derived.Test.YtholfbdbgginpaaQx3
import Derived.Test.YtholfbdbgginpaaQx1
namespace Go.Proofs.Ytholfbdbgginpaa.Pure
set_option linter.unusedVariables false
set_option linter.unusedSimpArgs false
open Go Go.RowKit Go.Proofs.Ytholfbdbgginpaa.Q Go.Proofs.Ytholfbdbgginpaa.Open Go.Proofs.YtholfbdbgginpaaW.PrintWords Go.Proofs.YtholfbdbgginpaaW.PrintLast Go.Proofs.YtholfbdbgginpaaW.PrintMore
theorem FnExactStepRight : ∀ (k b c : Int) (d : ByteArray) (n : Int), (okInt .i64 k ∧ okInt .i64 b ∧ okInt .i64 c ∧ okStr d) → (Lit.int .i64 n).wf = true → ∃ m, laws_FnExactStepRight.f m k b c d n = some true := by
  intro k b c d n ok hn
  refine Ev.rounds ?_
  have hd : d.size ≤ 9223372036854775807 := Nat.le_trans ok.2.2.2 (by decide)
  unfold laws_FnExactStepRight.f laws_szStep.f laws_toStep.f
  rw [wrap64_id (n := 1048576 - (d.size : Int)) (by omega) (by omega)]
  by_cases g : 1048576 - (d.size : Int) < 0
  · simp only [if_pos g, Option.bind_some, show (-1 : Int) < 0 by decide, if_true]; exact Ev.now _
  · simp only [if_neg g, Option.bind_some]
    by_cases h : 1 ≤ n ∧ n ≤ 8
    · rw [specStep k b c d n h]
      simp only [Option.bind_some]
      refine Ev.bind (a := stepM k b c d n) ?_ ?_
      · unfold impl_StepRight.f impl_isBlocks.f
        rw [within_eq]
        simp only [Option.bind_some, decide_eq_true h, if_true]
        exact Ev.bind (implStep k b c d n h) (Ev.now _)
      · simp only [bne_self_eq_false, Bool.false_eq_true, if_false]; exact Ev.now _
    · have e : spec_StepRight.f k b c d n = some false := by
        unfold spec_StepRight.f
        rw [l03Is_eq, Option.bind_some, decide_eq_false h, if_neg (by decide)]
      rw [e]
      simp only [Option.bind_some]
      refine Ev.bind (a := false) ?_ ?_
      · unfold impl_StepRight.f impl_isBlocks.f
        rw [within_eq]
        simp only [Option.bind_some, decide_eq_false h, Bool.false_eq_true, if_false]
        exact Ev.now _
      · simp only [bne_self_eq_false, Bool.false_eq_true, if_false]; exact Ev.now _
end Go.Proofs.Ytholfbdbgginpaa.Pure
