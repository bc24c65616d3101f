/- The program's FromBits and the reference's FromBits return the same list, for every whole number; the result is new memory. -/
import Derived.Test.YthlcpdmbeiaidaaBits
import Derived.Test.YthlcpdmbeiaidaaQx5
import Derived.Test.YthlcpdmbeiaidaaQx4
namespace Go.Proofs.Ythlcpdmbeiaidaa.Pure
set_option linter.unusedVariables false
set_option linter.unusedSimpArgs false
open Go Go.RowKit Go.Proofs.Ythlcpdmbeiaidaa.Q Go.Proofs.YthlcpdmbeiaidaaW.PrintWords Go.Proofs.YthlcpdmbeiaidaaW.PrintLast Go.Proofs.YthlcpdmbeiaidaaW.PrintMore
theorem implFromBits (x : Int) : Ev (fun k => impl_FromBits.f k x) (if x < 0 ∨ x ≥ 16777216 then [] else bitList x.toNat) := by
  unfold impl_FromBits.f
  rw [within_eq]
  simp only [Option.bind_some]
  by_cases h : x < 0 ∨ x ≥ 16777216
  · simp only [if_pos h, decide_eq_false (show ¬ (0 ≤ x ∧ x ≤ 16777215) by omega), Bool.false_eq_true, if_false]; exact Ev.now _
  · simp only [if_neg h, decide_eq_true (show 0 ≤ x ∧ x ≤ 16777215 by omega), if_true]
    exact Ev.bind (implFrom x (by omega) (by omega)) (Ev.now _)
theorem FnExactFromBits : laws_FnExactFromBits.Pure := by
  intro x _
  refine Ev.rounds ?_
  unfold laws_FnExactFromBits.f
  refine Ev.bind (specFrom x) (Ev.bind (implFromBits x) ?_)
  have hlen : (if x < 0 ∨ x ≥ 16777216 then [] else bitList x.toNat).length ≤ 24 := by
    split
    · simp
    · exact bitList_length _
  have hi := implFromBits x
  generalize (if x < 0 ∨ x ≥ 16777216 then [] else bitList x.toNat) = L at hlen hi ⊢
  refine Ev.bind (eqInt L (by omega)) ?_
  simp only [if_true]
  refine Ev.bind (markInt L 1 (by omega) (by omega) (by omega)) (Ev.bind (heldInt L.length 1 (by omega) (by omega) (by omega)) ?_)
  simp only [if_neg (show ¬ (1 + (L.length : Int)) < 0 by omega), if_true]
  refine Ev.bind hi (Ev.bind (eqInt L (by omega)) ?_)
  simp only [if_true]
  refine Ev.bind (heldInt L.length 1 (by omega) (by omega) (by omega)) ?_
  simp only [if_neg (show ¬ (1 + (L.length : Int)) < 0 by omega), if_true]
  exact Ev.now _
end Go.Proofs.Ythlcpdmbeiaidaa.Pure
