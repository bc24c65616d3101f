/- The program's ListRight and the reference's ListRight return the same answer, for every list; the list stays as it was. -/
import Derived.Test.YthlcpdmbeiaidaaArea
import Derived.Test.YthlcpdmbeiaidaaQx3
namespace Go.Proofs.Ythlcpdmbeiaidaa.Pure
set_option linter.unusedVariables false
set_option linter.unusedSimpArgs false
open Go Go.RowKit Go.Proofs.Ythlcpdmbeiaidaa.Q Go.Proofs.YthlcpdmbeiaidaaW.PrintWords Go.Proofs.YthlcpdmbeiaidaaW.PrintLast Go.Proofs.YthlcpdmbeiaidaaW.PrintMore
theorem FnExactListRight : laws_FnExactListRight.Pure := by
  intro l _ h8 _
  refine Ev.rounds ?_
  unfold laws_FnExactListRight.f impl_ListRight.f
  by_cases a : (l.length : Int) > 1048576
  · simp only [if_pos a]; exact Ev.now _
  · simp only [if_neg a]
    refine Ev.bind (toInt l h8) (Ev.bind (specRight l (by omega)) (Ev.bind (toInt l h8) (Ev.bind (Ev.bind (implRight l (by omega)) (Ev.now _)) ?_)))
    simp only [bne_self_eq_false, Bool.false_eq_true, if_false]
    refine Ev.bind (toInt l h8) (Ev.bind (eqInt l (by omega)) ?_)
    simp only [if_true]
    exact Ev.now _
end Go.Proofs.Ythlcpdmbeiaidaa.Pure
