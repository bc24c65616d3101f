/- The program's GetNum and the reference's GetNum return the same, for every text and every offset. -/
import Derived.Test.YtjhlppbiahopkaaGetNum
import Derived.Test.YtjhlppbiahopkaaQx11
import Derived.Test.YtjhlppbiahopkaaQx10
namespace Go.Proofs.Ytjhlppbiahopkaa.Pure
set_option linter.unusedVariables false
set_option linter.unusedSimpArgs false
open Go Go.RowKit Go.Proofs.Ytjhlppbiahopkaa.Q Go.Proofs.YtjhlppbiahopkaaW.PrintWords Go.Proofs.YtjhlppbiahopkaaW.PrintLast Go.Proofs.YtjhlppbiahopkaaW.PrintMore
theorem FnExactGetNum : laws_FnExactGetNum.Pure := by
  intro s a hs ha
  refine Ev.rounds ?_
  unfold laws_FnExactGetNum.f
  by_cases h : (s.size : Int) > 1048576
  · simp only [if_pos h]; exact Ev.now _
  · simp only [if_neg h]
    refine Ev.bind (specGet s a hs) (Ev.bind (a := if (s.size : Int) > 8000 then (0, 0, 2) else if a < 0 then (0, 0, 1) else getM s a) ?_ ?_)
    · unfold impl_GetNum.f
      by_cases b : (s.size : Int) > 8000
      · simp only [if_pos b]; exact Ev.now _
      · simp only [if_neg b]
        exact Ev.bind (implGet s a hs) (Ev.now _)
    · simp only [laws_eqNumOut.f, if_true, Option.bind_some]; exact Ev.now _
end Go.Proofs.Ytjhlppbiahopkaa.Pure
