/- The program's ExtentsOf and the reference's ExtentsOf return the same runs, for every list; the list stays as it was, the result is new memory. -/
import Derived.Test.YthlcpdmbeiaidaaExtents
import Derived.Test.YthlcpdmbeiaidaaQx13
import Derived.Test.YthlcpdmbeiaidaaQx10
import Derived.Test.YthlcpdmbeiaidaaQx9
namespace Go.Proofs.Ythlcpdmbeiaidaa.Pure
set_option linter.unusedVariables false
set_option linter.unusedSimpArgs false
open Go Go.RowKit Go.Proofs.Ythlcpdmbeiaidaa.Q Go.Proofs.YthlcpdmbeiaidaaW.PrintWords Go.Proofs.YthlcpdmbeiaidaaW.PrintLast Go.Proofs.YthlcpdmbeiaidaaW.PrintMore
def runsOut (l : List Int) : List Ext := if rises l = true then runs l else []
theorem runsOut_length (l : List Int) : (runsOut l).length ≤ l.length := by
  unfold runsOut; split
  · exact runs_length l
  · simp
theorem implExtentsOf (l : List Int) (h : l.length < 9223372036854775807) : Ev (fun k => impl_ExtentsOf.f k l) (runsOut l) := by
  unfold impl_ExtentsOf.f runsOut
  refine Ev.bind (implRight l h) ?_
  by_cases h1 : rises l = true
  · simp only [if_pos h1]; exact Ev.bind (implRuns l h1) (Ev.now _)
  · simp only [if_neg h1]; exact Ev.now _
theorem specExtentsOf (l : List Int) (h : l.length < 9223372036854775807) : Ev (fun k => spec_ExtentsOf.f k l) (runsOut l) := by
  unfold spec_ExtentsOf.f runsOut
  refine Ev.bind (specRight l h) ?_
  by_cases h1 : rises l = true
  · simp only [if_pos h1]; exact Ev.bind (specRuns l h1) (Ev.now _)
  · simp only [if_neg h1]; exact Ev.now _
theorem FnExactExtentsOf : laws_FnExactExtentsOf.Pure := by
  intro l _ h8 _
  refine Ev.rounds ?_
  unfold laws_FnExactExtentsOf.f
  by_cases g1 : (l.length : Int) > 1048576
  · simp only [if_pos g1]; exact Ev.now _
  · simp only [if_neg g1]
    have hl := runsOut_length l
    have hi := implExtentsOf l (by omega)
    refine Ev.bind (toInt l h8) (Ev.bind (specExtentsOf l (by omega)) (Ev.bind (toInt l h8) (Ev.bind hi ?_)))
    generalize runsOut l = L at hl hi ⊢
    refine Ev.bind (eqExt L (by omega)) ?_
    simp only [if_true]
    refine Ev.bind (toInt l h8) (Ev.bind (eqInt l (by omega)) ?_)
    simp only [if_true]
    refine Ev.bind (markInt l 1 (by omega) (by omega) (by omega)) ?_
    simp only [if_neg (show ¬ (1 + (l.length : Int)) < 0 by omega)]
    refine Ev.bind (eqExt L (by omega)) (Ev.step (fun k => by rw [laws_FnExactExtentsOf.j0, if_neg (by decide)]) ?_)
    refine Ev.bind (markExt L 1 (by omega) (by omega) (by omega)) (Ev.bind (heldExt L.length 1 (by omega) (by omega) (by omega)) ?_)
    simp only [if_neg (show ¬ (1 + 2 * (L.length : Int)) < 0 by omega), if_true]
    refine Ev.bind (toInt l h8) (Ev.bind hi (Ev.bind (eqExt L (by omega)) ?_))
    simp only [if_true]
    refine Ev.bind (heldExt L.length 1 (by omega) (by omega) (by omega)) ?_
    simp only [if_neg (show ¬ (1 + 2 * (L.length : Int)) < 0 by omega), if_true]
    exact Ev.now _
end Go.Proofs.Ythlcpdmbeiaidaa.Pure
