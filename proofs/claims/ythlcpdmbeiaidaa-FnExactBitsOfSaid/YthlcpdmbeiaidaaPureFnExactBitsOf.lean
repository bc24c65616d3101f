/- The program's BitsOf and the reference's BitsOf return the same number, for every list; the list stays as it was. -/
import Derived.Test.YthlcpdmbeiaidaaBits
import Derived.Test.YthlcpdmbeiaidaaQx6
namespace Go.Proofs.Ythlcpdmbeiaidaa.Pure
set_option linter.unusedVariables false
set_option linter.unusedSimpArgs false
open Go Go.RowKit Go.Proofs.Ythlcpdmbeiaidaa.Q Go.Proofs.YthlcpdmbeiaidaaW.PrintWords Go.Proofs.YthlcpdmbeiaidaaW.PrintLast Go.Proofs.YthlcpdmbeiaidaaW.PrintMore
theorem implBitsOf (l : List Int) (hl : l.length < 9223372036854775807) : Ev (fun k => impl_BitsOf.f k l) (if rises l = true then (mask l : Int) else -1) := by
  unfold impl_BitsOf.f
  refine Ev.bind (implRight l hl) ?_
  by_cases h : rises l = true
  · simp only [if_pos h]
    exact Ev.bind (implBits l hl h) (Ev.now _)
  · simp only [if_neg h]; exact Ev.now _
theorem FnExactBitsOf : laws_FnExactBitsOf.Pure := by
  intro l _ h8 _
  refine Ev.rounds ?_
  unfold laws_FnExactBitsOf.f
  by_cases a : (l.length : Int) > 1048576
  · simp only [if_pos a]; exact Ev.now _
  · simp only [if_neg a]
    refine Ev.bind (toInt l h8) (Ev.bind (specBits l (by omega)) (Ev.bind (toInt l h8) (Ev.bind (implBitsOf l (by omega)) ?_)))
    simp only [if_true]
    refine Ev.bind (toInt l h8) (Ev.bind (eqInt l (by omega)) ?_)
    simp only [if_true]
    exact Ev.now _
end Go.Proofs.Ythlcpdmbeiaidaa.Pure
