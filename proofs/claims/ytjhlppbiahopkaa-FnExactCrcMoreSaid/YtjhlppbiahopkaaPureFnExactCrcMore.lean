/- The program's CrcMore and the reference's CrcMore return the same number, for every number and every text. -/
import Derived.Test.YtjhlppbiahopkaaCrc
import Derived.Test.YtjhlppbiahopkaaQx8
import Derived.Test.YtjhlppbiahopkaaQx7
namespace Go.Proofs.Ytjhlppbiahopkaa.Pure
open Go Go.RowKit Go.Proofs.Ytjhlppbiahopkaa.Q Go.Proofs.YtjhlppbiahopkaaW.PrintWords Go.Proofs.YtjhlppbiahopkaaW.PrintLast Go.Proofs.YtjhlppbiahopkaaW.PrintMore
theorem FnExactCrcMore : laws_FnExactCrcMore.Pure := by
  intro c s hc hs
  refine Ev.rounds ?_
  unfold laws_FnExactCrcMore.f impl_CrcMore.f spec_CrcMore.f impl_within.f
  by_cases a : (s.size : Int) > 1048576
  · simp only [if_pos a]; exact Ev.now _
  · simp only [if_neg a]
    by_cases b : (s.size : Int) > 8000
    · simp only [if_pos b, Option.bind_some, if_true]; exact Ev.now _
    · simp only [if_neg b]
      by_cases c0 : c < 0
      · simp only [if_pos c0, if_neg (show ¬ c ≥ 0 by omega), Option.bind_some, Bool.false_eq_true, if_false, if_true]; exact Ev.now _
      · by_cases c1 : c > 4294967295
        · simp only [if_neg c0, if_pos (show c ≥ 0 by omega), if_pos c1, decide_eq_false (show ¬ c ≤ 4294967295 by omega), Option.bind_some, Bool.false_eq_true, if_false, if_true]; exact Ev.now _
        · simp only [if_neg c0, if_pos (show c ≥ 0 by omega), if_neg c1, decide_eq_true (show c ≤ 4294967295 by omega), Option.bind_some, if_true]
          rw [Int.emod_eq_of_lt (by omega) (by omega)]
          refine Ev.bind (Ev.bind (specCrc s c hs (by omega) (by omega)) (Ev.now _)) (Ev.bind (Ev.bind (implCrc s c hs (by omega) (by omega)) (Ev.now _)) ?_)
          have := crcM_lt c.toNat s
          rw [if_pos (wrap64_id (by omega) (by omega))]; exact Ev.now _
end Go.Proofs.Ytjhlppbiahopkaa.Pure
