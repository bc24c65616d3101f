/- The program's Seal and the reference's Seal return the same text, for every text. -/
import Derived.Test.YtjhlppbiahopkaaSealM
import Derived.Test.YtjhlppbiahopkaaQx8
namespace Go.Proofs.Ytjhlppbiahopkaa.Pure
open Go Go.RowKit Go.Proofs.Ytjhlppbiahopkaa.Q Go.Proofs.YtjhlppbiahopkaaW.PrintWords Go.Proofs.YtjhlppbiahopkaaW.PrintLast Go.Proofs.YtjhlppbiahopkaaW.PrintMore
theorem FnExactSeal : laws_FnExactSeal.Pure := by
  intro s hs
  refine Ev.rounds ?_
  unfold laws_FnExactSeal.f impl_Seal.f spec_Seal.f
  by_cases a : (s.size : Int) > 1048576
  · simp only [if_pos a]; exact Ev.now _
  · simp only [if_neg a]
    by_cases b : (s.size : Int) > 7996
    · simp only [if_pos b, Option.bind_some, if_true]; exact Ev.now _
    · simp only [if_neg b]
      refine Ev.bind (a := sealM s) (Ev.bind (specCrc s 0 hs (by omega) (by omega)) (Ev.bind1 (specFour _) (Ev.const (if_pos (by rw [four_size]; omega))))) (Ev.bind (Ev.bind (implSeal s hs) (Ev.now _)) ?_)
      simp only [if_true]; exact Ev.now _
end Go.Proofs.Ytjhlppbiahopkaa.Pure
