/- The program's PutText and the reference's PutText return the same text, for every text. -/
import Derived.Test.YtjhlppbiahopkaaPutNum
import Derived.Test.YtjhlppbiahopkaaQx7
namespace Go.Proofs.Ytjhlppbiahopkaa.Pure
open Go Go.RowKit Go.Proofs.Ytjhlppbiahopkaa.Q Go.Proofs.YtjhlppbiahopkaaW.PrintWords Go.Proofs.YtjhlppbiahopkaaW.PrintLast Go.Proofs.YtjhlppbiahopkaaW.PrintMore
theorem FnExactPutText : laws_FnExactPutText.Pure := by
  intro s hs
  refine Ev.rounds ?_
  unfold laws_FnExactPutText.f impl_PutText.f spec_PutText.f impl_putText.f
  have hw : (Lit.int .i64 (s.size : Int)).wf = true := by simp [Lit.wf, IntKind.min, IntKind.max, IntKind.signed, IntKind.bits]; omega
  have hz := (putN_size hw).2
  by_cases a : (s.size : Int) > 1048576
  · simp only [if_pos a]; exact Ev.now _
  · simp only [if_neg a]
    by_cases b : (s.size : Int) > 8000
    · simp only [if_pos b, Option.bind_some, if_true]; exact Ev.now _
    · simp only [if_neg b]
      refine Ev.bind (a := putN s.size ++ s) (Ev.bind (specPut hw) (Ev.const (if_pos (by omega)))) (Ev.bind (a := putN s.size ++ s) (Ev.bind (a := putN s.size ++ s) (Ev.bind (implPut hw) (Ev.const (if_pos (by omega)))) (Ev.now _)) ?_)
      simp only [if_true]; exact Ev.now _
end Go.Proofs.Ytjhlppbiahopkaa.Pure
