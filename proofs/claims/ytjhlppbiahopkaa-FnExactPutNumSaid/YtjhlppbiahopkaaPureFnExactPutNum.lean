/- The program's PutNum and the reference's PutNum return the same text, for every whole number of 64 bits. -/
import Derived.Test.YtjhlppbiahopkaaPutNum
import Derived.Test.YtjhlppbiahopkaaQx4
namespace Go.Proofs.Ytjhlppbiahopkaa.Pure
open Go Go.RowKit Go.Proofs.Ytjhlppbiahopkaa.Q Go.Proofs.YtjhlppbiahopkaaW.PrintWords Go.Proofs.YtjhlppbiahopkaaW.PrintLast Go.Proofs.YtjhlppbiahopkaaW.PrintMore

theorem FnExactPutNum : laws_FnExactPutNum.Pure := by
  intro n hn
  refine Ev.rounds ?_
  unfold laws_FnExactPutNum.f impl_PutNum.f
  refine Ev.bind (specPut hn) (Ev.bind (Ev.bind (implPut hn) (Ev.now _)) ?_)
  simp only [if_true]
  exact Ev.now _
end Go.Proofs.Ytjhlppbiahopkaa.Pure
