/- The program's Crc and the reference's Crc return the same number, for every text. -/
import Derived.Test.YtjhlppbiahopkaaCrc
import Derived.Test.YtjhlppbiahopkaaQx7
namespace Go.Proofs.Ytjhlppbiahopkaa.Pure
open Go Go.RowKit Go.Proofs.Ytjhlppbiahopkaa.Q Go.Proofs.YtjhlppbiahopkaaW.PrintWords Go.Proofs.YtjhlppbiahopkaaW.PrintLast Go.Proofs.YtjhlppbiahopkaaW.PrintMore
theorem FnExactCrc : laws_FnExactCrc.Pure := by
  intro s hs
  refine Ev.rounds ?_
  unfold laws_FnExactCrc.f impl_Crc.f spec_Crc.f
  by_cases a : (s.size : Int) > 1048576
  · simp only [if_pos a]; exact Ev.now _
  · simp only [if_neg a]
    by_cases b : (s.size : Int) > 8000
    · simp only [if_pos b, Option.bind_some, if_true]; exact Ev.now _
    · simp only [if_neg b]
      refine Ev.bind (Ev.bind (specCrc s 0 hs (by omega) (by omega)) (Ev.now _)) (Ev.bind (Ev.bind (implCrc s 0 hs (by omega) (by omega)) (Ev.now _)) ?_)
      have := crcM_lt (0 : Int).toNat s
      rw [if_pos (wrap64_id (by omega) (by omega))]; exact Ev.now _
end Go.Proofs.Ytjhlppbiahopkaa.Pure
