/- The program's Xored and the reference's Xored return the same text, for all texts. -/
import Derived.Test.YtjhlppbiahopkaaXoredM
import Derived.Test.YtjhlppbiahopkaaQx2
namespace Go.Proofs.Ytjhlppbiahopkaa.Pure
set_option linter.unusedVariables false
set_option linter.unusedSimpArgs false
open Go Go.RowKit Go.Proofs.Ytjhlppbiahopkaa.Q Go.Proofs.YtjhlppbiahopkaaW.PrintWords Go.Proofs.YtjhlppbiahopkaaW.PrintLast Go.Proofs.YtjhlppbiahopkaaW.PrintMore
theorem FnExactXored : laws_FnExactXored.Pure := by
  intro a b ha hb
  refine Ev.rounds ?_
  unfold laws_FnExactXored.f
  by_cases g1 : (a.size : Int) > 1048576
  · simp only [if_pos g1]; exact Ev.now _
  · simp only [if_neg g1]
    by_cases g2 : (b.size : Int) > 1048576
    · simp only [if_pos g2]; exact Ev.now _
    · simp only [if_neg g2]
      refine Ev.bind (specXored a b) (Ev.bind1 (a := if a.size = 8 ∧ b.size = 8 then xorM a b else ⟨#[]⟩) ?_ ?_)
      · unfold impl_Xored.f
        by_cases h1 : a.size = 8
        · rw [if_pos (show (a.size : Int) = 8 by omega)]
          by_cases h2 : b.size = 8
          · rw [if_pos (show (b.size : Int) = 8 by omega), if_pos ⟨h1, h2⟩, implXored a b h1 h2]; rfl
          · rw [if_neg (show ¬ (b.size : Int) = 8 by omega), if_neg (fun h => h2 h.2)]
        · rw [if_neg (show ¬ (a.size : Int) = 8 by omega), if_neg (fun h => h1 h.1)]
      · simp only [if_true]; exact Ev.now _
end Go.Proofs.Ytjhlppbiahopkaa.Pure
