/- The program's FreeOf and the reference's FreeOf return the same list, for all lists; the lists stay as they were, the result is new memory. -/
import Derived.Test.YthlcpdmbeiaidaaFree
import Derived.Test.YthlcpdmbeiaidaaQx8
import Derived.Test.YthlcpdmbeiaidaaQx7
namespace Go.Proofs.Ythlcpdmbeiaidaa.Pure
set_option linter.unusedVariables false
set_option linter.unusedSimpArgs false
open Go Go.RowKit Go.Proofs.Ythlcpdmbeiaidaa.Q Go.Proofs.YthlcpdmbeiaidaaW.PrintWords Go.Proofs.YthlcpdmbeiaidaaW.PrintLast Go.Proofs.YthlcpdmbeiaidaaW.PrintMore
def freeOut (a b : List Int) : List Int := if rises a = true ∧ rises b = true then freeM a b else []
theorem freeOut_length (a b : List Int) : (freeOut a b).length ≤ 24 := by
  unfold freeOut; split
  · exact freeM_length a b
  · simp
theorem implFreeOf (a b : List Int) (ha : a.length < 9223372036854775807) (hb : b.length < 9223372036854775807) : Ev (fun k => impl_FreeOf.f k a b) (freeOut a b) := by
  unfold impl_FreeOf.f freeOut
  refine Ev.bind (implRight a ha) ?_
  by_cases h1 : rises a = true
  · simp only [if_pos h1]
    refine Ev.bind (implRight b hb) ?_
    by_cases h2 : rises b = true
    · simp only [if_pos h2, if_pos (show rises a = true ∧ rises b = true from ⟨h1, h2⟩)]
      exact Ev.bind (implFree a b ha hb h1 h2) (Ev.now _)
    · simp only [if_neg h2, if_neg (show ¬ (rises a = true ∧ rises b = true) from fun h => h2 h.2)]; exact Ev.now _
  · simp only [if_neg h1, if_neg (show ¬ (rises a = true ∧ rises b = true) from fun h => h1 h.1)]; exact Ev.now _
theorem specFreeOf (a b : List Int) (ha : a.length < 9223372036854775807) (hb : b.length < 9223372036854775807) : Ev (fun k => spec_FreeOf.f k a b) (freeOut a b) := by
  unfold spec_FreeOf.f freeOut
  refine Ev.bind (specRight a ha) ?_
  by_cases h1 : rises a = true
  · simp only [if_pos h1]
    refine Ev.bind (specRight b hb) ?_
    by_cases h2 : rises b = true
    · simp only [if_pos h2, if_pos (show rises a = true ∧ rises b = true from ⟨h1, h2⟩)]
      exact Ev.bind (specFree a b ha hb) (Ev.now _)
    · simp only [if_neg h2, if_neg (show ¬ (rises a = true ∧ rises b = true) from fun h => h2 h.2)]; exact Ev.now _
  · simp only [if_neg h1, if_neg (show ¬ (rises a = true ∧ rises b = true) from fun h => h1 h.1)]; exact Ev.now _
theorem FnExactFreeOf : laws_FnExactFreeOf.Pure := by
  intro a b _ h8 _ _ h8' _
  refine Ev.rounds ?_
  unfold laws_FnExactFreeOf.f
  by_cases g1 : (a.length : Int) > 1048576
  · simp only [if_pos g1]; exact Ev.now _
  · simp only [if_neg g1]
    by_cases g2 : (b.length : Int) > 1048576
    · simp only [if_pos g2]; exact Ev.now _
    · simp only [if_neg g2]
      have hl := freeOut_length a b
      have hi := implFreeOf a b (by omega) (by omega)
      refine Ev.bind (toInt a h8) (Ev.bind (toInt b h8') (Ev.bind (specFreeOf a b (by omega) (by omega)) (Ev.bind (toInt a h8) (Ev.bind (toInt b h8') (Ev.bind hi ?_)))))
      generalize freeOut a b = L at hl hi ⊢
      refine Ev.bind (eqInt L (by omega)) ?_
      simp only [if_true]
      refine Ev.bind (toInt a h8) (Ev.bind (eqInt a (by omega)) ?_)
      simp only [if_true]
      refine Ev.bind (toInt b h8') (Ev.bind (eqInt b (by omega)) ?_)
      simp only [if_true]
      refine Ev.bind (markInt a 1 (by omega) (by omega) (by omega)) (Ev.bind (markInt b _ (by omega) (by omega) (by omega)) ?_)
      simp only [if_neg (show ¬ (1 + (a.length : Int) + (b.length : Int)) < 0 by omega)]
      refine Ev.bind (eqInt L (by omega)) (Ev.step (fun k => by rw [laws_FnExactFreeOf.j0, if_neg (by decide)]) ?_)
      refine Ev.bind (markInt L 1 (by omega) (by omega) (by omega)) (Ev.bind (heldInt L.length 1 (by omega) (by omega) (by omega)) ?_)
      simp only [if_neg (show ¬ (1 + (L.length : Int)) < 0 by omega), if_true]
      refine Ev.bind (toInt a h8) (Ev.bind (toInt b h8') (Ev.bind hi (Ev.bind (eqInt L (by omega)) ?_)))
      simp only [if_true]
      refine Ev.bind (heldInt L.length 1 (by omega) (by omega) (by omega)) ?_
      simp only [if_neg (show ¬ (1 + (L.length : Int)) < 0 by omega), if_true]
      exact Ev.now _
end Go.Proofs.Ythlcpdmbeiaidaa.Pure
