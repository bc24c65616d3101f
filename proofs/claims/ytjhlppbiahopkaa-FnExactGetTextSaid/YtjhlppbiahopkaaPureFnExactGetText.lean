/- The program's GetText and the reference's GetText return the same, for every text and every offset. -/
import Derived.Test.YtjhlppbiahopkaaGetText
import Derived.Test.YtjhlppbiahopkaaQx14
import Derived.Test.YtjhlppbiahopkaaQx12
import Derived.Test.YtjhlppbiahopkaaQx13
namespace Go.Proofs.Ytjhlppbiahopkaa.Pure
set_option linter.unusedVariables false
set_option linter.unusedSimpArgs false
open Go Go.RowKit Go.Proofs.Ytjhlppbiahopkaa.Q Go.Proofs.YtjhlppbiahopkaaW.PrintWords Go.Proofs.YtjhlppbiahopkaaW.PrintLast Go.Proofs.YtjhlppbiahopkaaW.PrintMore
theorem specGetText (s : ByteArray) (a : Int) (hs : s.size ≤ 140737488351232) : Ev (fun k => spec_GetText.f k s a) (if (s.size : Int) > 8000 then (⟨#[]⟩, 0, 2) else getTextM s a) := by
  unfold spec_GetText.f getTextM
  refine Ev.bind (specGet s a hs) ?_
  by_cases b : (s.size : Int) > 8000
  · simp only [if_pos b, if_neg (show ¬ (2 : Int) = 0 by decide)]; exact Ev.now _
  · simp only [if_neg b]
    by_cases h : a < 0
    · simp only [if_pos h, if_neg (show ¬ (1 : Int) = 0 by decide)]; exact Ev.now _
    · simp only [if_neg h]
      by_cases h0 : (getM s a).2.2 = 0
      · obtain ⟨⟨r0, r1⟩, r2, r3⟩ := getM_ok s a (by omega) h0
        simp only [if_pos h0]
        have key : Ev (fun k => spec_GetText.j0 k s (decide ((getM s a).1 < 0 ∨ (getM s a).1 > 8000)) (getM s a).1 (getM s a).2.1 (getM s a).2.2) (if (getM s a).1 < 0 ∨ (getM s a).1 > 8000 then ((⟨#[]⟩ : ByteArray), 0, 3)
            else if (getM s a).1 > (s.size : Int) - (getM s a).2.1 then (⟨#[]⟩, 0, 4)
            else (s.extract (getM s a).2.1.toNat ((getM s a).2.1 + (getM s a).1).toNat, (getM s a).2.1 + (getM s a).1, 0)) := by
          by_cases h1 : (getM s a).1 < 0 ∨ (getM s a).1 > 8000
          · rw [if_pos h1, decide_eq_true h1]
            exact Ev.step (fun k => by rw [spec_GetText.j0, if_pos rfl]) (Ev.now _)
          · rw [if_neg h1, decide_eq_false h1]
            refine Ev.step (fun k => by rw [spec_GetText.j0, if_neg (by decide)]) ?_
            rw [wrap64_id (n := (s.size : Int) - _) (by omega) (by omega)]
            by_cases h3 : (getM s a).2.1 > (s.size : Int) - (getM s a).1
            · simp only [if_pos h3]
              rw [if_pos (by omega)]; exact Ev.now _
            · simp only [if_neg h3]
              rw [if_neg (show ¬ (getM s a).1 > (s.size : Int) - (getM s a).2.1 by omega), wrap64_id (n := (getM s a).2.1 + (getM s a).1) (by omega) (by omega), if_pos (by omega), if_pos (by omega), if_pos (by omega)]
              exact Ev.now _
        by_cases h1 : (getM s a).1 < 0
        · simp only [if_pos h1]
          rw [show decide ((getM s a).1 < 0 ∨ (getM s a).1 > 8000) = true by simp; omega] at key
          exact key
        · simp only [if_neg h1]
          rw [show decide ((getM s a).1 < 0 ∨ (getM s a).1 > 8000) = decide ((getM s a).1 > 8000) by rw [Bool.eq_iff_iff]; simp [h1]] at key
          exact key
      · simp only [if_neg h0]; exact Ev.now _
theorem FnExactGetText : laws_FnExactGetText.Pure := by
  intro s a hs ha
  refine Ev.rounds ?_
  unfold laws_FnExactGetText.f
  by_cases h : (s.size : Int) > 1048576
  · simp only [if_pos h]; exact Ev.now _
  · simp only [if_neg h]
    refine Ev.bind (specGetText s a hs) (Ev.bind (a := if (s.size : Int) > 8000 then (⟨#[]⟩, 0, 2) else getTextM s a) ?_ ?_)
    · unfold impl_GetText.f
      by_cases b : (s.size : Int) > 8000
      · simp only [if_pos b]; exact Ev.now _
      · simp only [if_neg b]
        exact Ev.bind (implGetText s a hs) (Ev.now _)
    · simp only [laws_eqTextOut.f, if_true, Option.bind_some]; exact Ev.now _
end Go.Proofs.Ytjhlppbiahopkaa.Pure
