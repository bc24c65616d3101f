/- The program's Unseal and the reference's Unseal return the same, for every text. -/
import Derived.Test.YtjhlppbiahopkaaSealM
import Derived.Test.YtjhlppbiahopkaaQx12
import Derived.Test.YtjhlppbiahopkaaQx11
namespace Go.Proofs.Ytjhlppbiahopkaa.Pure
set_option linter.unusedVariables false
set_option linter.unusedSimpArgs false
open Go Go.RowKit Go.Proofs.Ytjhlppbiahopkaa.Q Go.Proofs.YtjhlppbiahopkaaW.PrintWords Go.Proofs.YtjhlppbiahopkaaW.PrintLast Go.Proofs.YtjhlppbiahopkaaW.PrintMore
theorem split4 (s t : ByteArray) (h : ¬ s.size < 4) (ht : t.size = 4) : (s.extract 0 (s.size - 4) ++ t = s) ↔ t = s.extract (s.size - 4) s.size := by
  have e : s.extract 0 (s.size - 4) ++ s.extract (s.size - 4) s.size = s := by
    rw [ByteArray.extract_append_extract, Nat.min_eq_left (by omega), Nat.max_eq_right (by omega)]; simp
  constructor
  · intro he
    have : s.extract 0 (s.size - 4) ++ t = s.extract 0 (s.size - 4) ++ s.extract (s.size - 4) s.size := he.trans e.symm
    exact ByteArray.append_right_inj _ |>.1 this
  · intro he
    rw [he]; exact e
theorem FnExactUnseal : laws_FnExactUnseal.Pure := by
  intro s hs
  refine Ev.rounds ?_
  unfold laws_FnExactUnseal.f impl_Unseal.f spec_Unseal.f
  by_cases a : (s.size : Int) > 1048576
  · simp only [if_pos a]; exact Ev.now _
  · simp only [if_neg a]
    by_cases b : (s.size : Int) > 8000
    · simp only [if_pos b, Option.bind_some]
      simp only [laws_eqTextOut.f, if_true, Option.bind_some]; exact Ev.now _
    · simp only [if_neg b]
      by_cases h : s.size < 4
      · have := implUnseal s hs
        rw [if_pos h] at this
        simp only [if_pos (show (s.size : Int) < 4 by omega), Option.bind_some]
        refine Ev.bind (Ev.bind this (Ev.now _)) ?_
        simp only [laws_eqTextOut.f, if_true, Option.bind_some]; exact Ev.now _
      · have e : wrap64 ((s.size : Int) - 4) = ((s.size - 4 : Nat) : Int) := by rw [wrap64_id (by omega) (by omega)]; omega
        have hi := implUnseal s hs
        rw [if_neg h] at hi
        simp only [if_neg (show ¬ (s.size : Int) < 4 by omega), e, Int.toNat_natCast, if_pos (show (0 : Int) ≤ ((s.size - 4 : Nat) : Int) by omega), if_pos (show ((s.size - 4 : Nat) : Int) ≤ (s.size : Int) by omega)]
        have hc := crcM_lt (0 : Int).toNat (s.extract 0 (s.size - 4))
        refine Ev.bind (a := if sealM (s.extract 0 (s.size - 4)) = s then (s.extract 0 (s.size - 4), 0, 0) else (⟨#[]⟩, 0, 5)) (Ev.bind (specCrc (s.extract 0 (s.size - 4)) 0 (by simp; omega) (by omega) (by omega)) (Ev.bind1 (specFour _) (Ev.const ?_))) (Ev.bind (Ev.bind hi (Ev.now _)) ?_)
        · have key := split4 s (four (crcM 0 (s.extract 0 (s.size - 4)))) h (four_size _)
          by_cases hq : sealM (s.extract 0 (s.size - 4)) = s
          · rw [if_pos hq, if_pos]
            rw [← key.1 hq]; rfl
          · rw [if_neg hq, if_neg]
            intro he
            exact hq (key.2 (toList_inj he))
        · by_cases hq : sealM (s.extract 0 (s.size - 4)) = s
          · simp only [if_pos hq, laws_eqTextOut.f, if_true, Option.bind_some]; exact Ev.now _
          · simp only [if_neg hq, laws_eqTextOut.f, if_true, Option.bind_some]; exact Ev.now _
end Go.Proofs.Ytjhlppbiahopkaa.Pure
