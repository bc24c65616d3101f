/- Seals: what the program's seal and unseal compute, by crcM. No conditions but the widths. -/
import Derived.Test.YtjhlppbiahopkaaCrc
import Derived.Test.YtjhlppbiahopkaaQx8
import Derived.Test.YtjhlppbiahopkaaQx11
namespace Go.Proofs.Ytjhlppbiahopkaa.Pure
set_option linter.unusedVariables false
set_option linter.unusedSimpArgs false
open Go Go.RowKit Go.Proofs.Ytjhlppbiahopkaa.Q Go.Proofs.YtjhlppbiahopkaaW.PrintWords Go.Proofs.YtjhlppbiahopkaaW.PrintLast Go.Proofs.YtjhlppbiahopkaaW.PrintMore
/-- Four bytes of a number, the least one first. -/
def four (n : Nat) : ByteArray := strOfNums [((n % 256 : Nat) : Int), ((n / 256 % 256 : Nat) : Int), ((n / 65536 % 256 : Nat) : Int), ((n / 16777216 % 256 : Nat) : Int)]
theorem four_size (n : Nat) : (four n).size = 4 := by simp [four, strOfNums_size]
def sealM (s : ByteArray) : ByteArray := s ++ four (crcM 0 s)
theorem sealM_size (s : ByteArray) : (sealM s).size = s.size + 4 := by simp [sealM, four_size]
theorem specFour (n : Nat) : spec_l01Four.f (n : Int) = some (four n) := by
  unfold spec_l01Four.f four
  have e1 : (n : Int) / 256 % 256 = ((n / 256 % 256 : Nat) : Int) := by omega
  have e2 : (n : Int) / 65536 % 256 = ((n / 65536 % 256 : Nat) : Int) := by omega
  have e3 : (n : Int) / 16777216 % 256 = ((n / 16777216 % 256 : Nat) : Int) := by omega
  rw [e1, e2, e3]; rfl
theorem implSeal (s : ByteArray) (hs : s.size ≤ 140737488351232) : Ev (fun k => impl_seal.f k s) (sealM s) := by
  unfold impl_seal.f
  refine Ev.bind (implCrc s 0 hs (by omega) (by omega)) ?_
  have e : (some ([((crcM (0 : Int).toNat s : Nat) : Int) % 256, ((crcM (0 : Int).toNat s : Nat) : Int) / 256 % 256, ((crcM (0 : Int).toNat s : Nat) : Int) / 65536 % 256, ((crcM (0 : Int).toNat s : Nat) : Int) / 16777216 % 256] : List Int)).map strOfNums = some (four (crcM 0 s)) := specFour (crcM 0 s)
  simp only [Option.map_some, Option.some.injEq] at e
  simp only [Option.bind_some]
  rw [e, if_pos (by rw [four_size]; omega)]
  exact Ev.now _
theorem extract_left (a b : ByteArray) : (a ++ b).extract 0 a.size = a := ByteArray.extract_append_eq_left rfl
theorem implUnseal (s : ByteArray) (hs : s.size ≤ 140737488351232) : Ev (fun k => impl_unseal.f k s)
    (if s.size < 4 then (⟨#[]⟩, 4) else if sealM (s.extract 0 (s.size - 4)) = s then (s.extract 0 (s.size - 4), 0) else (⟨#[]⟩, 5)) := by
  unfold impl_unseal.f
  by_cases h : s.size < 4
  · simp only [if_pos h, if_pos (show (s.size : Int) < 4 by omega)]; exact Ev.now _
  · have e : wrap64 ((s.size : Int) - 4) = ((s.size - 4 : Nat) : Int) := by rw [wrap64_id (by omega) (by omega)]; omega
    simp only [if_neg h, if_neg (show ¬ (s.size : Int) < 4 by omega), e, Int.toNat_natCast, if_pos (show (0 : Int) ≤ ((s.size - 4 : Nat) : Int) by omega), if_pos (show ((s.size - 4 : Nat) : Int) ≤ (s.size : Int) by omega)]
    refine Ev.bind (implSeal (s.extract 0 (s.size - 4)) (by simp; omega)) ?_
    by_cases hq : sealM (s.extract 0 (s.size - 4)) = s
    · simp only [if_pos hq]
      rw [if_pos (by rw [hq])]; exact Ev.now _
    · simp only [if_neg hq]
      rw [if_neg (fun he => hq (toList_inj he))]; exact Ev.now _
/-- A text's seal is taken apart again. -/
theorem unseal_sealM (t : ByteArray) : ¬ (sealM t).size < 4 ∧ (sealM t).extract 0 ((sealM t).size - 4) = t := by
  have h := sealM_size t
  refine ⟨by omega, ?_⟩
  rw [h, Nat.add_sub_cancel]
  exact extract_left t _
end Go.Proofs.Ytjhlppbiahopkaa.Pure
