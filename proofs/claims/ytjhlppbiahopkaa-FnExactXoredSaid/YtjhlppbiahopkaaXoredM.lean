/- Blocks exclusive-ored: what the program's xored and the reference's Xored compute. Conditions: the sizes told. -/
import Derived.Test.YtjhlppbiahopkaaBase
import Derived.Test.YtjhlppbiahopkaaQx1
namespace Go.Proofs.Ytjhlppbiahopkaa.Pure
set_option linter.unusedVariables false
set_option linter.unusedSimpArgs false
open Go Go.RowKit Go.Proofs.Ytjhlppbiahopkaa.Q Go.Proofs.YtjhlppbiahopkaaW.PrintWords Go.Proofs.YtjhlppbiahopkaaW.PrintLast Go.Proofs.YtjhlppbiahopkaaW.PrintMore
theorem xs_length (a b : ByteArray) : ∀ k, (impl_xored.xs a b k).length = k := by
  intro k
  induction k with
  | zero => rfl
  | succ k ih => simp [impl_xored.xs, ih]
def xorM (a b : ByteArray) : ByteArray := strOfNums (impl_xored.xs a b 8)
theorem implXored (a b : ByteArray) (ha : a.size = 8) (hb : b.size = 8) : impl_xored.f a b = some (xorM a b) := by
  unfold impl_xored.f xorM
  rw [ha, if_pos ⟨by omega, by omega⟩]
theorem specXored_l0 (a b : ByteArray) (ha : a.size = 8) (hb : b.size = 8) (d : Nat) : ∀ i : Nat, i + d = 8 →
    Ev (fun k => spec_Xored.l0 k a b (impl_xored.xs a b i ++ List.replicate d 0) (i : Int)) (xorM a b) := by
  induction d with
  | zero =>
    intro i h
    obtain rfl : i = 8 := by omega
    exact Ev.step (fun k => by rw [spec_Xored.l0, if_neg (by omega), List.replicate_zero, List.append_nil]; rfl) (Ev.now _)
  | succ d ih =>
    intro i h
    have := ih (i + 1) (by omega)
    refine Ev.step (fun k => ?_) this
    have e1 : wrap64 ((i : Int) + 1) = ((i + 1 : Nat) : Int) := by rw [wrap64_id (by omega) (by omega)]; omega
    have e2 : (impl_xored.xs a b i ++ (0 : Int) :: List.replicate d 0).set (i : Int).toNat (Go.bits .xor .u8 (bt a i) (bt b i)) = impl_xored.xs a b (i + 1) ++ List.replicate d 0 := by
      have hl := xs_length a b i
      rw [impl_xored.xs, List.append_assoc, Int.toNat_natCast]
      conv => lhs; rw [show i = (impl_xored.xs a b i).length from hl.symm]
      simp [hl]
    have hlen : ((impl_xored.xs a b i ++ List.replicate (d + 1) (0 : Int)).length : Int) = 8 := by
      rw [List.length_append, xs_length, List.length_replicate]; omega
    rw [spec_Xored.l0, if_pos (by omega), if_pos (by omega), if_pos (by omega), if_pos (by omega), hlen, if_pos (by omega), List.replicate_succ, e2, e1]
theorem specXored (a b : ByteArray) : Ev (fun k => spec_Xored.f k a b) (if a.size = 8 ∧ b.size = 8 then xorM a b else ⟨#[]⟩) := by
  unfold spec_Xored.f
  by_cases ha : a.size = 8
  · simp only [if_pos (show (a.size : Int) = 8 by omega)]
    by_cases hb : b.size = 8
    · rw [if_pos ⟨ha, hb⟩, show ((b.size : Int) != 8) = false by simp [hb]]
      have := specXored_l0 a b ha hb 8 0 rfl
      exact Ev.step (fun k => by rw [spec_Xored.j0, if_neg (by decide), if_pos (by decide)]; rfl) this
    · rw [if_neg (fun h => hb h.2), show ((b.size : Int) != 8) = true by simp; omega]
      exact Ev.step (fun k => by rw [spec_Xored.j0, if_pos rfl]) (Ev.now _)
  · simp only [if_neg (show ¬ (a.size : Int) = 8 by omega)]
    rw [if_neg (fun h => ha h.1)]
    exact Ev.step (fun k => by rw [spec_Xored.j0, if_pos rfl]) (Ev.now _)
end Go.Proofs.Ytjhlppbiahopkaa.Pure
