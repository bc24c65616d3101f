/- The program's NameRight and the reference's NameRight return the same answer, for every text. -/
import Derived.Test.YtjhlppbiahopkaaBase
import Derived.Test.YtjhlppbiahopkaaQx3
import Derived.Test.YtjhlppbiahopkaaQx2
namespace Go.Proofs.Ytjhlppbiahopkaa.Pure
open Go Go.RowKit Go.Proofs.Ytjhlppbiahopkaa.Q Go.Proofs.YtjhlppbiahopkaaW.PrintWords Go.Proofs.YtjhlppbiahopkaaW.PrintLast Go.Proofs.YtjhlppbiahopkaaW.PrintMore
/-- May this byte stand at this place of a name? -/
def nameByte (i b : Int) : Bool := decide (97 ≤ b ∧ b ≤ 122) || (decide (i ≠ 0) && (decide (48 ≤ b ∧ b ≤ 57) || decide (b = 95)))
theorem both_l0 (s : ByteArray) (hs : s.size ≤ 140737488351232) (d : Nat) : ∀ i : Nat, s.size - i = d → i ≤ s.size →
    ∃ b : Bool, Ev (fun k => spec_NameRight.l0 k s (i : Int)) b ∧ Ev (fun k => impl_isName.l0 k s (s.size : Int) (i : Int)) (b && decide (1 ≤ s.size ∧ s.size ≤ 20)) := by
  induction d with
  | zero =>
    intro i hd hi
    refine ⟨true, ?_, ?_⟩
    · exact Ev.step (fun k => by rw [spec_NameRight.l0, if_neg (by omega)]) (Ev.now _)
    · refine Ev.step (f := fun _ => some (true && decide (1 ≤ s.size ∧ s.size ≤ 20))) (fun k => ?_) (Ev.now _)
      rw [impl_isName.l0, if_neg (by omega)]
      by_cases h : (s.size : Int) ≥ 1
      · rw [if_pos h]; congr 1
        by_cases h2 : s.size ≤ 20
        · simp [h2]; omega
        · simp [h2]; omega
      · rw [if_neg h]; congr 1; simp; omega
  | succ d ih =>
    intro i hd hi
    obtain ⟨b, hb1, hb2⟩ := ih (i + 1) (by omega) (by omega)
    have ew : wrap64 ((i : Int) + 1) = ((i + 1 : Nat) : Int) := by rw [wrap64_id (by omega) (by omega)]; omega
    have r0 := bt_nonneg s i
    by_cases hg : nameByte i (bt s i) = true
    · refine ⟨b, Ev.step (f := fun k => spec_NameRight.l0 k s ((i + 1 : Nat) : Int)) (fun k => ?_) hb1, Ev.step (f := fun k => impl_isName.l0 k s (s.size : Int) ((i + 1 : Nat) : Int)) (fun k => ?_) hb2⟩
      · rw [spec_NameRight.l0, if_pos (by omega), if_pos (by omega), ew]
        simp only [nameByte, Bool.or_eq_true, Bool.and_eq_true, decide_eq_true_eq] at hg
        repeat' split
        all_goals first | rfl | (exfalso; omega)
      · rw [impl_isName.l0, if_pos (by omega), if_pos (by omega), if_pos (by omega), ew]
        simp only [nameByte, Bool.or_eq_true, Bool.and_eq_true, decide_eq_true_eq] at hg
        repeat' split
        all_goals first | rfl | (exfalso; omega)
    · refine ⟨false, Ev.step (f := fun _ => some false) (fun k => ?_) (Ev.now _), Ev.step (f := fun _ => some (false && decide (1 ≤ s.size ∧ s.size ≤ 20))) (fun k => ?_) (Ev.now _)⟩
      · rw [spec_NameRight.l0, if_pos (by omega), if_pos (by omega), ew]
        simp only [nameByte, Bool.or_eq_true, Bool.and_eq_true, decide_eq_true_eq, not_or, not_and] at hg
        repeat' split
        all_goals first | rfl | (exfalso; omega)
      · rw [impl_isName.l0, if_pos (by omega), if_pos (by omega), if_pos (by omega), ew]
        simp only [nameByte, Bool.or_eq_true, Bool.and_eq_true, decide_eq_true_eq, not_or, not_and] at hg
        repeat' split
        all_goals first | rfl | (exfalso; omega)
theorem FnExactNameRight : laws_FnExactNameRight.Pure := by
  intro s hs
  refine Ev.rounds ?_
  unfold laws_FnExactNameRight.f impl_NameRight.f impl_isName.f spec_NameRight.f
  by_cases a : (s.size : Int) > 1048576
  · simp only [if_pos a]; exact Ev.now _
  · simp only [if_neg a]
    obtain ⟨b, h1, h2⟩ := both_l0 s hs s.size 0 (by omega) (by omega)
    have h3 : Ev (fun k => if (s.size : Int) < 1 then spec_NameRight.j0 k s true else spec_NameRight.j0 k s (decide ((s.size : Int) > 20))) (b && decide (1 ≤ s.size ∧ s.size ≤ 20)) := by
      by_cases c : 1 ≤ s.size ∧ s.size ≤ 20
      · simp only [if_neg (show ¬ (s.size : Int) < 1 by omega), show decide ((s.size : Int) > 20) = false by simp; omega]
        refine Ev.step (f := fun k => spec_NameRight.l0 k s ((0 : Nat) : Int)) (fun k => by rw [spec_NameRight.j0]; rfl) ?_
        simpa [c] using h1
      · by_cases c2 : (s.size : Int) < 1
        · simp only [if_pos c2]
          exact Ev.step (f := fun _ => some (b && decide (1 ≤ s.size ∧ s.size ≤ 20))) (fun k => by rw [spec_NameRight.j0]; simp [c]) (Ev.now _)
        · simp only [if_neg c2, show decide ((s.size : Int) > 20) = true by simp; omega]
          exact Ev.step (f := fun _ => some (b && decide (1 ≤ s.size ∧ s.size ≤ 20))) (fun k => by rw [spec_NameRight.j0]; simp [c]) (Ev.now _)
    refine Ev.bind h3 (Ev.bind (Ev.bind h2 (Ev.now _)) ?_)
    simp only [bne_self_eq_false, Bool.false_eq_true, if_false]
    exact Ev.now _
end Go.Proofs.Ytjhlppbiahopkaa.Pure
