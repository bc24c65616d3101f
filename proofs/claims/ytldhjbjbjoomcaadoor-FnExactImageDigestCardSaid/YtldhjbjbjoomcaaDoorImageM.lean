/- Whether an image is right: one to eight texts of eight bytes each, in both packages. Conditions: lists no longer than a row allows. -/
import Derived.Test.YtldhjbjbjoomcaaDoorStrsEq
import Derived.Test.YtldhjbjbjoomcaaDoorQx7
import Derived.Test.YtldhjbjbjoomcaaDoorQx6
namespace Go.Proofs.YtldhjbjbjoomcaaDoor.Pure
set_option linter.unusedVariables false
set_option linter.unusedSimpArgs false
open Go Go.RowKit Go.Proofs.YtldhjbjbjoomcaaDoor.Q Go.Proofs.YtldhjbjbjoomcaaDoorW.PrintWords Go.Proofs.YtldhjbjbjoomcaaDoorW.PrintLast Go.Proofs.YtldhjbjbjoomcaaDoorW.PrintMore
def imageM (l : List ByteArray) : Bool := decide (1 ≤ (l.length : Int) ∧ (l.length : Int) ≤ 8) && !(l.any (fun s => (s.size : Int) != 8))
theorem implImage (l : List ByteArray) (h : l.length ≤ 9223372036854775807) : impl_isImage.f l = some (imageM l) := by
  unfold impl_isImage.f imageM
  rw [if_pos h]
theorem specImage_l0 (N : Nat) (hN : N ≤ 1000) (r : List ByteArray) : ∀ p : List ByteArray, p.length + r.length = N → Ev (fun k => spec_ImageRight.l0 k (p ++ r) (p.length : Int)) (!(r.any (fun s => (s.size : Int) != 8))) := by
  induction r with
  | nil => intro p h; exact Ev.step (f := fun _ => some true) (fun k => by rw [spec_ImageRight.l0, if_neg (not_lt_end p)]) (Ev.now _)
  | cons a r ih =>
    intro p h
    simp only [List.length_cons] at h
    refine Ev.step (fun k => by rw [spec_ImageRight.l0, if_pos (lt_mid p a r), if_pos (by omega), rdS_mid, next64 (by omega)]) ?_
    rw [List.any_cons]
    by_cases g : (a.size : Int) = 8
    · simp only [if_pos g, show ((a.size : Int) != 8) = false from bne_eq_false_iff_eq.2 g, Bool.false_or]
      have := ih (p ++ [a]) (by simp; omega)
      rw [← snoc_app, lenS_snoc] at this
      exact this
    · simp only [if_neg g, show ((a.size : Int) != 8) = true from bne_iff_ne.2 g, Bool.true_or, Bool.not_true]
      exact Ev.now _
theorem specImage (l : List ByteArray) : Ev (fun k => spec_ImageRight.f k l) (imageM l) := by
  unfold spec_ImageRight.f imageM
  by_cases h1 : (l.length : Int) < 1
  · simp only [if_pos h1, decide_eq_false (show ¬ (1 ≤ (l.length : Int) ∧ (l.length : Int) ≤ 8) by omega), Bool.false_and]
    exact Ev.step (fun k => by rw [spec_ImageRight.j0, if_pos rfl]) (Ev.now _)
  · simp only [if_neg h1]
    by_cases h2 : (l.length : Int) > 8
    · rw [decide_eq_true h2, decide_eq_false (show ¬ (1 ≤ (l.length : Int) ∧ (l.length : Int) ≤ 8) by omega), Bool.false_and]
      exact Ev.step (fun k => by rw [spec_ImageRight.j0, if_pos rfl]) (Ev.now _)
    · rw [decide_eq_false h2, decide_eq_true (show 1 ≤ (l.length : Int) ∧ (l.length : Int) ≤ 8 by omega), Bool.true_and]
      have := specImage_l0 l.length (by omega) l [] (by simp)
      exact Ev.step (f := fun k => spec_ImageRight.l0 k l 0) (fun k => by rw [spec_ImageRight.j0, if_neg (by decide)]) this
end Go.Proofs.YtldhjbjbjoomcaaDoor.Pure
