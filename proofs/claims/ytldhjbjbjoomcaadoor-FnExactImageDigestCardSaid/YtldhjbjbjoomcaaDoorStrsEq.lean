/- Lists of texts as the laws compare them. Conditions: the lists are no longer than a row allows. -/
import Derived.Test.YtldhjbjbjoomcaaDoorInts0
import Derived.Test.YtldhjbjbjoomcaaDoorQx7
namespace Go.Proofs.YtldhjbjbjoomcaaDoor.Pure
set_option linter.unusedVariables false
set_option linter.unusedSimpArgs false
open Go Go.RowKit Go.Proofs.YtldhjbjbjoomcaaDoor.Q Go.Proofs.YtldhjbjbjoomcaaDoorW.PrintWords Go.Proofs.YtldhjbjbjoomcaaDoorW.PrintLast Go.Proofs.YtldhjbjbjoomcaaDoorW.PrintMore
theorem rdS_mid (p : List ByteArray) (a : ByteArray) (r : List ByteArray) : rdOf ByteArray.empty (p ++ a :: r) (p.length : Int) = a := by simp [rdOf]
theorem lenS_snoc {α : Type} (q : List α) (e : α) : (q ++ [e]).length = q.length + 1 := by simp
theorem eqStr_l0 (N : Nat) (hN : N < 9223372036854775807) (r : List ByteArray) : ∀ p : List ByteArray, p.length + r.length = N → Ev (fun k => laws_eqStringS.l0 k (p ++ r) (p ++ r) (p.length : Int)) true := by
  induction r with
  | nil => intro p h; exact Ev.step (fun k => by rw [laws_eqStringS.l0, if_neg (not_lt_end p)]) (Ev.now _)
  | cons a r ih =>
    intro p h
    simp only [List.length_cons] at h
    refine Ev.step (fun k => by rw [laws_eqStringS.l0, if_pos (lt_mid p a r), if_pos (by omega), if_pos (lt_mid p a r), if_pos rfl, next64 (by omega)]) ?_
    have := ih (p ++ [a]) (by simp; omega)
    rw [← snoc_app, lenS_snoc] at this
    exact this
theorem eqStr (l : List ByteArray) (h : l.length < 9223372036854775807) : Ev (fun k => laws_eqStringS.f k l l) true := by
  unfold laws_eqStringS.f
  simp only [if_true]
  exact eqStr_l0 l.length h l [] (by simp)
end Go.Proofs.YtldhjbjbjoomcaaDoor.Pure
