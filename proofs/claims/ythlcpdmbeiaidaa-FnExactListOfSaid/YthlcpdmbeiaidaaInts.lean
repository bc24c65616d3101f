/- Lists of whole numbers as the laws copy, compare, mark and hold them. Conditions: the lists are no longer than a row allows. -/
import Derived.Test.YthlcpdmbeiaidaaBase
import Derived.Test.YthlcpdmbeiaidaaQx2
import Derived.Test.YthlcpdmbeiaidaaQx3
import Derived.Test.YthlcpdmbeiaidaaQx4
import Derived.Test.YthlcpdmbeiaidaaQx5
namespace Go.Proofs.Ythlcpdmbeiaidaa.Pure
set_option linter.unusedVariables false
set_option linter.unusedSimpArgs false
open Go Go.RowKit Go.Proofs.Ythlcpdmbeiaidaa.Q Go.Proofs.YthlcpdmbeiaidaaW.PrintWords Go.Proofs.YthlcpdmbeiaidaaW.PrintLast Go.Proofs.YthlcpdmbeiaidaaW.PrintMore
theorem rd_mid (p : List Int) (a : Int) (r : List Int) : rd (p ++ a :: r) (p.length : Int) = a := by simp [rd]
theorem set_mid {α : Type} (p : List α) (a b : α) (r : List α) : (p ++ a :: r).set (p.length : Int).toNat b = p ++ b :: r := by simp
theorem snoc_app {α : Type} (p : List α) (a : α) (r : List α) : p ++ a :: r = (p ++ [a]) ++ r := by simp
theorem lt_mid {α : Type} (p : List α) (a : α) (r : List α) : (p.length : Int) < ((p ++ a :: r).length : Int) := by rw [List.length_append, List.length_cons]; omega
theorem not_lt_end {α : Type} (p : List α) : ¬ (p.length : Int) < ((p ++ []).length : Int) := by rw [List.append_nil]; omega
theorem next64 {i : Nat} (h : i < 9223372036854775807) : wrap64 ((i : Int) + 1) = ((i + 1 : Nat) : Int) := by rw [wrap64_id (by omega) (by omega)]; omega

theorem toInt_l0 (N : Nat) (hN : N < 9223372036854775807) (r : List Int) : ∀ p : List Int, p.length + r.length = N →
    Ev (fun k => laws_toInt64S.l0 k (p ++ r) (p ++ List.replicate r.length 0) (p.length : Int)) (p ++ r) := by
  induction r with
  | nil => intro p h; exact Ev.step (fun k => by rw [laws_toInt64S.l0, if_neg (not_lt_end p)]) (by simpa using Ev.now _)
  | cons a r ih =>
    intro p h
    simp only [List.length_cons] at h
    have := ih (p ++ [a]) (by simp; omega)
    simp only [← snoc_app, List.length_append, List.length_singleton] at this
    refine Ev.step (fun k => ?_) this
    rw [laws_toInt64S.l0, if_pos (lt_mid p a r), if_pos (by omega), List.length_cons, List.replicate_succ, if_pos (lt_mid p _ _), rd_mid, set_mid, next64 (by omega)]
theorem toInt (l : List Int) (h : l.length * 8 ≤ 140737488351232) : Ev (fun k => laws_toInt64S.f k l) l := by
  unfold laws_toInt64S.f
  simp only [Int.toNat_natCast, if_pos (show (0 : Int) ≤ (l.length : Int) by omega), if_pos (show l.length ≤ 35184372088832 by omega)]
  simpa using toInt_l0 l.length (by omega) l [] (by simp)
theorem eqInt_l0 (N : Nat) (hN : N < 9223372036854775807) (r : List Int) : ∀ p : List Int, p.length + r.length = N →
    Ev (fun k => laws_eqInt64S.l0 k (p ++ r) (p ++ r) (p.length : Int)) true := by
  induction r with
  | nil => intro p h; exact Ev.step (fun k => by rw [laws_eqInt64S.l0, if_neg (not_lt_end p)]) (Ev.now _)
  | cons a r ih =>
    intro p h
    simp only [List.length_cons] at h
    have := ih (p ++ [a]) (by simp; omega)
    simp only [← snoc_app, List.length_append, List.length_singleton] at this
    refine Ev.step (fun k => ?_) this
    rw [laws_eqInt64S.l0, if_pos (lt_mid p a r), if_pos (by omega), if_pos (lt_mid p a r), if_pos rfl, next64 (by omega)]
theorem eqInt (l : List Int) (h : l.length < 9223372036854775807) : Ev (fun k => laws_eqInt64S.f k l l) true := by
  unfold laws_eqInt64S.f
  simp only [if_true]
  simpa using eqInt_l0 l.length h l [] (by simp)
def marks : Int → Nat → List Int
  | _, 0 => []
  | m, n + 1 => m :: marks (m + 1) n
theorem marks_length (n : Nat) : ∀ m, (marks m n).length = n := by
  induction n with
  | zero => intro m; rfl
  | succ n ih => intro m; simp [marks, ih]
theorem markInt_l0 (N : Nat) (hN : N < 1000000000000000000) (r : List Int) : ∀ (p : List Int) (m : Int), p.length + r.length = N → 0 ≤ m → m + r.length ≤ 4000000000000000000 →
    Ev (fun k => laws_markInt64S.l0 k (p ++ r) m (p.length : Int)) (m + r.length, p ++ marks m r.length) := by
  induction r with
  | nil =>
    intro p m h h0 h1
    refine Ev.step (f := fun _ => some (m + (([] : List Int).length : Int), p ++ marks m ([] : List Int).length)) (fun k => ?_) (Ev.now _)
    rw [laws_markInt64S.l0, if_neg (not_lt_end p)]; simp [marks]
  | cons a r ih =>
    intro p m h h0 h1
    simp only [List.length_cons] at h h1
    have := ih (p ++ [m]) (m + 1) (by simp; omega) (by omega) (by omega)
    simp only [← snoc_app, List.length_append, List.length_singleton] at this
    rw [show (m + ((a :: r).length : Int), p ++ marks m (a :: r).length) = (m + 1 + (r.length : Int), p ++ m :: marks (m + 1) r.length) from by simp [marks]; omega]
    refine Ev.step (fun k => ?_) this
    rw [laws_markInt64S.l0, if_pos (lt_mid p a r), if_pos (by omega), set_mid, next64 (by omega), wrap64_id (n := m + 1) (by omega) (by omega)]
theorem markInt (l : List Int) (m : Int) (h : l.length < 1000000000000000000) (h0 : 0 ≤ m) (h1 : m + l.length ≤ 4000000000000000000) : Ev (fun k => laws_markInt64S.f k l m) (m + l.length, marks m l.length) := by
  unfold laws_markInt64S.f
  simpa using markInt_l0 l.length h l [] m (by simp) h0 h1
theorem heldInt_l0 (N : Nat) (hN : N < 1000000000000000000) (n : Nat) : ∀ (p : List Int) (m : Int), p.length + n = N → 0 ≤ m → m + n ≤ 4000000000000000000 →
    Ev (fun k => laws_heldInt64S.l0 k (p ++ marks m n) m (p.length : Int)) (m + n) := by
  induction n with
  | zero =>
    intro p m h h0 h1
    rw [marks]
    exact Ev.step (fun k => by rw [laws_heldInt64S.l0, if_neg (not_lt_end p)]) (by simpa using Ev.now _)
  | succ n ih =>
    intro p m h h0 h1
    have := ih (p ++ [m]) (m + 1) (by simp; omega) (by omega) (by omega)
    simp only [← snoc_app, List.length_append, List.length_singleton] at this
    rw [show m + ((n + 1 : Nat) : Int) = m + 1 + (n : Int) from by omega, marks]
    refine Ev.step (fun k => ?_) this
    rw [laws_heldInt64S.l0, if_pos (lt_mid p _ _), if_pos (by omega), rd_mid, if_pos rfl, next64 (by omega), wrap64_id (n := m + 1) (by omega) (by omega)]
theorem heldInt (n : Nat) (m : Int) (h : n < 1000000000000000000) (h0 : 0 ≤ m) (h1 : m + n ≤ 4000000000000000000) : Ev (fun k => laws_heldInt64S.f k (marks m n) m) (m + n) := by
  unfold laws_heldInt64S.f
  simpa using heldInt_l0 n h n [] m (by simp) h0 h1
end Go.Proofs.Ythlcpdmbeiaidaa.Pure
