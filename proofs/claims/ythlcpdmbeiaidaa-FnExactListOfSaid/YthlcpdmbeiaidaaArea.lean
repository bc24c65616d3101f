/- The area's lists: what isList, ListRight, fromBits, bitsOf, freeOf compute. Conditions: lists no longer than a row allows. -/
import Derived.Test.YthlcpdmbeiaidaaInts
import Derived.Test.YthlcpdmbeiaidaaQx3
import Derived.Test.YthlcpdmbeiaidaaQx2
import Derived.Test.YthlcpdmbeiaidaaQx4
import Derived.Test.YthlcpdmbeiaidaaQx5
import Derived.Test.YthlcpdmbeiaidaaQx7
namespace Go.Proofs.Ythlcpdmbeiaidaa.Pure
set_option linter.unusedVariables false
set_option linter.unusedSimpArgs false
open Go Go.RowKit Go.Proofs.Ythlcpdmbeiaidaa.Q Go.Proofs.YthlcpdmbeiaidaaW.PrintWords Go.Proofs.YthlcpdmbeiaidaaW.PrintLast Go.Proofs.YthlcpdmbeiaidaaW.PrintMore
/-- Rising, above p, up to 23. -/
def risesFrom : Int → List Int → Bool
  | _, [] => true
  | p, a :: r => decide (p < a) && decide (a ≤ 23) && risesFrom a r
def rises (l : List Int) : Bool := risesFrom (-1) l
theorem rises_length : ∀ (l : List Int) (p : Int), p ≤ 23 → risesFrom p l = true → (l.length : Int) ≤ 23 - p := by
  intro l
  induction l with
  | nil => intro p hp _; simp; omega
  | cons a r ih =>
    intro p hp h
    simp only [risesFrom, Bool.and_eq_true, decide_eq_true_eq] at h
    have := ih a h.1.2 h.2
    simp only [List.length_cons]; omega
theorem rises_mem : ∀ (l : List Int) (p : Int), risesFrom p l = true → ∀ a ∈ l, p < a ∧ a ≤ 23 := by
  intro l
  induction l with
  | nil => intro p _ a ha; simp at ha
  | cons b r ih =>
    intro p h a ha
    simp only [risesFrom, Bool.and_eq_true, decide_eq_true_eq] at h
    rcases List.mem_cons.1 ha with rfl | h'
    · exact ⟨h.1.1, h.1.2⟩
    · have := ih b h.2 a h'; omega
theorem within_eq (a b c : Int) : impl_within.f a b c = some (decide (b ≤ a ∧ a ≤ c)) := by
  unfold impl_within.f
  by_cases h : a ≥ b
  · rw [if_pos h]; congr 1; rw [Bool.eq_iff_iff]; simp; omega
  · rw [if_neg h]; congr 1; simp; omega
theorem l03Is_eq (a b c : Int) : spec_l03Is.f a b c = some (decide (b ≤ a ∧ a ≤ c)) := by
  unfold spec_l03Is.f
  by_cases h : a ≥ b
  · rw [if_pos h]; congr 1; rw [Bool.eq_iff_iff]; simp; omega
  · rw [if_neg h]; congr 1; simp; omega
/-- The number before place i. -/
def Before (q : List Int) (prev : Int) : Prop := (q = [] ∧ prev = -1) ∨ ∃ q', q = q' ++ [prev] ∧ 0 ≤ prev
theorem rd_before (q' : List Int) (c a : Int) (r : List Int) : rd ((q' ++ [c]) ++ a :: r) ((q'.length : Nat) : Int) = c := by
  rw [← snoc_app]; exact rd_mid q' c (a :: r)
theorem specRight_l0 (N : Nat) (hN : N < 9223372036854775807) (r : List Int) : ∀ (q : List Int) (prev : Int), q.length + r.length = N → Before q prev →
    Ev (fun k => spec_ListRight.l0 k (q ++ r) (q.length : Int)) (risesFrom prev r) := by
  induction r with
  | nil => intro q prev h hb; exact Ev.step (fun k => by rw [spec_ListRight.l0, if_neg (not_lt_end q)]; rfl) (Ev.now _)
  | cons a r ih =>
    intro q prev h hb
    simp only [List.length_cons] at h
    have e0 : rd (q ++ a :: r) (q.length : Int) = a := rd_mid q a r
    refine Ev.step (fun k => by rw [spec_ListRight.l0, if_pos (lt_mid q a r), if_pos (by omega), e0, l03Is_eq, Option.bind_some, next64 (by omega)]) ?_
    have nxt := fun (h0 : 0 ≤ a) => ih (q ++ [a]) a (by simp; omega) (.inr ⟨q, rfl, h0⟩)
    simp only [← snoc_app, List.length_append, List.length_singleton] at nxt
    by_cases hw : 0 ≤ a ∧ a ≤ 23
    · simp only [decide_eq_true hw, if_true]
      rcases hb with ⟨rfl, rfl⟩ | ⟨q', rfl, hp⟩
      · simp only [List.length_nil, if_neg (show ¬ ((0 : Nat) : Int) > 0 by omega)]
        rw [risesFrom, decide_eq_true (show (-1 : Int) < a by omega), decide_eq_true hw.2]
        exact nxt hw.1
      · have hl : (q' ++ [prev]).length = q'.length + 1 := by simp
        have e1 : wrap64 (((q' ++ [prev]).length : Int) - 1) = ((q'.length : Nat) : Int) := by rw [wrap64_id (by omega) (by omega)]; omega
        have hl2 : ((q' ++ [prev] ++ a :: r).length : Int) = q'.length + 1 + (r.length + 1) := by rw [List.length_append, List.length_append, List.length_cons]; simp
        simp only [if_pos (show ((q' ++ [prev]).length : Int) > 0 by omega), e1, if_pos (show (0 : Int) ≤ ((q'.length : Nat) : Int) by omega), if_pos (show ((q'.length : Nat) : Int) < ((q' ++ [prev] ++ a :: r).length : Int) by omega), rd_before]
        by_cases hlt : prev ≥ a
        · simp only [if_pos hlt]
          rw [risesFrom, decide_eq_false (show ¬ prev < a by omega)]
          exact Ev.now _
        · simp only [if_neg hlt]
          rw [risesFrom, decide_eq_true (show prev < a by omega), decide_eq_true hw.2]
          exact nxt hw.1
    · simp only [decide_eq_false hw, Bool.false_eq_true, if_false]
      have : (decide (prev < a) && decide (a ≤ 23)) = false := by
        rw [Bool.and_eq_false_iff, decide_eq_false_iff_not, decide_eq_false_iff_not]
        rcases hb with ⟨_, rfl⟩ | ⟨q', _, hp⟩ <;> omega
      rw [risesFrom, this]
      exact Ev.now _
theorem specRight (l : List Int) (h : l.length < 9223372036854775807) : Ev (fun k => spec_ListRight.f k l) (rises l) := by
  unfold spec_ListRight.f
  by_cases hl : (l.length : Int) > 24
  · simp only [if_pos hl]
    have : rises l = false := by
      cases hr : rises l with
      | false => rfl
      | true => have := rises_length l (-1) (by omega) hr; omega
    rw [this]; exact Ev.now _
  · simp only [if_neg hl]
    exact specRight_l0 l.length h l [] (-1) (by simp) (.inl ⟨rfl, rfl⟩)
theorem implRight_l0 (N : Nat) (hN : N < 9223372036854775807) (r : List Int) : ∀ (q : List Int) (prev : Int), q.length + r.length = N → Before q prev →
    Ev (fun k => impl_isList.l0 k (q ++ r) (q ++ r) ((q ++ r).length : Int) (q.length : Int)) (risesFrom prev r) := by
  induction r with
  | nil => intro q prev h hb; exact Ev.step (fun k => by rw [impl_isList.l0, if_neg (not_lt_end q)]; rfl) (Ev.now _)
  | cons a r ih =>
    intro q prev h hb
    simp only [List.length_cons] at h
    have e0 : rd (q ++ a :: r) (q.length : Int) = a := rd_mid q a r
    refine Ev.step (fun k => by rw [impl_isList.l0, if_pos (lt_mid q a r), if_pos (by omega), if_pos (lt_mid q a r), e0, within_eq, Option.bind_some, next64 (by omega)]) ?_
    have nxt := fun (h0 : 0 ≤ a) => ih (q ++ [a]) a (by simp; omega) (.inr ⟨q, rfl, h0⟩)
    simp only [← snoc_app, List.length_append, List.length_singleton] at nxt
    simp only [List.length_append] at nxt ⊢
    by_cases hw : 0 ≤ a ∧ a ≤ 23
    · simp only [decide_eq_true hw, if_true]
      rcases hb with ⟨rfl, rfl⟩ | ⟨q', rfl, hp⟩
      · simp only [List.length_nil, if_neg (show ¬ ((0 : Nat) : Int) > 0 by omega)]
        rw [risesFrom, decide_eq_true (show (-1 : Int) < a by omega), decide_eq_true hw.2]
        exact nxt hw.1
      · have hl : (q' ++ [prev]).length = q'.length + 1 := by simp
        have e1 : wrap64 (((q' ++ [prev]).length : Int) - 1) = ((q'.length : Nat) : Int) := by rw [wrap64_id (by omega) (by omega)]; omega
        have hl2 : ((q' ++ [prev] ++ a :: r).length : Int) = q'.length + 1 + (r.length + 1) := by rw [List.length_append, List.length_append, List.length_cons]; simp
        simp only [List.length_append, List.length_singleton, List.length_cons, List.length_nil] at e1 hl2 nxt ⊢
        simp only [if_pos (show ((q'.length + (0 + 1) : Nat) : Int) > 0 by omega), e1, if_pos (show (0 : Int) ≤ ((q'.length : Nat) : Int) by omega), if_pos (show ((q'.length : Nat) : Int) < ((q'.length + (0 + 1) + (r.length + 1) : Nat) : Int) by omega), rd_before]
        by_cases hlt : prev ≥ a
        · simp only [if_pos hlt]
          rw [risesFrom, decide_eq_false (show ¬ prev < a by omega)]
          exact Ev.now _
        · simp only [if_neg hlt]
          rw [risesFrom, decide_eq_true (show prev < a by omega), decide_eq_true hw.2]
          exact nxt hw.1
    · simp only [decide_eq_false hw, Bool.false_eq_true, if_false]
      have : (decide (prev < a) && decide (a ≤ 23)) = false := by
        rw [Bool.and_eq_false_iff, decide_eq_false_iff_not, decide_eq_false_iff_not]
        rcases hb with ⟨_, rfl⟩ | ⟨q', _, hp⟩ <;> omega
      rw [risesFrom, this]
      exact Ev.now _
theorem implRight (l : List Int) (h : l.length < 9223372036854775807) : Ev (fun k => impl_isList.f k l) (rises l) := by
  unfold impl_isList.f
  exact implRight_l0 l.length h l [] (-1) (by simp) (.inl ⟨rfl, rfl⟩)
end Go.Proofs.Ythlcpdmbeiaidaa.Pure
