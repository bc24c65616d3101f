/- Pure texts in one: A list is recovered from its extents and from its bits; no two extents of a list overlap or are adjacent; free numbers are in neither list, and all others are in one; for every draw. -/
import Derived.Test.YtcmoenkbckmmfaaKFnArea0
import Derived.Test.YtcmoenkbckmmfaaKFnArea1
import Derived.Test.YtcmoenkbckmmfaaKFnArea2
import Derived.Test.YtcmoenkbckmmfaaKFnArea3
import Derived.Test.YtcmoenkbckmmfaaKFnArea4
import Derived.Test.YtcmoenkbckmmfaaKFnArea5
import Derived.Test.YtcmoenkbckmmfaaKFnArea6
import Derived.Test.YtcmoenkbckmmfaaWMore
import Derived.Laws.BitsAllLaws
import Derived.Laws.Strings
import Derived.Laws.BitsLemmas
namespace Go.Proofs.Ytcmoenkbckmmfaa.Pure
set_option linter.unusedVariables false
set_option linter.unusedSimpArgs false
open Go Go.RowKit Go.Proofs.YtcmoenkbckmmfaaW.PrintWords Go.Proofs.YtcmoenkbckmmfaaW.PrintLast Go.Proofs.YtcmoenkbckmmfaaW.PrintMore
theorem wrap64_id {n : Int} (h0 : -9223372036854775808 ≤ n) (h1 : n ≤ 9223372036854775807) : wrap64 n = n := by
  unfold wrap64; omega
theorem wrap_u64 (n : Int) : IntKind.u64.wrap n = n % 18446744073709551616 := by simp [IntKind.wrap, IntKind.bits, IntKind.signed]
theorem wrap_u64_id {n : Int} (h0 : 0 ≤ n) (h1 : n < 18446744073709551616) : IntKind.u64.wrap n = n := by rw [wrap_u64]; omega
end Go.Proofs.Ytcmoenkbckmmfaa.Pure
namespace Go.Proofs.Ytcmoenkbckmmfaa.Pure
set_option linter.unusedVariables false
set_option linter.unusedSimpArgs false
open Go Go.RowKit Go.Proofs.YtcmoenkbckmmfaaW.PrintWords Go.Proofs.YtcmoenkbckmmfaaW.PrintLast Go.Proofs.YtcmoenkbckmmfaaW.PrintMore
theorem rd_mid (p : List Int) (a : Int) (r : List Int) : rd (p ++ a :: r) (p.length : Int) = a := by simp [rd]
theorem set_mid {α : Type} (p : List α) (a b : α) (r : List α) : (p ++ a :: r).set (p.length : Int).toNat b = p ++ b :: r := by simp
theorem snoc_app {α : Type} (p : List α) (a : α) (r : List α) : p ++ a :: r = (p ++ [a]) ++ r := by simp
theorem lt_mid {α : Type} (p : List α) (a : α) (r : List α) : (p.length : Int) < ((p ++ a :: r).length : Int) := by rw [List.length_append, List.length_cons]; omega
theorem not_lt_end {α : Type} (p : List α) : ¬ (p.length : Int) < ((p ++ []).length : Int) := by rw [List.append_nil]; omega
theorem next64 {i : Nat} (h : i < 9223372036854775807) : wrap64 ((i : Int) + 1) = ((i + 1 : Nat) : Int) := by rw [wrap64_id (by omega) (by omega)]; omega
end Go.Proofs.Ytcmoenkbckmmfaa.Pure
namespace Go.Proofs.Ytcmoenkbckmmfaa.Pure
set_option linter.unusedVariables false
set_option linter.unusedSimpArgs false
open Go Go.RowKit Go.Proofs.Ytcmoenkbckmmfaa.Q Go.Proofs.YtcmoenkbckmmfaaW.PrintWords Go.Proofs.YtcmoenkbckmmfaaW.PrintLast Go.Proofs.YtcmoenkbckmmfaaW.PrintMore
/-- Rising, above p, up to 23. -/
def risesFrom : Int → List Int → Bool
  | _, [] => true
  | p, a :: r => decide (p < a) && decide (a ≤ 23) && risesFrom a r
def rises (l : List Int) : Bool := risesFrom (-1) l
theorem rises_length : ∀ (l : List Int) (p : Int), p ≤ 23 → risesFrom p l = true → (l.length : Int) ≤ 23 - p := by
  intro l
  induction l with
  | nil => intro p hp _; simp; omega
  | cons a r ih =>
    intro p hp h
    simp only [risesFrom, Bool.and_eq_true, decide_eq_true_eq] at h
    have := ih a h.1.2 h.2
    simp only [List.length_cons]; omega
theorem rises_mem : ∀ (l : List Int) (p : Int), risesFrom p l = true → ∀ a ∈ l, p < a ∧ a ≤ 23 := by
  intro l
  induction l with
  | nil => intro p _ a ha; simp at ha
  | cons b r ih =>
    intro p h a ha
    simp only [risesFrom, Bool.and_eq_true, decide_eq_true_eq] at h
    rcases List.mem_cons.1 ha with rfl | h'
    · exact ⟨h.1.1, h.1.2⟩
    · have := ih b h.2 a h'; omega
theorem within_eq (a b c : Int) : impl_within.f a b c = some (decide (b ≤ a ∧ a ≤ c)) := by
  unfold impl_within.f
  by_cases h : a ≥ b
  · rw [if_pos h]; congr 1; rw [Bool.eq_iff_iff]; simp; omega
  · rw [if_neg h]; congr 1; simp; omega
theorem l03Is_eq (a b c : Int) : spec_l03Is.f a b c = some (decide (b ≤ a ∧ a ≤ c)) := by
  unfold spec_l03Is.f
  by_cases h : a ≥ b
  · rw [if_pos h]; congr 1; rw [Bool.eq_iff_iff]; simp; omega
  · rw [if_neg h]; congr 1; simp; omega
/-- The number before place i. -/
def Before (q : List Int) (prev : Int) : Prop := (q = [] ∧ prev = -1) ∨ ∃ q', q = q' ++ [prev] ∧ 0 ≤ prev
theorem rd_before (q' : List Int) (c a : Int) (r : List Int) : rd ((q' ++ [c]) ++ a :: r) ((q'.length : Nat) : Int) = c := by
  rw [← snoc_app]; exact rd_mid q' c (a :: r)
theorem specRight_l0 (N : Nat) (hN : N < 9223372036854775807) (r : List Int) : ∀ (q : List Int) (prev : Int), q.length + r.length = N → Before q prev →
    Ev (fun k => spec_ListRight.l0 k (q ++ r) (q.length : Int)) (risesFrom prev r) := by
  induction r with
  | nil => intro q prev h hb; exact Ev.step (fun k => by rw [spec_ListRight.l0, if_neg (not_lt_end q)]; rfl) (Ev.now _)
  | cons a r ih =>
    intro q prev h hb
    simp only [List.length_cons] at h
    have e0 : rd (q ++ a :: r) (q.length : Int) = a := rd_mid q a r
    refine Ev.step (fun k => by rw [spec_ListRight.l0, if_pos (lt_mid q a r), if_pos (by omega), e0, l03Is_eq, Option.bind_some, next64 (by omega)]) ?_
    have nxt := fun (h0 : 0 ≤ a) => ih (q ++ [a]) a (by simp; omega) (.inr ⟨q, rfl, h0⟩)
    simp only [← snoc_app, List.length_append, List.length_singleton] at nxt
    by_cases hw : 0 ≤ a ∧ a ≤ 23
    · simp only [decide_eq_true hw, if_true]
      rcases hb with ⟨rfl, rfl⟩ | ⟨q', rfl, hp⟩
      · simp only [List.length_nil, if_neg (show ¬ ((0 : Nat) : Int) > 0 by omega)]
        rw [risesFrom, decide_eq_true (show (-1 : Int) < a by omega), decide_eq_true hw.2]
        exact nxt hw.1
      · have hl : (q' ++ [prev]).length = q'.length + 1 := by simp
        have e1 : wrap64 (((q' ++ [prev]).length : Int) - 1) = ((q'.length : Nat) : Int) := by rw [wrap64_id (by omega) (by omega)]; omega
        have hl2 : ((q' ++ [prev] ++ a :: r).length : Int) = q'.length + 1 + (r.length + 1) := by rw [List.length_append, List.length_append, List.length_cons]; simp
        simp only [if_pos (show ((q' ++ [prev]).length : Int) > 0 by omega), e1, if_pos (show (0 : Int) ≤ ((q'.length : Nat) : Int) by omega), if_pos (show ((q'.length : Nat) : Int) < ((q' ++ [prev] ++ a :: r).length : Int) by omega), rd_before]
        by_cases hlt : prev ≥ a
        · simp only [if_pos hlt]
          rw [risesFrom, decide_eq_false (show ¬ prev < a by omega)]
          exact Ev.now _
        · simp only [if_neg hlt]
          rw [risesFrom, decide_eq_true (show prev < a by omega), decide_eq_true hw.2]
          exact nxt hw.1
    · simp only [decide_eq_false hw, Bool.false_eq_true, if_false]
      have : (decide (prev < a) && decide (a ≤ 23)) = false := by
        rw [Bool.and_eq_false_iff, decide_eq_false_iff_not, decide_eq_false_iff_not]
        rcases hb with ⟨_, rfl⟩ | ⟨q', _, hp⟩ <;> omega
      rw [risesFrom, this]
      exact Ev.now _
theorem specRight (l : List Int) (h : l.length < 9223372036854775807) : Ev (fun k => spec_ListRight.f k l) (rises l) := by
  unfold spec_ListRight.f
  by_cases hl : (l.length : Int) > 24
  · simp only [if_pos hl]
    have : rises l = false := by
      cases hr : rises l with
      | false => rfl
      | true => have := rises_length l (-1) (by omega) hr; omega
    rw [this]; exact Ev.now _
  · simp only [if_neg hl]
    exact specRight_l0 l.length h l [] (-1) (by simp) (.inl ⟨rfl, rfl⟩)
theorem implRight_l0 (N : Nat) (hN : N < 9223372036854775807) (r : List Int) : ∀ (q : List Int) (prev : Int), q.length + r.length = N → Before q prev →
    Ev (fun k => impl_isList.l0 k (q ++ r) (q ++ r) ((q ++ r).length : Int) (q.length : Int)) (risesFrom prev r) := by
  induction r with
  | nil => intro q prev h hb; exact Ev.step (fun k => by rw [impl_isList.l0, if_neg (not_lt_end q)]; rfl) (Ev.now _)
  | cons a r ih =>
    intro q prev h hb
    simp only [List.length_cons] at h
    have e0 : rd (q ++ a :: r) (q.length : Int) = a := rd_mid q a r
    refine Ev.step (fun k => by rw [impl_isList.l0, if_pos (lt_mid q a r), if_pos (by omega), if_pos (lt_mid q a r), e0, within_eq, Option.bind_some, next64 (by omega)]) ?_
    have nxt := fun (h0 : 0 ≤ a) => ih (q ++ [a]) a (by simp; omega) (.inr ⟨q, rfl, h0⟩)
    simp only [← snoc_app, List.length_append, List.length_singleton] at nxt
    simp only [List.length_append] at nxt ⊢
    by_cases hw : 0 ≤ a ∧ a ≤ 23
    · simp only [decide_eq_true hw, if_true]
      rcases hb with ⟨rfl, rfl⟩ | ⟨q', rfl, hp⟩
      · simp only [List.length_nil, if_neg (show ¬ ((0 : Nat) : Int) > 0 by omega)]
        rw [risesFrom, decide_eq_true (show (-1 : Int) < a by omega), decide_eq_true hw.2]
        exact nxt hw.1
      · have hl : (q' ++ [prev]).length = q'.length + 1 := by simp
        have e1 : wrap64 (((q' ++ [prev]).length : Int) - 1) = ((q'.length : Nat) : Int) := by rw [wrap64_id (by omega) (by omega)]; omega
        have hl2 : ((q' ++ [prev] ++ a :: r).length : Int) = q'.length + 1 + (r.length + 1) := by rw [List.length_append, List.length_append, List.length_cons]; simp
        simp only [List.length_append, List.length_singleton, List.length_cons, List.length_nil] at e1 hl2 nxt ⊢
        simp only [if_pos (show ((q'.length + (0 + 1) : Nat) : Int) > 0 by omega), e1, if_pos (show (0 : Int) ≤ ((q'.length : Nat) : Int) by omega), if_pos (show ((q'.length : Nat) : Int) < ((q'.length + (0 + 1) + (r.length + 1) : Nat) : Int) by omega), rd_before]
        by_cases hlt : prev ≥ a
        · simp only [if_pos hlt]
          rw [risesFrom, decide_eq_false (show ¬ prev < a by omega)]
          exact Ev.now _
        · simp only [if_neg hlt]
          rw [risesFrom, decide_eq_true (show prev < a by omega), decide_eq_true hw.2]
          exact nxt hw.1
    · simp only [decide_eq_false hw, Bool.false_eq_true, if_false]
      have : (decide (prev < a) && decide (a ≤ 23)) = false := by
        rw [Bool.and_eq_false_iff, decide_eq_false_iff_not, decide_eq_false_iff_not]
        rcases hb with ⟨_, rfl⟩ | ⟨q', _, hp⟩ <;> omega
      rw [risesFrom, this]
      exact Ev.now _
theorem implRight (l : List Int) (h : l.length < 9223372036854775807) : Ev (fun k => impl_isList.f k l) (rises l) := by
  unfold impl_isList.f
  exact implRight_l0 l.length h l [] (-1) (by simp) (.inl ⟨rfl, rfl⟩)
end Go.Proofs.Ytcmoenkbckmmfaa.Pure
namespace Go.Proofs.Ytcmoenkbckmmfaa.Pure
set_option linter.unusedVariables false
set_option linter.unusedSimpArgs false
open Go Go.RowKit Go.Proofs.Ytcmoenkbckmmfaa.Q Go.Proofs.YtcmoenkbckmmfaaW.PrintWords Go.Proofs.YtcmoenkbckmmfaaW.PrintLast Go.Proofs.YtcmoenkbckmmfaaW.PrintMore
theorem wraps_i64 (n : Int) (h0 : 0 ≤ n) (h1 : n < 2 ^ 63) : IntKind.i64.wrap n = n := by rw [IntKind.wrap_i64]; omega
theorem and_i64 (a b : Nat) (ha : a < 9223372036854775808) (hb : b < 9223372036854775808) : Go.bits .and .i64 (a : Int) (b : Int) = ((a &&& b : Nat) : Int) := (bits_nat .i64 63 (by decide) wraps_i64 a b ha hb).1
theorem or_i64 (a b : Nat) (ha : a < 9223372036854775808) (hb : b < 9223372036854775808) : Go.bits .or .i64 (a : Int) (b : Int) = ((a ||| b : Nat) : Int) := (bits_nat .i64 63 (by decide) wraps_i64 a b ha hb).2
theorem shr_i64 (x i : Nat) (hi : i ≤ 24) : shr .i64 (x : Int) (i : Int) = ((x / 2 ^ i : Nat) : Int) := by
  unfold shr
  rw [show min (i : Int).toNat IntKind.i64.bits = i by simp [IntKind.bits]; omega]
  simp
theorem shl_one (i : Nat) (hi : i ≤ 60) : shl .i64 1 (i : Int) = ((2 ^ i : Nat) : Int) := by
  unfold shl
  rw [show min (i : Int).toNat IntKind.i64.bits = i by simp [IntKind.bits]; omega]
  have : 2 ^ i ≤ 2 ^ 60 := Nat.pow_le_pow_right (by omega) hi
  have e : (2 : Nat) ^ 60 = 1152921504606846976 := by decide
  have e2 : (1 : Int) * 2 ^ i = ((2 ^ i : Nat) : Int) := by simp
  have h : 2 ^ i < 9223372036854775808 := by omega
  rw [e2, wraps_i64 _ (Int.natCast_nonneg _) (Int.ofNat_lt.2 h)]
theorem bit_test (x i : Nat) (hx : x < 16777216) (hi : i ≤ 24) : Go.bits .and .i64 (shr .i64 (x : Int) (i : Int)) 1 = 1 ↔ x.testBit i = true := by
  rw [shr_i64 x i hi]
  have hq : x / 2 ^ i ≤ x := Nat.div_le_self _ _
  have e := and_i64 (x / 2 ^ i) 1 (by omega) (by omega)
  rw [Nat.and_one_is_mod] at e
  rw [show (1 : Int) = ((1 : Nat) : Int) from rfl, e, Nat.testBit_eq_decide_div_mod_eq, decide_eq_true_iff]
  exact Int.ofNat_inj
/-- The numbers from i on, below i + d, whose bits stand in x. -/
def bitsFrom (x : Nat) : Nat → Nat → List Int
  | 0, _ => []
  | d + 1, i => if x.testBit i = true then (i : Int) :: bitsFrom x d (i + 1) else bitsFrom x d (i + 1)
def bitList (x : Nat) : List Int := bitsFrom x 24 0
theorem specFrom_l0 (x : Nat) (hx : x < 16777216) (d : Nat) : ∀ (i : Nat) (acc : List Int), i + d = 24 → acc.length ≤ i →
    Ev (fun k => spec_FromBits.l0 k (x : Int) acc (i : Int)) (acc ++ bitsFrom x d i) := by
  induction d with
  | zero => intro i acc h hl; exact Ev.step (fun k => by rw [spec_FromBits.l0, if_neg (by omega)]) (by simpa [bitsFrom] using Ev.now _)
  | succ d ih =>
    intro i acc h hl
    refine Ev.step (fun k => by rw [spec_FromBits.l0, if_pos (by omega), if_pos (by omega), next64 (by omega)]) ?_
    rw [bitsFrom]
    by_cases hb : x.testBit i = true
    · simp only [if_pos ((bit_test x i hx (by omega)).2 hb), if_pos hb, if_pos (show acc.length < 17592186044416 by omega)]
      have := ih (i + 1) (acc ++ [(i : Int)]) (by omega) (by simp; omega)
      rw [← snoc_app] at this
      exact this
    · simp only [if_neg (fun h => hb ((bit_test x i hx (by omega)).1 h)), if_neg hb]
      exact ih (i + 1) acc (by omega) (by omega)
theorem implFrom_l0 (x : Nat) (hx : x < 16777216) (d : Nat) : ∀ (i : Nat) (acc : List Int), i + d = 24 → acc.length ≤ i →
    Ev (fun k => impl_fromBits.l0 k (x : Int) acc (i : Int)) (acc ++ bitsFrom x d i) := by
  induction d with
  | zero => intro i acc h hl; exact Ev.step (fun k => by rw [impl_fromBits.l0, if_neg (by omega)]) (by simpa [bitsFrom] using Ev.now _)
  | succ d ih =>
    intro i acc h hl
    refine Ev.step (fun k => by rw [impl_fromBits.l0, if_pos (by omega), if_pos (by omega), next64 (by omega)]) ?_
    rw [bitsFrom]
    by_cases hb : x.testBit i = true
    · simp only [if_pos ((bit_test x i hx (by omega)).2 hb), if_pos hb, if_pos (show acc.length < 17592186044416 by omega)]
      have := ih (i + 1) (acc ++ [(i : Int)]) (by omega) (by simp; omega)
      rw [← snoc_app] at this
      exact this
    · simp only [if_neg (fun h => hb ((bit_test x i hx (by omega)).1 h)), if_neg hb]
      exact ih (i + 1) acc (by omega) (by omega)
theorem implFrom (x : Int) (h0 : 0 ≤ x) (hx : x < 16777216) : Ev (fun k => impl_fromBits.f k x) (bitList x.toNat) := by
  unfold impl_fromBits.f
  have := implFrom_l0 x.toNat (by omega) 24 0 [] rfl (by simp)
  rw [Int.toNat_of_nonneg h0] at this
  exact this
theorem specFrom (x : Int) : Ev (fun k => spec_FromBits.f k x) (if x < 0 ∨ x ≥ 16777216 then [] else bitList x.toNat) := by
  unfold spec_FromBits.f
  simp only [Option.bind_some]
  have key : Ev (fun k => spec_FromBits.j0 k x [] (decide (x < 0 ∨ x ≥ 16777216))) (if x < 0 ∨ x ≥ 16777216 then [] else bitList x.toNat) := by
    by_cases h : x < 0 ∨ x ≥ 16777216
    · rw [if_pos h, decide_eq_true h]
      exact Ev.step (fun k => by rw [spec_FromBits.j0, if_pos rfl]) (Ev.now _)
    · rw [if_neg h, decide_eq_false h]
      refine Ev.step (fun k => by rw [spec_FromBits.j0, if_neg (by decide)]) ?_
      have := specFrom_l0 x.toNat (by omega) 24 0 [] rfl (by simp)
      rw [Int.toNat_of_nonneg (by omega)] at this
      exact this
  by_cases h : x < 0
  · simp only [if_pos h]
    rw [show decide (x < 0 ∨ x ≥ 16777216) = true by simp [h]] at key
    simpa [h] using key
  · simp only [if_neg h]
    rw [show decide (x < 0 ∨ x ≥ 16777216) = decide (x ≥ 16777216) by rw [Bool.eq_iff_iff]; simp [h]] at key
    exact key
theorem bitList_length (x : Nat) : (bitList x).length ≤ 24 := by
  have : ∀ d i, (bitsFrom x d i).length ≤ d := by
    intro d
    induction d with
    | zero => intro i; simp [bitsFrom]
    | succ d ih =>
      intro i
      rw [bitsFrom]
      have := ih (i + 1)
      split
      · simp only [List.length_cons]; omega
      · omega
  exact this 24 0
/-- The mask of a rising list. -/
def maskFrom (v : Nat) (l : List Int) : Nat := l.foldl (fun v a => v + 2 ^ a.toNat) v
def mask (l : List Int) : Nat := maskFrom 0 l
theorem pow24 {a : Nat} (h : a ≤ 23) : 2 ^ a ≤ 8388608 := by
  have : 2 ^ a ≤ 2 ^ 23 := Nat.pow_le_pow_right (by omega) h
  have e : (2 : Nat) ^ 23 = 8388608 := by decide
  omega
theorem specBits_l0 (N : Nat) (hN : N < 9223372036854775807) (r : List Int) : ∀ (q : List Int) (p : Int) (v : Nat), q.length + r.length = N → -1 ≤ p → p ≤ 23 → v < 2 ^ (p + 1).toNat → risesFrom p r = true →
    Ev (fun k => spec_BitsOf.l0 k (q ++ r) (v : Int) (q.length : Int)) (maskFrom v r : Int) := by
  induction r with
  | nil => intro q p v h _ _ hv hr; exact Ev.step (fun k => by rw [spec_BitsOf.l0, if_neg (not_lt_end q)]; rfl) (Ev.now _)
  | cons a r ih =>
    intro q p v h hp hp2 hv hr
    simp only [List.length_cons] at h
    simp only [risesFrom, Bool.and_eq_true, decide_eq_true_eq] at hr
    obtain ⟨⟨h1, h2⟩, h3⟩ := hr
    obtain ⟨b, rfl⟩ := Int.eq_ofNat_of_zero_le (show 0 ≤ a by omega)
    have hb := pow24 (a := b) (by omega)
    have hle : 2 ^ (p + 1).toNat ≤ 2 ^ b := Nat.pow_le_pow_right (by omega) (by omega)
    have hs : 2 ^ ((b : Int) + 1).toNat = 2 ^ b + 2 ^ b := by rw [show ((b : Int) + 1).toNat = b + 1 by omega, Nat.pow_succ]; omega
    have nxt := ih (q ++ [(b : Int)]) b (v + 2 ^ b) (by simp; omega) (by omega) (by omega) (by omega) h3
    simp only [← snoc_app, List.length_append, List.length_singleton] at nxt
    have em : maskFrom v ((b : Int) :: r) = maskFrom (v + 2 ^ b) r := rfl
    rw [em]
    refine Ev.step (fun k => ?_) nxt
    rw [spec_BitsOf.l0, if_pos (lt_mid q _ r), if_pos (by omega), rd_mid, if_pos (by omega), shl_one b (by omega), next64 (by omega), ← Int.natCast_add, wrap64_id (by omega) (by omega)]
theorem implBits_l0 (N : Nat) (hN : N < 9223372036854775807) (r : List Int) : ∀ (q : List Int) (p : Int) (v : Nat), q.length + r.length = N → -1 ≤ p → p ≤ 23 → v < 2 ^ (p + 1).toNat → risesFrom p r = true →
    Ev (fun k => impl_bitsOf.l0 k (v : Int) (q ++ r) ((q ++ r).length : Int) (q.length : Int)) (maskFrom v r : Int) := by
  induction r with
  | nil => intro q p v h _ _ hv hr; exact Ev.step (fun k => by rw [impl_bitsOf.l0, if_neg (not_lt_end q)]; rfl) (Ev.now _)
  | cons a r ih =>
    intro q p v h hp hp2 hv hr
    simp only [List.length_cons] at h
    simp only [risesFrom, Bool.and_eq_true, decide_eq_true_eq] at hr
    obtain ⟨⟨h1, h2⟩, h3⟩ := hr
    obtain ⟨b, rfl⟩ := Int.eq_ofNat_of_zero_le (show 0 ≤ a by omega)
    have hb := pow24 (a := b) (by omega)
    have hle : 2 ^ (p + 1).toNat ≤ 2 ^ b := Nat.pow_le_pow_right (by omega) (by omega)
    have hs : 2 ^ ((b : Int) + 1).toNat = 2 ^ b + 2 ^ b := by rw [show ((b : Int) + 1).toNat = b + 1 by omega, Nat.pow_succ]; omega
    have nxt := ih (q ++ [(b : Int)]) b (v + 2 ^ b) (by simp; omega) (by omega) (by omega) (by omega) h3
    simp only [← snoc_app, List.length_append, List.length_singleton] at nxt
    simp only [List.length_append, List.length_cons] at nxt ⊢
    have em : maskFrom v ((b : Int) :: r) = maskFrom (v + 2 ^ b) r := rfl
    rw [em]
    have eo : v ||| 2 ^ b = v + 2 ^ b := by rw [Nat.or_comm, nat_join b (2 ^ b) v (Nat.mod_self _) (by omega), Nat.add_comm]
    refine Ev.step (fun k => ?_) nxt
    rw [impl_bitsOf.l0, if_pos (by omega), if_pos (by omega), if_pos (lt_mid q _ r), rd_mid, if_pos (by omega), shl_one b (by omega), next64 (by omega), or_i64 v (2 ^ b) (by omega) (by omega), eo]
theorem mask_lt (l : List Int) (h : rises l = true) : mask l < 16777216 := by
  have key : ∀ (r : List Int) (p : Int) (v : Nat), -1 ≤ p → p ≤ 23 → v < 2 ^ (p + 1).toNat → risesFrom p r = true → maskFrom v r < 16777216 := by
    intro r
    induction r with
    | nil =>
      intro p v hp hp2 hv _
      have : 2 ^ (p + 1).toNat ≤ 2 ^ 24 := Nat.pow_le_pow_right (by omega) (by omega)
      have e : (2 : Nat) ^ 24 = 16777216 := by decide
      show v < 16777216
      omega
    | cons a r ih =>
      intro p v hp hp2 hv hr
      simp only [risesFrom, Bool.and_eq_true, decide_eq_true_eq] at hr
      obtain ⟨⟨h1, h2⟩, h3⟩ := hr
      obtain ⟨b, rfl⟩ := Int.eq_ofNat_of_zero_le (show 0 ≤ a by omega)
      have hle : 2 ^ (p + 1).toNat ≤ 2 ^ b := Nat.pow_le_pow_right (by omega) (by omega)
      have hs : 2 ^ ((b : Int) + 1).toNat = 2 ^ b + 2 ^ b := by rw [show ((b : Int) + 1).toNat = b + 1 by omega, Nat.pow_succ]; omega
      exact ih b (v + 2 ^ b) (by omega) (by omega) (by omega) h3
  exact key l (-1) 0 (by omega) (by omega) (by simp) h
theorem specBits (l : List Int) (hl : l.length < 9223372036854775807) : Ev (fun k => spec_BitsOf.f k l) (if rises l = true then (mask l : Int) else -1) := by
  unfold spec_BitsOf.f
  refine Ev.bind (specRight l hl) ?_
  by_cases h : rises l = true
  · simp only [if_pos h]
    exact specBits_l0 l.length hl l [] (-1) 0 (by simp) (by omega) (by omega) (by simp) h
  · simp only [if_neg h]; exact Ev.now _
theorem implBits (l : List Int) (hl : l.length < 9223372036854775807) (h : rises l = true) : Ev (fun k => impl_bitsOf.f k l) (mask l : Int) := by
  unfold impl_bitsOf.f
  exact implBits_l0 l.length hl l [] (-1) 0 (by simp) (by omega) (by omega) (by simp) h
end Go.Proofs.Ytcmoenkbckmmfaa.Pure
namespace Go.Proofs.Ytcmoenkbckmmfaa.Pure
set_option linter.unusedVariables false
set_option linter.unusedSimpArgs false
open Go Go.RowKit Go.Proofs.Ytcmoenkbckmmfaa.Q Go.Proofs.YtcmoenkbckmmfaaW.PrintWords Go.Proofs.YtcmoenkbckmmfaaW.PrintLast Go.Proofs.YtcmoenkbckmmfaaW.PrintMore
theorem add_pow_testBit {v b : Nat} (h : v < 2 ^ b) (k : Nat) : (v + 2 ^ b).testBit k = (v.testBit k || decide (b = k)) := by
  have e : v + 2 ^ b = 2 ^ b ||| v := by rw [nat_join b (2 ^ b) v (Nat.mod_self _) h, Nat.add_comm]
  rw [e, Nat.testBit_or, Nat.testBit_two_pow, Bool.or_comm]
theorem mask_testBit (l : List Int) (h : rises l = true) (k : Nat) : (mask l).testBit k = decide ((k : Int) ∈ l) := by
  have key : ∀ (r : List Int) (p : Int) (v : Nat), -1 ≤ p → p ≤ 23 → v < 2 ^ (p + 1).toNat → risesFrom p r = true → (maskFrom v r).testBit k = (v.testBit k || decide ((k : Int) ∈ r)) := by
    intro r
    induction r with
    | nil => intro p v _ _ _ _; simp [maskFrom]
    | cons a r ih =>
      intro p v hp hp2 hv hr
      simp only [risesFrom, Bool.and_eq_true, decide_eq_true_eq] at hr
      obtain ⟨⟨h1, h2⟩, h3⟩ := hr
      obtain ⟨b, rfl⟩ := Int.eq_ofNat_of_zero_le (show 0 ≤ a by omega)
      have hle : 2 ^ (p + 1).toNat ≤ 2 ^ b := Nat.pow_le_pow_right (by omega) (by omega)
      have hs : 2 ^ ((b : Int) + 1).toNat = 2 ^ b + 2 ^ b := by rw [show ((b : Int) + 1).toNat = b + 1 by omega, Nat.pow_succ]; omega
      have := ih b (v + 2 ^ b) (by omega) (by omega) (by omega) h3
      have em : maskFrom v ((b : Int) :: r) = maskFrom (v + 2 ^ b) r := rfl
      rw [em, this, add_pow_testBit (by omega)]
      rw [Bool.eq_iff_iff]
      simp only [Bool.or_eq_true, decide_eq_true_eq, List.mem_cons]
      constructor
      · rintro ((h | h) | h)
        · exact .inl h
        · exact .inr (.inl (by omega))
        · exact .inr (.inr h)
      · rintro (h | h | h)
        · exact .inl (.inl h)
        · exact .inl (.inr (by omega))
        · exact .inr h
  have := key l (-1) 0 (by omega) (by omega) (by simp) h
  simpa [mask] using this
def freeFrom (a b : List Int) : Nat → Nat → List Int
  | 0, _ => []
  | d + 1, i => if (i : Int) ∈ a ∨ (i : Int) ∈ b then freeFrom a b d (i + 1) else (i : Int) :: freeFrom a b d (i + 1)
/-- The numbers of the area that are in neither list. -/
def freeM (a b : List Int) : List Int := freeFrom a b 24 0
theorem freeFrom_bits (a b : List Int) (x : Nat) (hx : ∀ k, k < 24 → x.testBit k = !(decide ((k : Int) ∈ a) || decide ((k : Int) ∈ b))) (d : Nat) : ∀ i, i + d = 24 → bitsFrom x d i = freeFrom a b d i := by
  induction d with
  | zero => intro i _; rfl
  | succ d ih =>
    intro i hi
    rw [bitsFrom, freeFrom, ih (i + 1) (by omega), hx i (by omega)]
    by_cases h : (i : Int) ∈ a ∨ (i : Int) ∈ b
    · rw [if_pos h, if_neg]
      simp only [Bool.not_eq_true', Bool.or_eq_false_iff, decide_eq_false_iff_not]
      exact fun hh => h.elim hh.1 hh.2
    · rw [if_neg h, if_pos]
      simp only [Bool.not_eq_true', Bool.or_eq_false_iff, decide_eq_false_iff_not]
      exact not_or.1 h
theorem andNot_i64 (y : Nat) (hy : y < 16777216) : Go.bits .andNot .i64 16777215 (y : Int) = ((16777215 &&& (18446744073709551615 - y) : Nat) : Int) := by
  have hx : 16777215 &&& (18446744073709551615 - y) ≤ 16777215 := Nat.and_le_left
  have ha : (BitVec.ofInt 64 (16777215 : Int)).toNat = 16777215 := ofInt_u64 16777215 (by omega)
  show IntKind.i64.wrap ((BitVec.ofInt 64 (16777215 : Int) &&& ~~~BitVec.ofInt 64 (y : Int)).toNat : Int) = _
  rw [BitVec.toNat_and, BitVec.toNat_not, ha, ofInt_u64 y (by omega)]
  exact wraps_i64 _ (Int.natCast_nonneg _) (Int.ofNat_lt.2 (show (16777215 &&& (18446744073709551615 - y)) < 9223372036854775808 by omega))
theorem free_testBit (a b : List Int) (ha : rises a = true) (hb : rises b = true) (k : Nat) (hk : k < 24) :
    (16777215 &&& (18446744073709551615 - (mask a ||| mask b))).testBit k = !(decide ((k : Int) ∈ a) || decide ((k : Int) ∈ b)) := by
  have hm : mask a ||| mask b < 2 ^ 64 := Nat.or_lt_two_pow (Nat.lt_trans (mask_lt a ha) (by decide)) (Nat.lt_trans (mask_lt b hb) (by decide))
  rw [Nat.testBit_and]
  have e1 : (16777215 : Nat).testBit k = true := by
    have := Nat.testBit_two_pow_sub_one 24 k
    rw [show (2 : Nat) ^ 24 - 1 = 16777215 by decide] at this
    rw [this]; simpa using hk
  have e2 : (18446744073709551615 - (mask a ||| mask b)).testBit k = !(mask a ||| mask b).testBit k := by
    have := Nat.testBit_two_pow_sub_succ hm k
    rw [show (2 : Nat) ^ 64 - ((mask a ||| mask b) + 1) = 18446744073709551615 - (mask a ||| mask b) by omega] at this
    rw [this, decide_eq_true (show k < 64 by omega)]; simp
  rw [e1, e2, Nat.testBit_or, mask_testBit a ha, mask_testBit b hb]; simp
theorem implFree (a b : List Int) (hla : a.length < 9223372036854775807) (hlb : b.length < 9223372036854775807) (ha : rises a = true) (hb : rises b = true) :
    Ev (fun k => impl_freeOf.f k a b) (freeM a b) := by
  unfold impl_freeOf.f
  have ma := mask_lt a ha
  have mb := mask_lt b hb
  have hm : mask a ||| mask b < 2 ^ 24 := Nat.or_lt_two_pow (by omega) (by omega)
  have hle : 16777215 &&& (18446744073709551615 - (mask a ||| mask b)) ≤ 16777215 := Nat.and_le_left
  refine Ev.bind (implBits a hla ha) (Ev.bind (implBits b hlb hb) (Ev.bind (a := freeM a b) ?_ (Ev.now _)))
  rw [or_i64 _ _ (by omega) (by omega), andNot_i64 _ (by omega)]
  have := implFrom ((16777215 &&& (18446744073709551615 - (mask a ||| mask b)) : Nat) : Int) (by omega) (by omega)
  rw [Int.toNat_natCast] at this
  have e : bitList (16777215 &&& (18446744073709551615 - (mask a ||| mask b))) = freeM a b := freeFrom_bits a b _ (fun k hk => free_testBit a b ha hb k hk) 24 0 rfl
  rw [e] at this
  exact this
theorem specHas_l0 (N : Nat) (hN : N < 9223372036854775807) (n : Int) (r : List Int) : ∀ q : List Int, q.length + r.length = N → Ev (fun k => spec_l05Has.l0 k (q ++ r) n (q.length : Int)) (decide (n ∈ r)) := by
  induction r with
  | nil => intro q h; exact Ev.step (fun k => by rw [spec_l05Has.l0, if_neg (not_lt_end q)]) (by simpa using Ev.now _)
  | cons a r ih =>
    intro q h
    simp only [List.length_cons] at h
    have := ih (q ++ [a]) (by simp; omega)
    simp only [← snoc_app, List.length_append, List.length_singleton] at this
    refine Ev.step (fun k => by rw [spec_l05Has.l0, if_pos (lt_mid q a r), if_pos (by omega), rd_mid, next64 (by omega)]) ?_
    by_cases hq : a = n
    · simp only [if_pos hq]
      rw [decide_eq_true (show n ∈ a :: r by simp [hq])]; exact Ev.now _
    · simp only [if_neg hq]
      rw [show decide (n ∈ a :: r) = decide (n ∈ r) by rw [Bool.eq_iff_iff]; simp; intro h; exact absurd h.symm hq]
      exact this
theorem specHas (l : List Int) (n : Int) (h : l.length < 9223372036854775807) : Ev (fun k => spec_l05Has.f k l n) (decide (n ∈ l)) := by
  unfold spec_l05Has.f
  exact specHas_l0 l.length h n l [] (by simp)
theorem specFree_l0 (a b : List Int) (ha : a.length < 9223372036854775807) (hb : b.length < 9223372036854775807) (d : Nat) : ∀ (i : Nat) (acc : List Int), i + d = 24 → acc.length ≤ i →
    Ev (fun k => spec_l05Free.l0 k a b acc (i : Int)) (acc ++ freeFrom a b d i) := by
  induction d with
  | zero => intro i acc h hl; exact Ev.step (fun k => by rw [spec_l05Free.l0, if_neg (by omega)]) (by simpa [freeFrom] using Ev.now _)
  | succ d ih =>
    intro i acc h hl
    refine Ev.step (fun k => by rw [spec_l05Free.l0, if_pos (by omega), next64 (by omega)]) ?_
    refine Ev.bind (specHas a i ha) ?_
    rw [freeFrom]
    by_cases h1 : (i : Int) ∈ a
    · simp only [decide_eq_true h1, if_true, if_pos (show (i : Int) ∈ a ∨ (i : Int) ∈ b from .inl h1)]
      exact ih (i + 1) acc (by omega) (by omega)
    · simp only [decide_eq_false h1, Bool.false_eq_true, if_false]
      refine Ev.bind (specHas b i hb) ?_
      by_cases h2 : (i : Int) ∈ b
      · simp only [decide_eq_true h2, if_true, if_pos (show (i : Int) ∈ a ∨ (i : Int) ∈ b from .inr h2)]
        exact ih (i + 1) acc (by omega) (by omega)
      · simp only [decide_eq_false h2, Bool.false_eq_true, if_false, if_neg (show ¬ ((i : Int) ∈ a ∨ (i : Int) ∈ b) from not_or.2 ⟨h1, h2⟩), if_pos (show acc.length < 17592186044416 by omega)]
        have := ih (i + 1) (acc ++ [(i : Int)]) (by omega) (by simp; omega)
        rw [← snoc_app] at this
        exact this
theorem specFree (a b : List Int) (ha : a.length < 9223372036854775807) (hb : b.length < 9223372036854775807) : Ev (fun k => spec_l05Free.f k a b) (freeM a b) := by
  unfold spec_l05Free.f
  exact specFree_l0 a b ha hb 24 0 [] rfl (by simp)
theorem freeM_length (a b : List Int) : (freeM a b).length ≤ 24 := by
  have : ∀ d i, (freeFrom a b d i).length ≤ d := by
    intro d
    induction d with
    | zero => intro i; simp [freeFrom]
    | succ d ih =>
      intro i
      rw [freeFrom]
      have := ih (i + 1)
      split
      · omega
      · simp only [List.length_cons]; omega
  exact this 24 0
end Go.Proofs.Ytcmoenkbckmmfaa.Pure
namespace Go.Proofs.Ytcmoenkbckmmfaa.Pure
set_option linter.unusedVariables false
set_option linter.unusedSimpArgs false
open Go Go.RowKit Go.Proofs.Ytcmoenkbckmmfaa.Q Go.Proofs.YtcmoenkbckmmfaaW.PrintWords Go.Proofs.YtcmoenkbckmmfaaW.PrintLast Go.Proofs.YtcmoenkbckmmfaaW.PrintMore
abbrev Ext := S51
theorem rdE_mid (p : List Ext) (a : Ext) (r : List Ext) : rd_T51 (p ++ a :: r) (p.length : Int) = a := by simp [rd_T51]
/-- The runs: those done, the last one's begin and its count, what follows. -/
def runsGo : Int → Int → List Int → List Ext
  | f, c, [] => [⟨f, c⟩]
  | f, c, a :: r => if f + c = a then runsGo f (c + 1) r else ⟨f, c⟩ :: runsGo a 1 r
def runs : List Int → List Ext
  | [] => []
  | a :: r => runsGo a 1 r
theorem runsGo_length : ∀ (r : List Int) (f c : Int), 1 ≤ (runsGo f c r).length ∧ (runsGo f c r).length ≤ r.length + 1 := by
  intro r
  induction r with
  | nil => intro f c; simp [runsGo]
  | cons a r ih =>
    intro f c
    rw [runsGo]
    split
    · have := ih f (c + 1); simp only [List.length_cons]; omega
    · have := ih a 1; simp only [List.length_cons]; omega
theorem runs_length (l : List Int) : (runs l).length ≤ l.length := by
  cases l with
  | nil => simp [runs]
  | cons a r => have := runsGo_length r a 1; simp only [runs, List.length_cons]; omega
theorem implRuns_l0 (N : Nat) (hN : N ≤ 1000) (r : List Int) : ∀ (q : List Int) (done : List Ext) (f c : Int), q.length + r.length = N → done.length < q.length → 0 ≤ f → 1 ≤ c → f + c ≤ 24 → risesFrom (f + c - 1) r = true →
    Ev (fun k => impl_extentsOf.l0 k (done ++ [⟨f, c⟩]) (q ++ r) ((q ++ r).length : Int) (q.length : Int)) (done ++ runsGo f c r) := by
  induction r with
  | nil =>
    intro q done f c h hd hf hc hfc hr
    exact Ev.step (fun k => by rw [impl_extentsOf.l0, if_neg (not_lt_end q)]) (by rw [runsGo]; exact Ev.now _)
  | cons a r ih =>
    intro q done f c h hd hf hc hfc hr
    simp only [List.length_cons] at h
    simp only [risesFrom, Bool.and_eq_true, decide_eq_true_eq] at hr
    obtain ⟨⟨h1, h2⟩, h3⟩ := hr
    have el : wrap64 (((done ++ [(⟨f, c⟩ : Ext)]).length : Int) - 1) = (done.length : Int) := by rw [wrap64_id (by simp only [List.length_append, List.length_singleton]; omega) (by simp only [List.length_append, List.length_singleton]; omega)]; simp
    have hl : ((done ++ [(⟨f, c⟩ : Ext)]).length : Int) = done.length + 1 := by simp
    refine Ev.step (fun k => by rw [impl_extentsOf.l0, if_pos (lt_mid q a r), if_pos (by omega), if_pos (lt_mid q a r), el, if_pos (by omega), if_pos (by omega), if_pos (by omega), rdE_mid, rd_mid, set_mid, next64 (by omega)]) ?_
    simp only
    rw [runsGo, wrap64_id (n := f + c) (by omega) (by omega), wrap64_id (n := c + 1) (by omega) (by omega)]
    by_cases hq : f + c = a
    · simp only [if_pos hq]
      have := ih (q ++ [a]) done f (c + 1) (by simp; omega) (by simp; omega) hf (by omega) (by omega) (by rw [show f + (c + 1) - 1 = a by omega]; exact h3)
      simp only [← snoc_app, List.length_append, List.length_singleton] at this
      simp only [List.length_append] at this ⊢
      exact this
    · have hlim : (done ++ [(⟨f, c⟩ : Ext)]).length < 8796093022208 := by simp; omega
      simp only [if_neg hq, if_pos hlim]
      have := ih (q ++ [a]) (done ++ [⟨f, c⟩]) a 1 (by simp; omega) (by simp; omega) (by omega) (by omega) (by omega) (by rw [show a + 1 - 1 = a by omega]; exact h3)
      simp only [← snoc_app, List.length_append, List.length_singleton] at this ⊢
      exact this
theorem implRuns (l : List Int) (h : rises l = true) : Ev (fun k => impl_extentsOf.f k l) (runs l) := by
  unfold impl_extentsOf.f
  have hl := rises_length l (-1) (by omega) h
  cases l with
  | nil => exact Ev.step (fun k => by rw [impl_extentsOf.l0, if_neg (by simp)]; rfl) (Ev.now _)
  | cons a r =>
    simp only [rises, risesFrom, Bool.and_eq_true, decide_eq_true_eq] at h
    obtain ⟨⟨h1, h2⟩, h3⟩ := h
    simp only [List.length_cons] at hl
    have := implRuns_l0 (r.length + 1) (by omega) r [a] [] a 1 (by simp; omega) (by simp) (by omega) (by omega) (by omega) (by rw [show a + 1 - 1 = a by omega]; exact h3)
    refine Ev.step (fun k => ?_) this
    rw [impl_extentsOf.l0, if_pos (by simp only [List.length_cons]; omega), if_pos (by omega), if_pos (by simp only [List.length_cons]; omega), wrap64_id (n := (([] : List Ext).length : Int) - 1) (by simp) (by simp), if_neg (by simp), if_pos (by simp), wrap64_id (n := 0 + 1) (by omega) (by omega)]
    rfl
theorem specRuns_l0 (N : Nat) (hN : N ≤ 1000) (r : List Int) : ∀ (q : List Int) (done : List Ext) (f c : Int), (q.length + 1) + r.length = N → done.length ≤ q.length → 0 ≤ f → 1 ≤ c → f + c ≤ 24 → risesFrom (f + c - 1) r = true →
    Ev (fun k => spec_l05Runs.l0 k ((q ++ [f + c - 1]) ++ r) (done ++ [⟨f, c⟩]) ((q.length + 1 : Nat) : Int)) (done ++ runsGo f c r) := by
  induction r with
  | nil =>
    intro q done f c h hd hf hc hfc hr
    exact Ev.step (fun k => by rw [spec_l05Runs.l0, if_neg (by simp)]) (by rw [runsGo]; exact Ev.now _)
  | cons a r ih =>
    intro q done f c h hd hf hc hfc hr
    simp only [List.length_cons] at h
    simp only [risesFrom, Bool.and_eq_true, decide_eq_true_eq] at hr
    obtain ⟨⟨h1, h2⟩, h3⟩ := hr
    have el : wrap64 (((done ++ [(⟨f, c⟩ : Ext)]).length : Int) - 1) = (done.length : Int) := by rw [wrap64_id (by simp only [List.length_append, List.length_singleton]; omega) (by simp only [List.length_append, List.length_singleton]; omega)]; simp
    have hl : ((done ++ [(⟨f, c⟩ : Ext)]).length : Int) = done.length + 1 := by simp
    have hql : (q ++ [f + c - 1]).length = q.length + 1 := by simp
    have e1 : wrap64 (((q.length + 1 : Nat) : Int) - 1) = (q.length : Int) := by rw [wrap64_id (by omega) (by omega)]; omega
    have e2 : rd ((q ++ [f + c - 1]) ++ a :: r) ((q.length + 1 : Nat) : Int) = a := by rw [← hql]; exact rd_mid _ a r
    have hlt := lt_mid (q ++ [f + c - 1]) a r
    rw [hql] at hlt
    refine Ev.step (fun k => by rw [spec_l05Runs.l0, if_pos hlt, if_pos (by omega), e1, if_pos (by omega), if_pos (by omega), if_pos (by omega), rd_before, e2, el, rdE_mid, set_mid, next64 (by omega)]) ?_
    rw [runsGo, wrap64_id (n := f + c - 1 + 1) (by omega) (by omega), show f + c - 1 + 1 = f + c by omega]
    by_cases hq : f + c = a
    · simp only [if_pos hq, if_pos (show (0 : Int) ≤ (done.length : Int) by omega), if_pos (show (done.length : Int) < ((done ++ [(⟨f, c⟩ : Ext)]).length : Int) by omega)]
      rw [wrap64_id (n := c + 1) (by omega) (by omega)]
      have := ih (q ++ [f + c - 1]) done f (c + 1) (by simp; omega) (by simp; omega) hf (by omega) (by omega) (by rw [show f + (c + 1) - 1 = a by omega]; exact h3)
      rw [show f + (c + 1) - 1 = a by omega, ← snoc_app, hql] at this
      exact this
    · have hlim : (done ++ [(⟨f, c⟩ : Ext)]).length < 8796093022208 := by simp; omega
      simp only [if_neg hq, if_pos hlim]
      have := ih (q ++ [f + c - 1]) (done ++ [⟨f, c⟩]) a 1 (by simp; omega) (by simp; omega) (by omega) (by omega) (by omega) (by rw [show a + 1 - 1 = a by omega]; exact h3)
      rw [show a + 1 - 1 = a by omega, ← snoc_app (q ++ [f + c - 1]), hql] at this
      rw [← snoc_app done _ (runsGo a 1 r)] at this
      exact this
theorem specRuns (l : List Int) (h : rises l = true) : Ev (fun k => spec_l05Runs.f k l) (runs l) := by
  unfold spec_l05Runs.f
  have hl := rises_length l (-1) (by omega) h
  cases l with
  | nil => exact Ev.step (fun k => by rw [spec_l05Runs.l0, if_neg (by simp)]; rfl) (Ev.now _)
  | cons a r =>
    simp only [rises, risesFrom, Bool.and_eq_true, decide_eq_true_eq] at h
    obtain ⟨⟨h1, h2⟩, h3⟩ := h
    simp only [List.length_cons] at hl
    have := specRuns_l0 (r.length + 1) (by omega) r [] [] a 1 (by simp; omega) (by simp) (by omega) (by omega) (by omega) (by rw [show a + 1 - 1 = a by omega]; exact h3)
    rw [show a + 1 - 1 = a by omega] at this
    refine Ev.step (fun k => ?_) this
    rw [spec_l05Runs.l0, if_pos (by simp only [List.length_cons]; omega), if_neg (by decide), if_pos (by decide), if_pos (by simp), wrap64_id (n := 0 + 1) (by omega) (by omega)]
    rfl
end Go.Proofs.Ytcmoenkbckmmfaa.Pure
namespace Go.Proofs.Ytcmoenkbckmmfaa.Pure
set_option linter.unusedVariables false
set_option linter.unusedSimpArgs false
open Go Go.RowKit Go.Proofs.Ytcmoenkbckmmfaa.Q Go.Proofs.YtcmoenkbckmmfaaW.PrintWords Go.Proofs.YtcmoenkbckmmfaaW.PrintLast Go.Proofs.YtcmoenkbckmmfaaW.PrintMore
/-- A run within the area. -/
def okE (e : Ext) : Prop := (1 ≤ e.f1 ∧ e.f1 ≤ 24) ∧ 0 ≤ e.f0 ∧ e.f0 ≤ 24 - e.f1
instance (e : Ext) : Decidable (okE e) := by unfold okE; infer_instance
def tab (g : Nat → Int) : List Int := (List.range 24).map g
def bump (g : Nat → Int) (f c : Int) : Nat → Int := fun j => if f ≤ j ∧ (j : Int) < f + c then g j + 1 else g j
def pickFrom (g : Nat → Int) : Nat → Nat → List Int → List Int × Int
  | 0, _, acc => (acc, 0)
  | d + 1, i, acc => if g i > 1 then ([], 12) else if g i = 1 then pickFrom g d (i + 1) (acc ++ [(i : Int)]) else pickFrom g d (i + 1) acc
def specGo : List Ext → (Nat → Int) → List Int × Int
  | [], g => pickFrom g 24 0 []
  | e :: r, g => if okE e then specGo r (bump g e.f0 e.f1) else ([], 1)
def own (e : Ext) : Nat := (2 ^ e.f1.toNat - 1) * 2 ^ e.f0.toNat
def implGo : List Ext → Nat → List Int × Int
  | [], v => (bitList v, 0)
  | e :: r, v => if v &&& own e = 0 then implGo r (v ||| own e) else ([], 12)
def listOf (l : List Ext) : List Int × Int := if l.length > 400 then ([], 2) else if ∀ e ∈ l, okE e then implGo l 0 else ([], 1)

theorem tab_length (g : Nat → Int) : (tab g).length = 24 := by simp [tab]
theorem rd_tab (g : Nat → Int) (j : Nat) (h : j < 24) : rd (tab g) (j : Int) = g j := by simp [rd, tab, h]
theorem set_tab (g : Nat → Int) (j : Nat) (v : Int) : (tab g).set j v = tab (fun i => if i = j then v else g i) := by
  apply List.ext_getElem
  · simp [tab]
  · intro n h1 h2
    simp only [tab, List.getElem_set, List.getElem_map, List.getElem_range]
    by_cases e : n = j
    · simp [e]
    · rw [if_neg (fun h => e h.symm), if_neg e]
theorem tab_congr {g h : Nat → Int} (e : ∀ j, g j = h j) : tab g = tab h := by rw [funext e]

theorem len_snoc {α : Type} (q : List α) (e : α) : (q ++ [e]).length = q.length + 1 := by simp
theorem decide_congr' {p q : Prop} [Decidable p] [Decidable q] (h : p ↔ q) : decide p = decide q := by rw [Bool.eq_iff_iff]; simpa using h
theorem specPick (d : Nat) : ∀ (g : Nat → Int) (i : Nat) (acc : List Int), i + d = 24 → acc.length ≤ i →
    Ev (fun k => spec_ListOf.l2 k (tab g) acc (i : Int)) (pickFrom g d i acc) := by
  induction d with
  | zero => intro g i acc h hl; exact Ev.step (fun k => by rw [spec_ListOf.l2, if_neg (by omega)]) (by rw [pickFrom]; exact Ev.now _)
  | succ d ih =>
    intro g i acc h hl
    refine Ev.step (fun k => by rw [spec_ListOf.l2, if_pos (by omega), if_pos (by omega), if_pos (by rw [tab_length]; omega), rd_tab g i (by omega), next64 (by omega)]) ?_
    rw [pickFrom]
    by_cases h1 : g i > 1
    · simp only [if_pos h1]; exact Ev.now _
    · simp only [if_neg h1]
      by_cases h2 : g i = 1
      · simp only [if_pos h2, if_pos (show acc.length < 17592186044416 by omega)]
        exact ih g (i + 1) _ (by omega) (by simp; omega)
      · simp only [if_neg h2]
        exact ih g (i + 1) _ (by omega) (by omega)
theorem specInner (L : List Ext) (i : Int) (e : Ext) (R : List Int × Int) (G : Nat → Int) (hi0 : 0 ≤ i) (hi1 : i < (L.length : Int)) (he : rd_T51 L i = e) (h0 : 0 ≤ e.f0) (hc0 : 1 ≤ e.f1) (h1 : e.f0 + e.f1 ≤ 24)
    (hG : Ev (fun k => spec_ListOf.l0 k L (tab G) (wrap64 (i + 1))) R) (d : Nat) : ∀ (x : Nat) (g : Nat → Int), (x : Int) + d = e.f0 + e.f1 → (∀ j : Nat, x ≤ j → 0 ≤ g j ∧ g j ≤ 1000000) →
    (∀ j : Nat, G j = if x ≤ j ∧ (j : Int) < e.f0 + e.f1 then g j + 1 else g j) → Ev (fun k => spec_ListOf.l1 k L (tab g) i (x : Int)) R := by
  induction d with
  | zero =>
    intro x g h _ hg
    refine Ev.step (fun k => by rw [spec_ListOf.l1, if_pos hi0, if_pos hi1, he, wrap64_id (n := e.f0 + e.f1) (by omega) (by omega), if_neg (by omega)]) ?_
    have : tab g = tab G := tab_congr (fun j => by rw [hg, if_neg (by omega)])
    rw [this]; exact hG
  | succ d ih =>
    intro x g h hb hg
    have hx := hb x (Nat.le_refl _)
    refine Ev.step (fun k => by rw [spec_ListOf.l1, if_pos hi0, if_pos hi1, he, wrap64_id (n := e.f0 + e.f1) (by omega) (by omega), if_pos (by omega), if_pos (by omega), if_pos (by rw [tab_length]; omega), rd_tab g x (by omega), wrap64_id (n := g x + 1) (by omega) (by omega), next64 (by omega), Int.toNat_natCast, set_tab]) ?_
    refine ih (x + 1) _ (by omega) (fun j hj => ?_) (fun j => ?_)
    · simp only [if_neg (show ¬ j = x by omega)]; exact hb j (by omega)
    · rw [hg]
      by_cases e1 : j = x
      · subst e1; rw [if_pos (by omega), if_neg (by omega), if_pos rfl]
      · by_cases e2 : x ≤ j ∧ (j : Int) < e.f0 + e.f1
        · rw [if_pos e2, if_pos (by omega), if_neg e1]
        · rw [if_neg e2, if_neg (by omega), if_neg e1]
theorem specList_l0 (N : Nat) (hN : N ≤ 400) (r : List Ext) : ∀ (q : List Ext) (g : Nat → Int), q.length + r.length = N → (∀ j, 0 ≤ g j ∧ g j ≤ q.length) →
    Ev (fun k => spec_ListOf.l0 k (q ++ r) (tab g) (q.length : Int)) (specGo r g) := by
  induction r with
  | nil => intro q g h hg; exact Ev.step (fun k => by rw [spec_ListOf.l0, if_neg (not_lt_end q)]) (by rw [specGo]; exact specPick 24 g 0 [] rfl (by simp))
  | cons e r ih =>
    intro q g h hg
    simp only [List.length_cons] at h
    have key : Ev (fun k => spec_ListOf.j1 k (q ++ e :: r) (tab g) (q.length : Int) (!decide (okE e))) (specGo (e :: r) g) := by
      rw [specGo]
      by_cases ho : okE e
      · obtain ⟨⟨a1, a2⟩, a3, a4⟩ := id ho
        rw [if_pos ho, decide_eq_true ho]
        refine Ev.step (fun k => by rw [spec_ListOf.j1, if_neg (by decide), if_pos (by omega), if_pos (lt_mid q e r), rdE_mid]) ?_
        have hr := ih (q ++ [e]) (bump g e.f0 e.f1) (by simp; omega) (fun j => by
          have := hg j
          unfold bump
          split <;> (rw [List.length_append, List.length_singleton]; omega))
        rw [← snoc_app, List.length_append, List.length_singleton, ← next64 (by omega)] at hr
        have := specInner (q ++ e :: r) q.length e _ (bump g e.f0 e.f1) (by omega) (lt_mid q e r) (rdE_mid q e r) a3 a1 (by omega) hr e.f1.toNat e.f0.toNat g (by omega) (fun j _ => by have := hg j; omega) (fun j => by
          unfold bump
          by_cases e1 : e.f0 ≤ j ∧ (j : Int) < e.f0 + e.f1
          · rw [if_pos e1, if_pos (by omega)]
          · rw [if_neg e1, if_neg (by omega)])
        rw [Int.toNat_of_nonneg a3] at this
        exact this
      · rw [if_neg ho, decide_eq_false ho]
        exact Ev.step (fun k => by rw [spec_ListOf.j1, if_pos (by decide)]) (Ev.now _)
    refine Ev.step (fun k => by rw [spec_ListOf.l0, if_pos (lt_mid q e r), if_pos (by omega), rdE_mid]) ?_
    by_cases h1 : e.f1 < 1
    · simp only [if_pos h1]
      rw [show (!decide (okE e)) = true by rw [decide_eq_false (fun h : okE e => by have := h.1.1; omega)]; rfl] at key; exact key
    · simp only [if_neg h1]
      by_cases h2 : e.f1 > 24
      · simp only [if_pos h2]
        rw [show (!decide (okE e)) = true by rw [decide_eq_false (fun h : okE e => by have := h.1.2; omega)]; rfl] at key; exact key
      · simp only [if_neg h2]
        by_cases h3 : e.f0 < 0
        · simp only [if_pos h3]
          rw [show (!decide (okE e)) = true by rw [decide_eq_false (fun h : okE e => by have := h.2.1; omega)]; rfl] at key; exact key
        · simp only [if_neg h3]
          rw [wrap64_id (n := 24 - e.f1) (by omega) (by omega)]
          rw [show (!decide (okE e)) = decide (e.f0 > 24 - e.f1) by rw [decide_congr' (show okE e ↔ ¬ (e.f0 > 24 - e.f1) from ⟨fun h => by have := h.2.2; omega, fun h => ⟨⟨by omega, by omega⟩, by omega, by omega⟩⟩), decide_not, Bool.not_not]] at key; exact key

theorem shl_nat (x i : Nat) (hi : i ≤ 60) (hx : x * 2 ^ i < 9223372036854775808) : shl .i64 (x : Int) (i : Int) = ((x * 2 ^ i : Nat) : Int) := by
  unfold shl
  rw [show min (i : Int).toNat IntKind.i64.bits = i by simp [IntKind.bits]; omega]
  have e2 : (x : Int) * 2 ^ i = ((x * 2 ^ i : Nat) : Int) := by simp
  rw [e2, wraps_i64 _ (Int.natCast_nonneg _) (Int.ofNat_lt.2 hx)]
theorem own_lt (e : Ext) (h : okE e) : own e < 16777216 := by
  obtain ⟨⟨a1, a2⟩, a3, a4⟩ := h
  have h1 : own e < 2 ^ e.f1.toNat * 2 ^ e.f0.toNat := Nat.mul_lt_mul_of_pos_right (by have := Nat.two_pow_pos e.f1.toNat; omega) (Nat.two_pow_pos _)
  rw [← Nat.pow_add] at h1
  have h2 : 2 ^ (e.f1.toNat + e.f0.toNat) ≤ 2 ^ 24 := Nat.pow_le_pow_right (by omega) (by omega)
  have h3 : (2 : Nat) ^ 24 = 16777216 := by decide
  omega
theorem own_bit (e : Ext) (h : okE e) (j : Nat) : (own e).testBit j = decide (e.f0 ≤ j ∧ (j : Int) < e.f0 + e.f1) := by
  obtain ⟨⟨a1, a2⟩, a3, a4⟩ := h
  unfold own
  rw [Nat.testBit_mul_two_pow, Nat.testBit_two_pow_sub_one, Bool.eq_iff_iff]
  simp only [Bool.and_eq_true, decide_eq_true_eq]
  omega
theorem own_int (e : Ext) (h : okE e) : shl .i64 (wrap64 ((shl .i64 1 e.f1) - 1)) e.f0 = (own e : Int) := by
  have hl := own_lt e h
  obtain ⟨⟨a1, a2⟩, a3, a4⟩ := h
  unfold own at hl ⊢
  have hp := Nat.two_pow_pos e.f1.toNat
  have hq : 2 ^ e.f1.toNat ≤ 2 ^ 24 := Nat.pow_le_pow_right (by omega) (by omega)
  have hq2 : (2 : Nat) ^ 24 = 16777216 := by decide
  have h1 := shl_one e.f1.toNat (by omega)
  rw [Int.toNat_of_nonneg (by omega)] at h1
  rw [h1, wrap64_id (by omega) (by omega), show ((2 ^ e.f1.toNat : Nat) : Int) - 1 = ((2 ^ e.f1.toNat - 1 : Nat) : Int) by omega]
  have h2 := shl_nat (2 ^ e.f1.toNat - 1) e.f0.toNat (by omega) (by omega)
  rw [Int.toNat_of_nonneg a3] at h2
  exact h2
theorem implList_l1 (N : Nat) (hN : N ≤ 400) (r : List Ext) : ∀ (q : List Ext) (v : Nat), q.length + r.length = N → v < 16777216 → (∀ e ∈ r, okE e) →
    Ev (fun k => impl_ListOf.l1 k (v : Int) (q ++ r) ((q ++ r).length : Int) (q.length : Int)) (implGo r v) := by
  induction r with
  | nil =>
    intro q v h hv _
    refine Ev.step (fun k => by rw [impl_ListOf.l1, if_neg (not_lt_end q)]) ?_
    have := implFrom v (by omega) (by omega)
    rw [Int.toNat_natCast] at this
    exact Ev.bind this (Ev.now _)
  | cons e r ih =>
    intro q v h hv ho
    simp only [List.length_cons] at h
    have he := ho e (by simp)
    have hl := own_lt e he
    have hi := own_int e he
    obtain ⟨⟨a1, a2⟩, a3, a4⟩ := id he
    refine Ev.step (fun k => by rw [impl_ListOf.l1, if_pos (lt_mid q e r), if_pos (by omega), if_pos (lt_mid q e r), rdE_mid, if_pos (by omega), if_pos a3, hi, and_i64 v (own e) (by omega) (by omega), or_i64 v (own e) (by omega) (by omega), next64 (by omega)]) ?_
    rw [implGo]
    by_cases hz : v &&& own e = 0
    · simp only [if_pos hz, if_pos (show ((v &&& own e : Nat) : Int) = 0 by omega)]
      have := ih (q ++ [e]) (v ||| own e) (by simp; omega) (Nat.or_lt_two_pow (n := 24) (by omega) (by omega)) (fun x hx => ho x (by simp [hx]))
      rw [← snoc_app, len_snoc] at this
      exact this
    · simp only [if_neg hz, if_neg (show ¬ ((v &&& own e : Nat) : Int) = 0 by omega)]
      exact Ev.now _
theorem implList_l0 (N : Nat) (hN : N ≤ 400) (R : List Int × Int) (l : List Ext) (hR : (∀ e ∈ l, okE e) → Ev (fun k => impl_ListOf.l1 k 0 l (l.length : Int) 0) R) (r : List Ext) : ∀ (q : List Ext), q.length + r.length = N → ((∀ e ∈ r, okE e) → ∀ e ∈ l, okE e) →
    Ev (fun k => impl_ListOf.l0 k l (q ++ r) ((q ++ r).length : Int) (q.length : Int)) (if ∀ e ∈ r, okE e then R else ([], 1)) := by
  induction r with
  | nil => intro q h hq; exact Ev.step (fun k => by rw [impl_ListOf.l0, if_neg (not_lt_end q)]) (by simpa using hR (hq (by simp)))
  | cons e r ih =>
    intro q h hq
    simp only [List.length_cons] at h
    refine Ev.step (fun k => by rw [impl_ListOf.l0, if_pos (lt_mid q e r), if_pos (by omega), if_pos (lt_mid q e r), rdE_mid, within_eq, next64 (by omega)]) ?_
    simp only [Option.bind_some]
    by_cases ho : okE e
    · obtain ⟨⟨a1, a2⟩, a3, a4⟩ := id ho
      simp only [decide_eq_true (show 1 ≤ e.f1 ∧ e.f1 ≤ 24 from ⟨a1, a2⟩), if_true]
      rw [wrap64_id (n := 24 - e.f1) (by omega) (by omega), within_eq]
      simp only [Option.bind_some, decide_eq_true (show 0 ≤ e.f0 ∧ e.f0 ≤ 24 - e.f1 from ⟨a3, a4⟩), if_true]
      have hb : (∀ x ∈ e :: r, okE x) ↔ (∀ x ∈ r, okE x) := by simp [ho]
      have := ih (q ++ [e]) (by simp; omega) (fun h => hq (hb.2 h))
      rw [← snoc_app, len_snoc] at this
      simp only [hb]
      exact this
    · rw [if_neg (show ¬ (∀ x ∈ e :: r, okE x) from fun h => ho (h e (by simp)))]
      by_cases h1 : 1 ≤ e.f1 ∧ e.f1 ≤ 24
      · simp only [decide_eq_true h1, if_true]
        rw [wrap64_id (n := 24 - e.f1) (by omega) (by omega), within_eq]
        simp only [Option.bind_some, decide_eq_false (show ¬ (0 ≤ e.f0 ∧ e.f0 ≤ 24 - e.f1) from fun h => ho ⟨h1, h⟩), Bool.false_eq_true, if_false]
        exact Ev.now _
      · simp only [decide_eq_false h1, Bool.false_eq_true, if_false]
        exact Ev.now _
theorem implListOf (l : List Ext) (h : l.length < 9223372036854775807) : Ev (fun k => impl_ListOf.f k l) (listOf l) := by
  unfold impl_ListOf.f listOf
  by_cases h1 : l.length > 400
  · simp only [if_pos h1, if_pos (show (l.length : Int) > 400 by omega)]; exact Ev.now _
  · simp only [if_neg h1, if_neg (show ¬ (l.length : Int) > 400 by omega)]
    by_cases ho : ∀ e ∈ l, okE e
    · have := implList_l0 l.length (by omega) (implGo l 0) l (fun _ => implList_l1 l.length (by omega) l [] 0 (by simp) (by omega) ho) l [] (by simp) (fun h => h)
      rw [if_pos ho] at this ⊢; exact this
    · have := implList_l0 l.length (by omega) ([], 1) l (fun h => absurd h ho) l [] (by simp) (fun h => h)
      rw [if_neg ho] at this ⊢; exact this
theorem pick_bits (v : Nat) (d : Nat) : ∀ (g : Nat → Int) (i : Nat) (acc : List Int), i + d = 24 → (∀ j, j < 24 → g j = if v.testBit j = true then 1 else 0) → pickFrom g d i acc = (acc ++ bitsFrom v d i, 0) := by
  induction d with
  | zero => intro g i acc _ _; simp [pickFrom, bitsFrom]
  | succ d ih =>
    intro g i acc h hg
    have hi := hg i (by omega)
    rw [pickFrom, bitsFrom]
    by_cases hb : v.testBit i = true
    · rw [if_pos hb] at hi; rw [if_neg (by omega), if_pos hi, if_pos hb, ih g (i + 1) _ (by omega) hg]; simp
    · rw [if_neg hb] at hi; rw [if_neg (by omega), if_neg (by omega), if_neg hb, ih g (i + 1) _ (by omega) hg]
theorem pick_twice (d : Nat) : ∀ (g : Nat → Int) (i : Nat) (acc : List Int) (j : Nat), i + d = 24 → i ≤ j → j < 24 → g j > 1 → pickFrom g d i acc = ([], 12) := by
  induction d with
  | zero => intro g i acc j h h1 h2 _; omega
  | succ d ih =>
    intro g i acc j h h1 h2 hg
    rw [pickFrom]
    by_cases e : g i > 1
    · rw [if_pos e]
    · have : j ≠ i := fun h => e (h ▸ hg)
      rw [if_neg e]
      split
      · exact ih g (i + 1) _ j (by omega) (by omega) h2 hg
      · exact ih g (i + 1) _ j (by omega) (by omega) h2 hg
theorem specGo_twice (r : List Ext) : ∀ (g : Nat → Int) (j : Nat), (∀ e ∈ r, okE e) → j < 24 → g j > 1 → specGo r g = ([], 12) := by
  induction r with
  | nil => intro g j _ h hg; exact pick_twice 24 g 0 [] j rfl (by omega) h hg
  | cons e r ih =>
    intro g j ho h hg
    rw [specGo, if_pos (ho e (by simp))]
    refine ih _ j (fun x hx => ho x (by simp [hx])) h ?_
    unfold bump; split <;> omega
theorem specGo_form (r : List Ext) : ∀ (g : Nat → Int), ¬ (∀ e ∈ r, okE e) → specGo r g = ([], 1) := by
  induction r with
  | nil => intro g h; exact absurd (by simp) h
  | cons e r ih =>
    intro g h
    rw [specGo]
    by_cases he : okE e
    · rw [if_pos he]; exact ih _ (fun h2 => h (fun x hx => by rcases List.mem_cons.1 hx with rfl | hx; exact he; exact h2 x hx))
    · rw [if_neg he]
theorem specGo_impl (r : List Ext) : ∀ (g : Nat → Int) (v : Nat), (∀ e ∈ r, okE e) → (∀ j, j < 24 → g j = if v.testBit j = true then 1 else 0) → specGo r g = implGo r v := by
  induction r with
  | nil => intro g v _ hg; rw [specGo, implGo, pick_bits v 24 g 0 [] rfl hg]; rfl
  | cons e r ih =>
    intro g v ho hg
    have he := ho e (by simp)
    have hb := own_bit e he
    rw [specGo, implGo, if_pos he]
    by_cases hz : v &&& own e = 0
    · rw [if_pos hz]
      refine ih _ _ (fun x hx => ho x (by simp [hx])) (fun j hj => ?_)
      have h1 : (v &&& own e).testBit j = false := by rw [hz]; simp
      rw [Nat.testBit_and] at h1
      have h2 := hg j hj
      have h3 := hb j
      rw [Nat.testBit_or]
      unfold bump
      by_cases e1 : e.f0 ≤ j ∧ (j : Int) < e.f0 + e.f1
      · rw [decide_eq_true e1] at h3
        rw [h3, Bool.and_true] at h1
        rw [h1] at h2 ⊢
        rw [if_pos e1, h3, h2]; simp
      · rw [decide_eq_false e1] at h3
        rw [if_neg e1, h3, h2]; simp
    · rw [if_neg hz]
      obtain ⟨j, hj⟩ : ∃ j, (v &&& own e).testBit j = true := Nat.exists_testBit_of_ne_zero hz
      rw [Nat.testBit_and, Bool.and_eq_true, hb j, decide_eq_true_iff] at hj
      obtain ⟨⟨a1, a2⟩, a3, a4⟩ := id he
      refine specGo_twice r _ j (fun x hx => ho x (by simp [hx])) (by omega) ?_
      unfold bump
      rw [if_pos hj.2, hg j (by omega), if_pos hj.1]; omega
theorem specListOf (l : List Ext) (h : l.length < 9223372036854775807) : Ev (fun k => spec_ListOf.f k l) (listOf l) := by
  unfold spec_ListOf.f listOf
  by_cases h1 : l.length > 400
  · simp only [if_pos h1, if_pos (show (l.length : Int) > 400 by omega)]; exact Ev.now _
  · simp only [if_neg h1, if_neg (show ¬ (l.length : Int) > 400 by omega), if_pos (show 24 ≤ 35184372088832 by omega)]
    have := specList_l0 l.length (by omega) l [] (fun _ => 0) (by simp) (by simp)
    have e : tab (fun _ => 0) = List.replicate 24 0 := by decide
    rw [e] at this
    by_cases ho : ∀ e ∈ l, okE e
    · rw [if_pos ho, ← specGo_impl l (fun _ => 0) 0 ho (by simp)]; exact this
    · rw [if_neg ho, ← specGo_form l (fun _ => 0) ho]; exact this
theorem listOf_length (l : List Ext) : (listOf l).1.length ≤ 24 := by
  have : ∀ (r : List Ext) (v : Nat), (implGo r v).1.length ≤ 24 := by
    intro r
    induction r with
    | nil => intro v; exact bitList_length v
    | cons e r ih =>
      intro v
      rw [implGo]
      split
      · exact ih _
      · simp
  unfold listOf
  split
  · simp
  · split
    · exact this l 0
    · simp
end Go.Proofs.Ytcmoenkbckmmfaa.Pure
namespace Go.Proofs.Ytcmoenkbckmmfaa.Pure
set_option linter.unusedVariables false
set_option linter.unusedSimpArgs false
open Go Go.RowKit Go.Proofs.Ytcmoenkbckmmfaa.Q Go.Proofs.YtcmoenkbckmmfaaW.PrintWords Go.Proofs.YtcmoenkbckmmfaaW.PrintLast Go.Proofs.YtcmoenkbckmmfaaW.PrintMore
theorem mem_bitsFrom (v : Nat) : ∀ (d i : Nat) (x : Int), x ∈ bitsFrom v d i ↔ ∃ k : Nat, i ≤ k ∧ k < i + d ∧ v.testBit k = true ∧ x = (k : Int) := by
  intro d
  induction d with
  | zero => intro i x; simp [bitsFrom]; intro k h1 h2; omega
  | succ d ih =>
    intro i x
    rw [bitsFrom]
    by_cases g : v.testBit i = true
    · rw [if_pos g, List.mem_cons, ih]
      constructor
      · rintro (rfl | ⟨k, h1, h2, h3, h4⟩)
        · exact ⟨i, Nat.le_refl _, by omega, g, rfl⟩
        · exact ⟨k, by omega, by omega, h3, h4⟩
      · rintro ⟨k, h1, h2, h3, h4⟩
        by_cases e : k = i
        · exact Or.inl (by rw [h4, e])
        · exact Or.inr ⟨k, by omega, by omega, h3, h4⟩
    · rw [if_neg g, ih]
      constructor
      · rintro ⟨k, h1, h2, h3, h4⟩
        exact ⟨k, by omega, by omega, h3, h4⟩
      · rintro ⟨k, h1, h2, h3, h4⟩
        by_cases e : k = i
        · rw [e] at h3; exact absurd h3 g
        · exact ⟨k, by omega, by omega, h3, h4⟩
theorem rises_bits (v : Nat) : ∀ (d i : Nat), i + d = 24 → ∀ p : Int, p < (i : Int) → risesFrom p (bitsFrom v d i) = true := by
  intro d
  induction d with
  | zero => intro i _ p _; rfl
  | succ d ih =>
    intro i h p hp
    rw [bitsFrom]
    split
    · simp only [risesFrom, Bool.and_eq_true, decide_eq_true_eq]
      exact ⟨⟨hp, by omega⟩, ih (i + 1) (by omega) i (by omega)⟩
    · exact ih (i + 1) (by omega) p (by omega)
theorem bitList_rises (v : Nat) : rises (bitList v) = true := rises_bits v 24 0 rfl (-1) (by decide)
theorem rises_ext : ∀ (l m : List Int) (p : Int), risesFrom p l = true → risesFrom p m = true → (∀ x, x ∈ l ↔ x ∈ m) → l = m := by
  intro l
  induction l with
  | nil =>
    intro m p _ _ h
    cases m with
    | nil => rfl
    | cons b m => exact absurd ((h b).2 (by simp)) (by simp)
  | cons a l ih =>
    intro m p hl hm h
    cases m with
    | nil => exact absurd ((h a).1 (by simp)) (by simp)
    | cons b m =>
      simp only [risesFrom, Bool.and_eq_true, decide_eq_true_eq] at hl hm
      have h1 : a ≤ b := by
        rcases List.mem_cons.1 ((h b).2 (by simp)) with e | e
        · omega
        · have := (rises_mem l a hl.2 b e).1; omega
      have h2 : b ≤ a := by
        rcases List.mem_cons.1 ((h a).1 (by simp)) with e | e
        · omega
        · have := (rises_mem m b hm.2 a e).1; omega
      have e : a = b := by omega
      subst e
      rw [ih m a hl.2 hm.2 (fun x => ?_)]
      have hx := h x
      simp only [List.mem_cons] at hx
      constructor
      · intro g
        have := (rises_mem l a hl.2 x g).1
        rcases hx.1 (Or.inr g) with e | e
        · omega
        · exact e
      · intro g
        have := (rises_mem m a hm.2 x g).1
        rcases hx.2 (Or.inr g) with e | e
        · omega
        · exact e
/-- A list whose members are the bits is the list of the bits. -/
theorem bitList_of (v : Nat) (l : List Int) (h : rises l = true) (hv : ∀ k : Nat, v.testBit k = decide ((k : Int) ∈ l)) : bitList v = l := by
  refine rises_ext _ _ (-1) (bitList_rises v) h (fun x => ?_)
  unfold bitList
  rw [mem_bitsFrom]
  constructor
  · rintro ⟨k, _, _, h3, rfl⟩
    rw [hv] at h3
    exact of_decide_eq_true h3
  · intro g
    have hx := rises_mem l (-1) h x g
    refine ⟨x.toNat, by omega, by omega, ?_, by omega⟩
    rw [hv]
    exact decide_eq_true (by rw [show ((x.toNat : Nat) : Int) = x by omega]; exact g)
theorem bits_back (l : List Int) (h : rises l = true) : bitList (mask l) = l := bitList_of _ l h (mask_testBit l h)
theorem mask_back (n : Nat) (h : n < 16777216) : mask (bitList n) = n := by
  apply Nat.eq_of_testBit_eq
  intro k
  rw [mask_testBit _ (bitList_rises n), Bool.eq_iff_iff, decide_eq_true_eq]
  unfold bitList
  rw [mem_bitsFrom]
  constructor
  · rintro ⟨j, _, _, h3, h4⟩
    rw [show k = j by omega]; exact h3
  · intro g
    refine ⟨k, Nat.zero_le _, ?_, g, rfl⟩
    rcases Nat.lt_or_ge k 24 with h1 | h1
    · omega
    · have := Nat.testBit_lt_two_pow (show n < 2 ^ k from Nat.lt_of_lt_of_le (show n < 2 ^ 24 by omega) (Nat.pow_le_pow_right (by omega) h1))
      rw [this] at g; cases g
theorem free_mem (a b : List Int) (k : Nat) (hk : k < 24) : (k : Int) ∈ freeM a b ↔ ¬ ((k : Int) ∈ a ∨ (k : Int) ∈ b) := by
  have key : ∀ (d i : Nat), (k : Int) ∈ freeFrom a b d i ↔ (i ≤ k ∧ k < i + d) ∧ ¬ ((k : Int) ∈ a ∨ (k : Int) ∈ b) := by
    intro d
    induction d with
    | zero => intro i; simp [freeFrom]; intro h1 h2; omega
    | succ d ih =>
      intro i
      rw [freeFrom]
      by_cases g : (i : Int) ∈ a ∨ (i : Int) ∈ b
      · rw [if_pos g, ih]
        constructor
        · rintro ⟨h1, h2⟩; exact ⟨by omega, h2⟩
        · rintro ⟨h1, h2⟩
          by_cases e : k = i
          · rw [e] at h2; exact absurd g h2
          · exact ⟨by omega, h2⟩
      · rw [if_neg g, List.mem_cons, ih]
        constructor
        · rintro (e | ⟨h1, h2⟩)
          · have e2 : k = i := by omega
            rw [e2]; exact ⟨by omega, g⟩
          · exact ⟨by omega, h2⟩
        · rintro ⟨h1, h2⟩
          by_cases e : k = i
          · exact Or.inl (by rw [e])
          · exact Or.inr ⟨by omega, h2⟩
  have := key 24 0
  unfold freeM
  rw [this]
  constructor
  · exact fun h => h.2
  · exact fun h => ⟨by omega, h⟩
def apart : List Ext → Bool
  | e :: f :: r => decide (e.f0 + e.f1 < f.f0) && apart (f :: r)
  | _ => true
theorem runsGo_head : ∀ (r : List Int) (f c : Int), ∃ c' t, runsGo f c r = ⟨f, c'⟩ :: t := by
  intro r
  induction r with
  | nil => intro f c; exact ⟨c, [], rfl⟩
  | cons a r ih =>
    intro f c
    rw [runsGo]
    split
    · exact ih f (c + 1)
    · exact ⟨c, _, rfl⟩
theorem runsGo_apart : ∀ (r : List Int) (f c : Int), risesFrom (f + c - 1) r = true → apart (runsGo f c r) = true := by
  intro r
  induction r with
  | nil => intro f c _; rfl
  | cons a r ih =>
    intro f c h
    simp only [risesFrom, Bool.and_eq_true, decide_eq_true_eq] at h
    rw [runsGo]
    split
    · rename_i e
      exact ih f (c + 1) (by rw [show f + (c + 1) - 1 = a by omega]; exact h.2)
    · rename_i e
      have h1 := ih a 1 (by rw [show a + 1 - 1 = a by omega]; exact h.2)
      obtain ⟨c', t, e2⟩ := runsGo_head r a 1
      rw [e2] at h1 ⊢
      simp only [apart, Bool.and_eq_true, decide_eq_true_eq]
      exact ⟨by omega, h1⟩
theorem runs_apart (l : List Int) (h : rises l = true) : apart (runs l) = true := by
  cases l with
  | nil => rfl
  | cons a r =>
    unfold rises at h
    simp only [risesFrom, Bool.and_eq_true, decide_eq_true_eq] at h
    exact runsGo_apart r a 1 (by rw [show a + 1 - 1 = a by omega]; exact h.2)
theorem and_own {v : Nat} {f c : Int} (h0 : 0 ≤ f) (ho : okE ⟨f, c⟩) (hv : v < 2 ^ f.toNat) : v &&& own ⟨f, c⟩ = 0 := by
  apply Nat.eq_of_testBit_eq
  intro k
  rw [Nat.testBit_and, own_bit _ ho, Nat.zero_testBit]
  by_cases g : f ≤ (k : Int)
  · rw [Nat.testBit_lt_two_pow (show v < 2 ^ k from Nat.lt_of_lt_of_le hv (Nat.pow_le_pow_right (by omega) (by omega)))]; rfl
  · simp [g]
theorem implGo_runs : ∀ (r : List Int) (f c : Int) (v : Nat), 0 ≤ f → 1 ≤ c → f + c ≤ 24 → v < 2 ^ f.toNat → risesFrom (f + c - 1) r = true →
    ∃ w, implGo (runsGo f c r) v = (bitList w, 0) ∧ ∀ k : Nat, w.testBit k = (v.testBit k || decide (f ≤ (k : Int) ∧ (k : Int) < f + c) || decide ((k : Int) ∈ r)) := by
  intro r
  induction r with
  | nil =>
    intro f c v h0 h1 h2 hv _
    have ho : okE ⟨f, c⟩ := ⟨⟨h1, by show c ≤ 24; omega⟩, h0, by show f ≤ 24 - c; omega⟩
    refine ⟨v ||| own ⟨f, c⟩, ?_, fun k => ?_⟩
    · rw [runsGo, implGo, if_pos (and_own h0 ho hv), implGo]
    · rw [Nat.testBit_or, own_bit _ ho]; simp
  | cons a r ih =>
    intro f c v h0 h1 h2 hv h
    simp only [risesFrom, Bool.and_eq_true, decide_eq_true_eq] at h
    rw [runsGo]
    by_cases e : f + c = a
    · rw [if_pos e]
      obtain ⟨w, hw, hb⟩ := ih f (c + 1) v h0 (by omega) (by omega) hv (by rw [show f + (c + 1) - 1 = a by omega]; exact h.2)
      refine ⟨w, hw, fun k => ?_⟩
      rw [hb, Bool.eq_iff_iff]
      simp only [Bool.or_eq_true, decide_eq_true_eq, List.mem_cons]
      constructor
      · rintro ((g | g) | g)
        · exact Or.inl (Or.inl g)
        · by_cases q : (k : Int) < f + c
          · exact Or.inl (Or.inr ⟨g.1, q⟩)
          · exact Or.inr (Or.inl (by omega))
        · exact Or.inr (Or.inr g)
      · rintro ((g | g) | (g | g))
        · exact Or.inl (Or.inl g)
        · exact Or.inl (Or.inr ⟨g.1, by omega⟩)
        · exact Or.inl (Or.inr ⟨by omega, by omega⟩)
        · exact Or.inr g
    · rw [if_neg e, implGo]
      have ho : okE ⟨f, c⟩ := ⟨⟨h1, by show c ≤ 24; omega⟩, h0, by show f ≤ 24 - c; omega⟩
      rw [if_pos (and_own h0 ho hv)]
      have hv2 : v ||| own ⟨f, c⟩ < 2 ^ a.toNat := by
        apply Nat.lt_pow_two_of_testBit
        intro k hk
        rw [Nat.testBit_or, own_bit _ ho, Nat.testBit_lt_two_pow (show v < 2 ^ k from Nat.lt_of_lt_of_le hv (Nat.pow_le_pow_right (by omega) (by omega)))]
        simp; omega
      obtain ⟨w, hw, hb⟩ := ih a 1 (v ||| own ⟨f, c⟩) (by omega) (by omega) (by omega) hv2 (by rw [show a + 1 - 1 = a by omega]; exact h.2)
      refine ⟨w, hw, fun k => ?_⟩
      rw [hb, Nat.testBit_or, own_bit _ ho, Bool.eq_iff_iff]
      simp only [Bool.or_eq_true, decide_eq_true_eq, List.mem_cons]
      constructor
      · rintro (((g | g) | g) | g)
        · exact Or.inl (Or.inl g)
        · exact Or.inl (Or.inr g)
        · exact Or.inr (Or.inl (by omega))
        · exact Or.inr (Or.inr g)
      · rintro ((g | g) | (g | g))
        · exact Or.inl (Or.inl (Or.inl g))
        · exact Or.inl (Or.inl (Or.inr g))
        · exact Or.inl (Or.inr ⟨by omega, by omega⟩)
        · exact Or.inr g
theorem implGo_back (l : List Int) (h : rises l = true) : implGo (runs l) 0 = (l, 0) := by
  cases l with
  | nil =>
    show (bitList 0, (0 : Int)) = ([], 0)
    rw [bitList_of 0 [] rfl (fun k => by simp)]
  | cons a r =>
    have h' := h
    unfold rises at h'
    simp only [risesFrom, Bool.and_eq_true, decide_eq_true_eq] at h'
    obtain ⟨w, hw, hb⟩ := implGo_runs r a 1 0 (by omega) (by omega) (by omega) (Nat.two_pow_pos _) (by rw [show a + 1 - 1 = a by omega]; exact h'.2)
    show implGo (runsGo a 1 r) 0 = _
    rw [hw, bitList_of w (a :: r) h (fun k => ?_)]
    rw [hb, Bool.eq_iff_iff]
    simp only [Nat.zero_testBit, Bool.false_or, Bool.or_eq_true, decide_eq_true_eq, List.mem_cons]
    constructor
    · rintro (g | g)
      · exact Or.inl (by omega)
      · exact Or.inr g
    · rintro (g | g)
      · exact Or.inl ⟨by omega, by omega⟩
      · exact Or.inr g
end Go.Proofs.Ytcmoenkbckmmfaa.Pure
namespace Go.Proofs.Ytcmoenkbckmmfaa.Pure
set_option linter.unusedVariables false
set_option linter.unusedSimpArgs false
open Go Go.RowKit Go.Proofs.Ytcmoenkbckmmfaa.Q Go.Proofs.YtcmoenkbckmmfaaW.PrintWords Go.Proofs.YtcmoenkbckmmfaaW.PrintLast Go.Proofs.YtcmoenkbckmmfaaW.PrintMore
theorem runsGo_ok : ∀ (r : List Int) (f c : Int), 0 ≤ f → 1 ≤ c → f + c ≤ 24 → risesFrom (f + c - 1) r = true → ∀ e ∈ runsGo f c r, okE e := by
  intro r
  induction r with
  | nil =>
    intro f c h0 h1 h2 _ e he
    rw [runsGo, List.mem_singleton] at he
    subst he
    exact ⟨⟨h1, by show c ≤ 24; omega⟩, h0, by show f ≤ 24 - c; omega⟩
  | cons a r ih =>
    intro f c h0 h1 h2 hr e he
    simp only [risesFrom, Bool.and_eq_true, decide_eq_true_eq] at hr
    obtain ⟨⟨a1, a2⟩, a3⟩ := hr
    rw [runsGo] at he
    by_cases hq : f + c = a
    · rw [if_pos hq] at he
      exact ih f (c + 1) h0 (by omega) (by omega) (by rw [show f + (c + 1) - 1 = a by omega]; exact a3) e he
    · rw [if_neg hq] at he
      rcases List.mem_cons.1 he with rfl | he
      · exact ⟨⟨h1, by show c ≤ 24; omega⟩, h0, by show f ≤ 24 - c; omega⟩
      · exact ih a 1 (by omega) (by omega) (by omega) (by rw [show a + 1 - 1 = a by omega]; exact a3) e he
theorem runs_ok (l : List Int) (h : rises l = true) : ∀ e ∈ runs l, okE e := by
  cases l with
  | nil => intro e he; simp [runs] at he
  | cons a r =>
    simp only [rises, risesFrom, Bool.and_eq_true, decide_eq_true_eq] at h
    exact runsGo_ok r a 1 (by omega) (by omega) (by omega) (by rw [show a + 1 - 1 = a by omega]; exact h.2)
def freeOut (a b : List Int) : List Int := if rises a = true ∧ rises b = true then freeM a b else []
theorem freeOut_length (a b : List Int) : (freeOut a b).length ≤ 24 := by
  unfold freeOut; split
  · exact freeM_length a b
  · simp
theorem implFreeOf (a b : List Int) (ha : a.length < 9223372036854775807) (hb : b.length < 9223372036854775807) : Ev (fun k => impl_FreeOf.f k a b) (freeOut a b) := by
  unfold impl_FreeOf.f freeOut
  refine Ev.bind (implRight a ha) ?_
  by_cases h1 : rises a = true
  · simp only [if_pos h1]
    refine Ev.bind (implRight b hb) ?_
    by_cases h2 : rises b = true
    · simp only [if_pos h2, if_pos (show rises a = true ∧ rises b = true from ⟨h1, h2⟩)]
      exact Ev.bind (implFree a b ha hb h1 h2) (Ev.now _)
    · simp only [if_neg h2, if_neg (show ¬ (rises a = true ∧ rises b = true) from fun h => h2 h.2)]; exact Ev.now _
  · simp only [if_neg h1, if_neg (show ¬ (rises a = true ∧ rises b = true) from fun h => h1 h.1)]; exact Ev.now _
theorem specFreeOf (a b : List Int) (ha : a.length < 9223372036854775807) (hb : b.length < 9223372036854775807) : Ev (fun k => spec_FreeOf.f k a b) (freeOut a b) := by
  unfold spec_FreeOf.f freeOut
  refine Ev.bind (specRight a ha) ?_
  by_cases h1 : rises a = true
  · simp only [if_pos h1]
    refine Ev.bind (specRight b hb) ?_
    by_cases h2 : rises b = true
    · simp only [if_pos h2, if_pos (show rises a = true ∧ rises b = true from ⟨h1, h2⟩)]
      exact Ev.bind (specFree a b ha hb) (Ev.now _)
    · simp only [if_neg h2, if_neg (show ¬ (rises a = true ∧ rises b = true) from fun h => h2 h.2)]; exact Ev.now _
  · simp only [if_neg h1, if_neg (show ¬ (rises a = true ∧ rises b = true) from fun h => h1 h.1)]; exact Ev.now _
theorem implBitsOf (l : List Int) (hl : l.length < 9223372036854775807) : Ev (fun k => impl_BitsOf.f k l) (if rises l = true then (mask l : Int) else -1) := by
  unfold impl_BitsOf.f
  refine Ev.bind (implRight l hl) ?_
  by_cases h : rises l = true
  · simp only [if_pos h]
    exact Ev.bind (implBits l hl h) (Ev.now _)
  · simp only [if_neg h]; exact Ev.now _
theorem implFromBits (x : Int) : Ev (fun k => impl_FromBits.f k x) (if x < 0 ∨ x ≥ 16777216 then [] else bitList x.toNat) := by
  unfold impl_FromBits.f
  rw [within_eq]
  simp only [Option.bind_some]
  by_cases h : x < 0 ∨ x ≥ 16777216
  · simp only [if_pos h, decide_eq_false (show ¬ (0 ≤ x ∧ x ≤ 16777215) by omega), Bool.false_eq_true, if_false]; exact Ev.now _
  · simp only [if_neg h, decide_eq_true (show 0 ≤ x ∧ x ≤ 16777215 by omega), if_true]
    exact Ev.bind (implFrom x (by omega) (by omega)) (Ev.now _)
def runsOut (l : List Int) : List Ext := if rises l = true then runs l else []
theorem runsOut_length (l : List Int) : (runsOut l).length ≤ l.length := by
  unfold runsOut; split
  · exact runs_length l
  · simp
theorem implExtentsOf (l : List Int) (h : l.length < 9223372036854775807) : Ev (fun k => impl_ExtentsOf.f k l) (runsOut l) := by
  unfold impl_ExtentsOf.f runsOut
  refine Ev.bind (implRight l h) ?_
  by_cases h1 : rises l = true
  · simp only [if_pos h1]; exact Ev.bind (implRuns l h1) (Ev.now _)
  · simp only [if_neg h1]; exact Ev.now _
theorem specExtentsOf (l : List Int) (h : l.length < 9223372036854775807) : Ev (fun k => spec_ExtentsOf.f k l) (runsOut l) := by
  unfold spec_ExtentsOf.f runsOut
  refine Ev.bind (specRight l h) ?_
  by_cases h1 : rises l = true
  · simp only [if_pos h1]; exact Ev.bind (specRuns l h1) (Ev.now _)
  · simp only [if_neg h1]; exact Ev.now _
theorem lwNums_l0 (N : Nat) (hN : N < 9223372036854775807) (r : List Int) : ∀ p : List Int, p.length + r.length = N → Ev (fun k => laws_lwNums.l0 k (p ++ r) (p ++ r) (p.length : Int)) true := by
  induction r with
  | nil => intro p h; exact Ev.step (fun k => by rw [laws_lwNums.l0, if_neg (not_lt_end p)]) (Ev.now _)
  | cons a r ih =>
    intro p h
    simp only [List.length_cons] at h
    refine Ev.step (fun k => by rw [laws_lwNums.l0, if_pos (lt_mid p a r), if_pos (by omega), if_pos (lt_mid p a r), if_pos rfl, next64 (by omega)]) ?_
    have := ih (p ++ [a]) (by simp; omega)
    rw [← snoc_app, len_snoc] at this
    exact this
theorem lwNums_same (l : List Int) (h : l.length < 9223372036854775807) : Ev (fun k => laws_lwNums.f k l l) true := by
  unfold laws_lwNums.f
  simp only [if_true]
  exact lwNums_l0 l.length h l [] (by simp)
theorem lwRuns_l0 (N : Nat) (hN : N < 9223372036854775807) (r : List Ext) : ∀ p : List Ext, p.length + r.length = N → Ev (fun k => laws_lwRuns.l0 k (p ++ r) (p ++ r) (p.length : Int)) true := by
  induction r with
  | nil => intro p h; exact Ev.step (fun k => by rw [laws_lwRuns.l0, if_neg (not_lt_end p)]) (Ev.now _)
  | cons a r ih =>
    intro p h
    simp only [List.length_cons] at h
    refine Ev.step (fun k => by rw [laws_lwRuns.l0, if_pos (lt_mid p a r), if_pos (by omega), if_pos (lt_mid p a r), if_neg (by simp), next64 (by omega)]) ?_
    have := ih (p ++ [a]) (by simp; omega)
    rw [← snoc_app, len_snoc] at this
    exact this
theorem lwRuns_same (l : List Ext) (h : l.length < 9223372036854775807) : Ev (fun k => laws_lwRuns.f k l l) true := by
  unfold laws_lwRuns.f
  simp only [if_true]
  exact lwRuns_l0 l.length h l [] (by simp)
theorem implListRight (l : List Int) (h : l.length < 9223372036854775807) : Ev (fun k => impl_ListRight.f k l) (rises l) := by
  unfold impl_ListRight.f
  exact Ev.bind (implRight l h) (Ev.now _)
end Go.Proofs.Ytcmoenkbckmmfaa.Pure
namespace Go.Proofs.Ytcmoenkbckmmfaa.Pure
set_option linter.unusedVariables false
set_option linter.unusedSimpArgs false
open Go Go.RowKit Go.Proofs.Ytcmoenkbckmmfaa.Q Go.Proofs.YtcmoenkbckmmfaaW.PrintWords Go.Proofs.YtcmoenkbckmmfaaW.PrintLast Go.Proofs.YtcmoenkbckmmfaaW.PrintMore
/-- Where a source stands in its bytes. -/
def St (b : List Int) (i : Int) : Prop := 0 ≤ i ∧ i ≤ b.length ∧ b.length ≤ 1048576
theorem out_range (v m a : Int) (ha : 1 < a) (h : a ≤ 9223372036854775807) : 0 ≤ spec_l01Src_n.out v m a ∧ spec_l01Src_n.out v m a < a := by
  unfold spec_l01Src_n.out
  have h0 : 0 ≤ IntKind.u64.wrap (v + m / 1048576) := by rw [wrap_u64]; omega
  rw [wrap_u64_id (n := a) (by omega) (by omega)]
  generalize IntKind.u64.wrap (v + m / 1048576) = x at h0
  have h1 : 0 ≤ Int.tmod x a := Int.tmod_nonneg _ h0
  have h2 : Int.tmod x a < a := Int.tmod_lt_of_pos _ (by omega)
  rw [wrap64_id (by omega) (by omega)]
  exact ⟨h1, h2⟩
theorem draw_n (b : List Int) (i m s a : Int) (h : St b i) (ha : a ≤ 9223372036854775807) :
    ∃ r i' m', spec_l01Src_n.f b i m s a = some (r, i', m', s) ∧ St b i' ∧ 0 ≤ r ∧ (a ≤ 1 → r = 0) ∧ (1 < a → r < a) := by
  obtain ⟨h0, h1, h2⟩ := h
  unfold spec_l01Src_n.f
  by_cases g : a ≤ 1
  · exact ⟨0, i, m, by rw [if_pos g], ⟨h0, h1, h2⟩, by omega, fun _ => rfl, fun _ => by omega⟩
  · rw [if_neg g, if_neg (by rw [wrap_u64_id (by omega) (by omega)]; omega)]
    by_cases g2 : i < (b.length : Int)
    · have := out_range (IntKind.u64.wrap (rd b i)) (spec_l01Src_n.mix m) a (by omega) ha
      exact ⟨_, _, _, by rw [if_pos g2, if_pos h0, wrap64_id (by omega) (by omega)], ⟨by omega, by omega, h2⟩, this.1, fun _ => by omega, fun _ => this.2⟩
    · have := out_range 0 (spec_l01Src_n.mix m) a (by omega) ha
      exact ⟨_, _, _, by rw [if_neg g2], ⟨h0, h1, h2⟩, this.1, fun _ => by omega, fun _ => this.2⟩
theorem source_l0 (N : Nat) (hN : N ≤ 1048576) (l : List Int) (hl : l.length = N) (d : Nat) : ∀ (i : Nat) (m : Int), i + d = N → ∃ m' s', 0 ≤ s' ∧ s' ≤ 12 ∧ Ev (fun k => spec_l01Source.l0 k l (i : Int) l 0 m 0) (l, 0, m', s') := by
  have fin : ∀ m : Int, ∃ m' s', 0 ≤ s' ∧ s' ≤ 12 ∧ Ev (fun _ => (if (wrap64 ((l.length : Int) / 20)) > 12 then (some (l, (0 : Int), m, (12 : Int))) else (some (l, 0, m, wrap64 ((l.length : Int) / 20))))) (l, 0, m', s') := by
    intro m
    rw [wrap64_id (by omega) (by omega)]
    by_cases g : (l.length : Int) / 20 > 12
    · exact ⟨m, 12, by omega, by omega, by rw [if_pos g]; exact Ev.now _⟩
    · exact ⟨m, (l.length : Int) / 20, by omega, by omega, by rw [if_neg g]; exact Ev.now _⟩
  induction d with
  | zero =>
    intro i m h
    obtain ⟨m', s', a, b, e⟩ := fin m
    exact ⟨m', s', a, b, Ev.step (fun k => by rw [spec_l01Source.l0, if_neg (by omega)]) e⟩
  | succ d ih =>
    intro i m h
    by_cases g : (i : Int) < 64
    · obtain ⟨m', s', a, b, e⟩ := ih (i + 1) (IntKind.u64.wrap ((Go.bits .xor .u64 m (IntKind.u64.wrap (rd l (i : Int)))) * 1099511628211)) (by omega)
      exact ⟨m', s', a, b, Ev.step (fun k => by rw [spec_l01Source.l0, if_pos (by omega), if_pos g, if_pos (by omega), next64 (by omega)]) e⟩
    · obtain ⟨m', s', a, b, e⟩ := fin m
      exact ⟨m', s', a, b, Ev.step (fun k => by rw [spec_l01Source.l0, if_pos (by omega), if_neg g]) e⟩
theorem draw_source (l : List Int) (h : l.length ≤ 1048576) : ∃ m s, 0 ≤ s ∧ s ≤ 12 ∧ St l 0 ∧ Ev (fun k => spec_l01Source.f k l) (l, 0, m, s) := by
  obtain ⟨m, s, a, b, e⟩ := source_l0 l.length h l rfl l.length 0 88172645463325252 (by omega)
  exact ⟨m, s, a, b, ⟨by omega, by omega, h⟩, e⟩
end Go.Proofs.Ytcmoenkbckmmfaa.Pure
namespace Go.Proofs.Ytcmoenkbckmmfaa.Pure
set_option linter.unusedVariables false
set_option linter.unusedSimpArgs false
open Go Go.RowKit Go.Proofs.Ytcmoenkbckmmfaa.Q Go.Proofs.YtcmoenkbckmmfaaW.PrintWords Go.Proofs.YtcmoenkbckmmfaaW.PrintLast Go.Proofs.YtcmoenkbckmmfaaW.PrintMore
theorem draw_one (b : List Int) (i m s a : Int) (h : St b i) (ha : a ≤ 9223372036854775807) :
    ∃ r i' m', spec_l01Src_one.f b i m s a = some (r, i', m', s) ∧ St b i' := by
  obtain ⟨r, i', m', e, h', _⟩ := draw_n b i m s a h ha
  unfold spec_l01Src_one.f
  rw [e]
  exact ⟨_, _, _, rfl, h'⟩
end Go.Proofs.Ytcmoenkbckmmfaa.Pure
namespace Go.Proofs.Ytcmoenkbckmmfaa.Pure
set_option linter.unusedVariables false
set_option linter.unusedSimpArgs false
open Go Go.RowKit Go.Proofs.Ytcmoenkbckmmfaa.Q Go.Proofs.YtcmoenkbckmmfaaW.PrintWords Go.Proofs.YtcmoenkbckmmfaaW.PrintLast Go.Proofs.YtcmoenkbckmmfaaW.PrintMore
theorem edges_range : ∀ x ∈ ([0, 1, (-1), 2, 1000, 1001, 2147483648, 2147483647, (-2147483648), 4611686018427387904, 9223372036854775807, (-9223372036854775808), 1000000, 1000001] : List Int), -9223372036854775808 ≤ x ∧ x ≤ 9223372036854775807 := by decide
theorem draw_edge (b : List Int) (i m s : Int) (h : St b i) : ∃ r i' m', spec_l01Src_edge.f b i m s = some (r, i', m', s) ∧ St b i' ∧ -9223372036854775808 ≤ r ∧ r ≤ 9223372036854775807 := by
  unfold spec_l01Src_edge.f
  obtain ⟨r, i', m', e, h', b0, b1, b2⟩ := draw_n b i m s 14 h (by omega)
  have b2 := b2 (by omega)
  simp only [Option.bind_some, e]
  rw [if_pos b0, if_pos (by simp only [List.length_cons, List.length_nil]; omega)]
  refine ⟨_, _, _, rfl, h', edges_range _ ?_⟩
  have hl : r.toNat < ([0, 1, (-1), 2, 1000, 1001, 2147483648, 2147483647, (-2147483648), 4611686018427387904, 9223372036854775807, (-9223372036854775808), 1000000, 1000001] : List Int).length := by simp only [List.length_cons, List.length_nil]; omega
  rw [rd, List.getD_eq_getElem?_getD, List.getElem?_eq_getElem hl, Option.getD_some]
  exact List.getElem_mem _
end Go.Proofs.Ytcmoenkbckmmfaa.Pure
namespace Go.Proofs.Ytcmoenkbckmmfaa.Pure
set_option linter.unusedVariables false
set_option linter.unusedSimpArgs false
open Go Go.RowKit Go.Proofs.Ytcmoenkbckmmfaa.Q Go.Proofs.YtcmoenkbckmmfaaW.PrintWords Go.Proofs.YtcmoenkbckmmfaaW.PrintLast Go.Proofs.YtcmoenkbckmmfaaW.PrintMore
theorem draw_between (b : List Int) (i m s lo hi : Int) (h : St b i) (h0 : -1000000 ≤ lo) (h1 : lo ≤ hi) (h2 : hi ≤ 1000000) :
    ∃ r i' m', spec_l01Src_between.f b i m s lo hi = some (r, i', m', s) ∧ St b i' ∧ lo ≤ r ∧ r ≤ hi := by
  unfold spec_l01Src_between.f
  rw [wrap64_id (n := hi - lo) (by omega) (by omega), wrap64_id (n := hi - lo + 1) (by omega) (by omega)]
  obtain ⟨r, i', m', e, h', b0, b1, b2⟩ := draw_n b i m s (hi - lo + 1) h (by omega)
  rw [e]
  refine ⟨_, _, _, rfl, h', ?_, ?_⟩ <;> (rw [wrap64_id (by omega) (by omega)]; omega)
end Go.Proofs.Ytcmoenkbckmmfaa.Pure
namespace Go.Proofs.Ytcmoenkbckmmfaa.Pure
set_option linter.unusedVariables false
set_option linter.unusedSimpArgs false
open Go Go.RowKit Go.Proofs.Ytcmoenkbckmmfaa.Q Go.Proofs.YtcmoenkbckmmfaaW.PrintWords Go.Proofs.YtcmoenkbckmmfaaW.PrintLast Go.Proofs.YtcmoenkbckmmfaaW.PrintMore
theorem draw_list_l0 (b : List Int) (s lo hi : Int) (h0 : -1000000 ≤ lo) (h1 : lo ≤ hi) (h2 : hi ≤ 1000000) (d : Nat) : ∀ (acc : List Int) (i m : Int), d + acc.length ≤ 1000 → St b i →
    ∃ r i' m', Ev (fun k => spec_l01Src_list.l0 k (d : Int) lo hi acc b i m s) (r, i', m', s) ∧ St b i' ∧ r.length = d + acc.length ∧ ((∀ x ∈ acc, lo ≤ x ∧ x ≤ hi) → ∀ x ∈ r, lo ≤ x ∧ x ≤ hi) := by
  induction d with
  | zero =>
    intro acc i m hl hs
    exact ⟨acc, i, m, Ev.step (fun k => by rw [spec_l01Src_list.l0, if_neg (by omega)]) (Ev.now _), hs, by omega, fun h => h⟩
  | succ d ih =>
    intro acc i m hl hs
    obtain ⟨r, i', m', e, h', c0, c1⟩ := draw_between b i m s lo hi hs h0 h1 h2
    obtain ⟨r2, i2, m2, e2, h2, b2, c2⟩ := ih (acc ++ [r]) i' m' (by simp; omega) h'
    refine ⟨r2, i2, m2, Ev.step (fun k => by rw [spec_l01Src_list.l0, if_pos (by omega), e, wrap64_id (by omega) (by omega)]) ?_, h2, by rw [b2, List.length_append, List.length_singleton]; omega, fun h => c2 (fun x hx => ?_)⟩
    · simp only [Option.bind_some, if_pos (show acc.length < 17592186044416 by omega)]
      rw [show ((d + 1 : Nat) : Int) - 1 = (d : Int) by omega]
      exact e2
    · rcases List.mem_append.1 hx with hx | hx
      · exact h x hx
      · rw [List.mem_singleton] at hx; subst hx; exact ⟨c0, c1⟩
theorem draw_list (b : List Int) (i m s n lo hi : Int) (hn0 : 0 ≤ n) (hn : n ≤ 1000) (h0 : -1000000 ≤ lo) (h1 : lo ≤ hi) (h2 : hi ≤ 1000000) (hs : St b i) :
    ∃ r i' m', Ev (fun k => spec_l01Src_list.f k b i m s n lo hi) (r, i', m', s) ∧ St b i' ∧ (r.length : Int) = n ∧ ∀ x ∈ r, lo ≤ x ∧ x ≤ hi := by
  unfold spec_l01Src_list.f
  obtain ⟨r, i', m', e, h', l, c⟩ := draw_list_l0 b s lo hi h0 h1 h2 n.toNat [] i m (by simp; omega) hs
  rw [Int.toNat_of_nonneg hn0] at e
  exact ⟨r, i', m', e, h', by simp at l; omega, c (by simp)⟩
end Go.Proofs.Ytcmoenkbckmmfaa.Pure
namespace Go.Proofs.Ytcmoenkbckmmfaa.Pure
set_option linter.unusedVariables false
set_option linter.unusedSimpArgs false
open Go Go.RowKit Go.Proofs.Ytcmoenkbckmmfaa.Q Go.Proofs.YtcmoenkbckmmfaaW.PrintWords Go.Proofs.YtcmoenkbckmmfaaW.PrintLast Go.Proofs.YtcmoenkbckmmfaaW.PrintMore
theorem draw_rising_l0 (b : List Int) (s n a : Int) (hn : n ≤ 1000) (ha : a ≤ 9223372036854775807) (d : Nat) : ∀ (j : Nat) (acc : List Int) (i m : Int), (j : Int) + d = n → acc.length ≤ j → St b i →
    ∃ r i' m', Ev (fun k => spec_l01Src_rising.l0 k n a acc (j : Int) b i m s) (r, i', m', s) ∧ St b i' ∧ (r.length : Int) ≤ n := by
  induction d with
  | zero =>
    intro j acc i m h hl hs
    exact ⟨acc, i, m, Ev.step (fun k => by rw [spec_l01Src_rising.l0, if_neg (by omega)]) (Ev.now _), hs, by omega⟩
  | succ d ih =>
    intro j acc i m h hl hs
    obtain ⟨r, i', m', e, h'⟩ := draw_one b i m s a hs ha
    by_cases hr : r = true
    · obtain ⟨r2, i2, m2, e2, h2, b2⟩ := ih (j + 1) (acc ++ [(j : Int)]) i' m' (by omega) (by simp; omega) h'
      refine ⟨r2, i2, m2, Ev.step (fun k => by rw [spec_l01Src_rising.l0, if_pos (by omega), e, next64 (by omega)]) ?_, h2, b2⟩
      simp only [Option.bind_some, if_pos hr, if_pos (show acc.length < 17592186044416 by omega)]
      exact e2
    · obtain ⟨r2, i2, m2, e2, h2, b2⟩ := ih (j + 1) acc i' m' (by omega) (by omega) h'
      refine ⟨r2, i2, m2, Ev.step (fun k => by rw [spec_l01Src_rising.l0, if_pos (by omega), e, next64 (by omega)]) ?_, h2, b2⟩
      simp only [Option.bind_some, if_neg hr]
      exact e2
theorem draw_rising (b : List Int) (i m s n a : Int) (hn0 : 0 ≤ n) (hn : n ≤ 1000) (ha : a ≤ 9223372036854775807) (hs : St b i) :
    ∃ r i' m', Ev (fun k => spec_l01Src_rising.f k b i m s n a) (r, i', m', s) ∧ St b i' ∧ (r.length : Int) ≤ n := by
  unfold spec_l01Src_rising.f
  exact draw_rising_l0 b s n a hn ha n.toNat 0 [] i m (by omega) (by simp) hs
theorem draw_l05List (b : List Int) (i m s : Int) (hs : St b i) : ∃ r i' m', Ev (fun k => spec_l01Src_l05List.f k b i m s) (r, i', m', s) ∧ St b i' ∧ r.length ≤ 25 := by
  unfold spec_l01Src_l05List.f
  obtain ⟨r1, i1, m1, e1, s1, a1, a2, a3⟩ := draw_n b i m s 4 hs (by omega)
  simp only [e1, Option.bind_some]
  have := a3 (by omega)
  rw [wrap64_id (n := 2 + r1) (by omega) (by omega)]
  obtain ⟨r2, i2, m2, e2, s2, l2⟩ := draw_rising b i1 m1 s 24 (2 + r1) (by omega) (by omega) (by omega) s1
  obtain ⟨r3, i3, m3, e3, s3⟩ := draw_one b i2 m2 s 15 s2 (by omega)
  obtain ⟨r4, i4, m4, e4, s4, _⟩ := draw_n b i3 m3 s 3 s3 (by omega)
  obtain ⟨r5, i5, m5, e5, s5, _⟩ := draw_n b i4 m4 s 26 s4 (by omega)
  obtain ⟨r6, i6, m6, e6, s6, c0, _, c1⟩ := draw_n b i4 m4 s 2 s4 (by omega)
  have c1 := c1 (by omega)
  obtain ⟨r7, i7, m7, e7, s7, l7, _⟩ := draw_list b i6 m6 s (24 + r6) 0 23 (by omega) (by omega) (by omega) (by omega) (by omega) s6
  by_cases g1 : r3 = true
  · by_cases g2 : r4 = 0
    · refine ⟨r2 ++ [wrap64 (r5 - 1)], i5, m5, Ev.bind e2 ?_, s5, ?_⟩
      · simp only [e3, Option.bind_some, if_pos g1, e4, if_pos g2, e5, if_pos (show r2.length < 17592186044416 by omega)]; exact Ev.now _
      · simp; omega
    · by_cases g3 : r4 = 1
      · refine ⟨[5] ++ r2, i4, m4, Ev.bind e2 ?_, s4, ?_⟩
        · simp only [e3, Option.bind_some, if_pos g1, e4, if_neg g2, if_pos g3, if_pos (show [(5 : Int)].length + r2.length < 17592186044416 by simp only [List.length_singleton]; omega)]; exact Ev.now _
        · simp; omega
      · refine ⟨r7, i7, m7, Ev.bind e2 ?_, s7, ?_⟩
        · simp only [e3, Option.bind_some, if_pos g1, e4, if_neg g2, if_neg g3, e6]
          rw [wrap64_id (n := 24 + r6) (by omega) (by omega)]
          exact Ev.bind e7 (Ev.now _)
        · omega
  · refine ⟨r2, i3, m3, Ev.bind e2 ?_, s3, ?_⟩
    · simp only [e3, Option.bind_some, if_neg g1]; exact Ev.now _
    · omega
end Go.Proofs.Ytcmoenkbckmmfaa.Pure
namespace Go.Proofs.Ytcmoenkbckmmfaa.Pure
set_option linter.unusedVariables false
set_option linter.unusedSimpArgs false
open Go Go.RowKit Go.Proofs.Ytcmoenkbckmmfaa.Q Go.Proofs.YtcmoenkbckmmfaaW.PrintWords Go.Proofs.YtcmoenkbckmmfaaW.PrintLast Go.Proofs.YtcmoenkbckmmfaaW.PrintMore
theorem laws_apart (l : List Ext) (ho : ∀ e ∈ l, okE e) (h : apart l = true) : laws_FnArea.apart l = true := by
  induction l with
  | nil => rfl
  | cons e l ih =>
    cases l with
    | nil => rfl
    | cons f r =>
      simp only [apart, Bool.and_eq_true, decide_eq_true_eq] at h
      simp only [laws_FnArea.apart, Bool.and_eq_true, decide_eq_true_eq]
      obtain ⟨⟨a1, a2⟩, a3, a4⟩ := ho e (by simp)
      exact ⟨by rw [wrap64_id (by omega) (by omega)]; exact h.1, ih (fun x hx => ho x (by simp [hx])) h.2⟩
theorem inL_eq (l : List Int) (k : Int) : laws_FnArea.inL l k = decide (k ∈ l) := by
  unfold laws_FnArea.inL
  rw [Bool.eq_iff_iff, List.any_eq_true, decide_eq_true_eq]
  constructor
  · rintro ⟨x, hx, e⟩
    rw [← (show x = k by simpa using e)]; exact hx
  · intro h; exact ⟨k, h, by simp⟩
theorem cover_free (a b : List Int) : ∀ d k : Nat, k + d = 24 → laws_FnArea.cover a b (freeM a b) d k = true := by
  intro d
  induction d with
  | zero => intro k _; rfl
  | succ d ih =>
    intro k h
    simp only [laws_FnArea.cover, Bool.and_eq_true]
    refine ⟨?_, ih (k + 1) (by omega)⟩
    rw [inL_eq, inL_eq, inL_eq]
    have := free_mem a b k (by omega)
    by_cases g : (k : Int) ∈ a ∨ (k : Int) ∈ b
    · have h2 : ¬ (k : Int) ∈ freeM a b := fun h => this.1 h g
      rw [decide_eq_false h2]
      rcases g with g | g
      · rw [decide_eq_true g]; simp
      · rw [decide_eq_true g]; simp
    · rw [decide_eq_true (this.2 g), decide_eq_false (fun h => g (.inl h)), decide_eq_false (fun h => g (.inr h))]; rfl
theorem draw_FreeOf (l : List Int) (h : l.length ≤ 1048576) : ∃ a b, Ev (fun k => spec_DrawFreeOf.f k l) (a, b) ∧ a.length ≤ 25 ∧ b.length ≤ 25 := by
  unfold spec_DrawFreeOf.f
  obtain ⟨m, s, _, _, hs, e0⟩ := draw_source l h
  obtain ⟨a, i1, m1, e1, s1, l1⟩ := draw_l05List l 0 m s hs
  obtain ⟨b, i2, m2, e2, s2, l2⟩ := draw_l05List l i1 m1 s s1
  exact ⟨a, b, Ev.bind e0 (Ev.bind e1 (Ev.bind e2 (Ev.now _))), l1, l2⟩
theorem draw_FromBits (l : List Int) (h : l.length ≤ 1048576) : ∃ n, Ev (fun k => spec_DrawFromBits.f k l) n := by
  unfold spec_DrawFromBits.f
  obtain ⟨m, s, _, _, hs, e0⟩ := draw_source l h
  obtain ⟨r1, i1, m1, e1, s1⟩ := draw_one l 0 m s 5 hs (by omega)
  by_cases g : r1 = true
  · obtain ⟨r2, i2, m2, e2, s2, _⟩ := draw_edge l i1 m1 s s1
    obtain ⟨r3, i3, m3, e3, s3, a3, _, c3⟩ := draw_n l i2 m2 s 5 s2 (by omega)
    have c3 := c3 (by omega)
    refine ⟨rd ([(-1), 0, 16777215, 16777216, r2] : List Int) r3, Ev.bind e0 ?_⟩
    simp only [e1, Option.bind_some, if_pos g, e2, e3, if_pos a3]
    rw [if_pos (show r3 < ((([(-1), 0, 16777215, 16777216, r2] : List Int)).length : Int) by simpa using c3)]
    exact Ev.now _
  · obtain ⟨r2, i2, m2, e2, s2, _⟩ := draw_n l i1 m1 s 256 s1 (by omega)
    obtain ⟨r3, i3, m3, e3, s3, _⟩ := draw_n l i2 m2 s 256 s2 (by omega)
    obtain ⟨r4, i4, m4, e4, s4, _⟩ := draw_n l i3 m3 s 256 s3 (by omega)
    refine ⟨wrap64 ((wrap64 ((wrap64 (r2 * 65536)) + (wrap64 (r3 * 256)))) + r4), Ev.bind e0 ?_⟩
    simp only [e1, Option.bind_some, if_neg g, e2, e3, e4]
    exact Ev.now _
theorem draw_ListOf_j0 (b : List Int) (i m s : Int) (x : List Ext) (hx : x.length ≤ 26) (hs : St b i) : ∃ r, Ev (fun k => spec_DrawListOf.j0 k x b i m s) r ∧ r.length ≤ 27 := by
  obtain ⟨r1, i1, m1, e1, s1⟩ := draw_one b i m s 15 hs (by omega)
  obtain ⟨r2, i2, m2, e2, s2, _⟩ := draw_edge b i1 m1 s s1
  obtain ⟨r3, i3, m3, e3, s3, _⟩ := draw_edge b i2 m2 s s2
  by_cases g : r1 = true
  · refine ⟨x ++ [⟨r2, r3⟩], Ev.step (fun k => by rw [spec_DrawListOf.j0, e1]) ?_, by simp; omega⟩
    simp only [Option.bind_some, if_pos g, e2, e3, if_pos (show x.length < 8796093022208 by omega)]
    exact Ev.now _
  · refine ⟨x, Ev.step (fun k => by rw [spec_DrawListOf.j0, e1]) ?_, by omega⟩
    simp only [Option.bind_some, if_neg g]
    exact Ev.now _
theorem draw_ListOf (l : List Int) (h : l.length ≤ 1048576) : ∃ r, Ev (fun k => spec_DrawListOf.f k l) r ∧ r.length ≤ 27 := by
  unfold spec_DrawListOf.f
  obtain ⟨m, s, _, _, hs, e0⟩ := draw_source l h
  obtain ⟨a, i1, m1, e1, s1, l1⟩ := draw_l05List l 0 m s hs
  have hR := runsOut_length a
  obtain ⟨r2, i2, m2, e2, s2⟩ := draw_one l i1 m1 s 3 s1 (by omega)
  by_cases g : r2 = true
  · obtain ⟨r3, i3, m3, e3, s3, _⟩ := draw_n l i2 m2 s 25 s2 (by omega)
    obtain ⟨r4, i4, m4, e4, s4, _⟩ := draw_n l i3 m3 s 6 s3 (by omega)
    obtain ⟨R, eR, lR⟩ := draw_ListOf_j0 l i4 m4 s (runsOut a ++ [⟨r3, r4⟩]) (by simp; omega) s4
    refine ⟨R, Ev.bind e0 (Ev.bind e1 (Ev.bind (specExtentsOf a (by omega)) ?_)), lR⟩
    simp only [e2, Option.bind_some, if_pos g, e3, e4, if_pos (show (runsOut a).length < 8796093022208 by omega)]
    exact eR
  · obtain ⟨R, eR, lR⟩ := draw_ListOf_j0 l i2 m2 s (runsOut a) (by omega) s2
    refine ⟨R, Ev.bind e0 (Ev.bind e1 (Ev.bind (specExtentsOf a (by omega)) ?_)), lR⟩
    simp only [e2, Option.bind_some, if_neg g]
    exact eR
theorem FnArea : laws_FnArea.Pure := by
  intro l0 l1 _ _ _ _ _ _
  refine Ev.rounds ?_
  unfold laws_FnArea.f
  by_cases g0 : (l0.length : Int) > 1048576
  · simp only [if_pos g0]; exact Ev.now _
  by_cases g1 : (l1.length : Int) > 1048576
  · simp only [if_neg g0, if_pos g1]; exact Ev.now _
  simp only [if_neg g0, if_neg g1]
  obtain ⟨a, b, e0, ha, hb⟩ := draw_FreeOf l0 (by omega)
  obtain ⟨L, e1, hL⟩ := draw_ListOf l1 (by omega)
  obtain ⟨n, e2⟩ := draw_FromBits l1 (by omega)
  have hF := freeOut_length a b
  have hR := runsOut_length a
  have hO := listOf_length L
  refine Ev.bind e0 (Ev.bind (implExtentsOf a (by omega)) (Ev.bind e1 (Ev.bind (implListOf L (by omega)) (Ev.bind (specListOf L (by omega)) (Ev.bind e2 (Ev.bind (implFreeOf a b (by omega) (by omega)) ?_))))))
  have hB : (if n < 0 ∨ n ≥ 16777216 then [] else bitList n.toNat).length ≤ 24 := by
    split
    · simp
    · exact bitList_length _
  refine Ev.bind (a := true) ?_ ?_
  · unfold laws_FnArea.same
    refine Ev.bind (specExtentsOf a (by omega)) (Ev.bind (lwRuns_same _ (by omega)) ?_)
    simp only [true_and, if_true]
    refine Ev.bind (lwNums_same _ (by omega)) ?_
    simp only [if_true]
    refine Ev.bind (implFromBits n) (Ev.bind (specFrom n) (Ev.bind (lwNums_same _ (by omega)) ?_))
    simp only [if_true]
    refine Ev.bind (implBitsOf a (by omega)) (Ev.bind (specBits a (by omega)) ?_)
    simp only [if_true]
    refine Ev.bind (specFreeOf a b (by omega) (by omega)) (Ev.bind (lwNums_same _ (by omega)) ?_)
    simp only [if_true]
    refine Ev.bind (implListRight a (by omega)) (Ev.bind (specRight a (by omega)) ?_)
    simp only [if_true]
    exact Ev.now _
  simp only [if_true]
  refine Ev.bind (a := true) ?_ ?_
  · unfold laws_FnArea.bits
    by_cases hn : 0 ≤ n ∧ n < 16777216
    · simp only [if_pos hn]
      have hi := implFromBits n
      rw [if_neg (by omega)] at hi
      refine Ev.bind hi ?_
      have hb2 := implBitsOf (bitList n.toNat) (by have := bitList_length n.toNat; omega)
      rw [if_pos (bitList_rises _), mask_back _ (by omega), Int.toNat_of_nonneg hn.1] at hb2
      refine Ev.bind hb2 ?_
      simp only [if_true]
      exact Ev.now _
    · simp only [if_neg hn]; exact Ev.now _
  simp only [if_true]
  unfold laws_FnArea.ends
  refine Ev.bind (specRight a (by omega)) ?_
  by_cases h1 : rises a = true
  · simp only [if_pos h1]
    refine Ev.bind (specRight b (by omega)) ?_
    by_cases h2 : rises b = true
    · simp only [if_pos h2]
      have eR : runsOut a = runs a := by unfold runsOut; rw [if_pos h1]
      have eF : freeOut a b = freeM a b := by unfold freeOut; rw [if_pos ⟨h1, h2⟩]
      rw [eR, eF]
      have hok := runs_ok a h1
      have hrl := runs_length a
      have hfl := freeM_length a b
      simp only [if_pos (show (laws_FnArea.apart (runs a) = true ∧ laws_FnArea.cover a b (freeM a b) 24 0 = true) ∧ ((runs a).length ≤ 1000 ∧ a.length ≤ 1000 ∧ b.length ≤ 1000 ∧ (freeM a b).length ≤ 1000) from ⟨⟨laws_apart _ hok (runs_apart a h1), cover_free a b 24 0 rfl⟩, by omega, by omega, by omega, by omega⟩)]
      unfold laws_FnArea.last
      have hl := implListOf (runs a) (by omega)
      have eL : listOf (runs a) = (a, 0) := by unfold listOf; rw [if_neg (by omega), if_pos hok, implGo_back a h1]
      rw [eL] at hl
      refine Ev.bind hl (Ev.bind (lwNums_same a (by omega)) ?_)
      simp only [if_true]
      have hm := implBitsOf a (by omega)
      rw [if_pos h1] at hm
      refine Ev.bind hm ?_
      have hlt := mask_lt a h1
      have hi := implFromBits (mask a : Int)
      rw [if_neg (by omega), Int.toNat_natCast, bits_back a h1] at hi
      refine Ev.bind hi (Ev.bind (lwNums_same a (by omega)) ?_)
      simp only [if_true]
      exact Ev.now _
    · simp only [if_neg h2]
      have eF : freeOut a b = [] := by unfold freeOut; rw [if_neg (fun h => h2 h.2)]
      simp only [eF, if_true]
      exact Ev.now _
  · simp only [if_neg h1]
    have eF : freeOut a b = [] := by unfold freeOut; rw [if_neg (fun h => h1 h.1)]
    simp only [eF, if_true]
    exact Ev.now _
end Go.Proofs.Ytcmoenkbckmmfaa.Pure
