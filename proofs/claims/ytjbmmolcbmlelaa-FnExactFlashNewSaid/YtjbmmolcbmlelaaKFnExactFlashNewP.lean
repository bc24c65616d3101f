/- Pure texts in one: The program's FlashNew and the reference's FlashNew return the same flash, for every number of pages; the result is new memory. -/
import Derived.Test.YtjbmmolcbmlelaaKFnExactFlashNew0
import Derived.Test.YtjbmmolcbmlelaaKFnExactFlashNew1
import Derived.Test.YtjbmmolcbmlelaaWMore
import Derived.Laws.BitsAllLaws
import Derived.Laws.Strings
namespace Go.Proofs.Ytjbmmolcbmlelaa.Pure
set_option linter.unusedVariables false
set_option linter.unusedSimpArgs false
open Go Go.RowKit Go.Proofs.YtjbmmolcbmlelaaW.PrintWords Go.Proofs.YtjbmmolcbmlelaaW.PrintLast Go.Proofs.YtjbmmolcbmlelaaW.PrintMore
theorem wrap64_id {n : Int} (h0 : -9223372036854775808 ≤ n) (h1 : n ≤ 9223372036854775807) : wrap64 n = n := by
  unfold wrap64; omega
end Go.Proofs.Ytjbmmolcbmlelaa.Pure
namespace Go.Proofs.Ytjbmmolcbmlelaa.Pure
set_option linter.unusedVariables false
set_option linter.unusedSimpArgs false
open Go Go.RowKit Go.Proofs.YtjbmmolcbmlelaaW.PrintWords Go.Proofs.YtjbmmolcbmlelaaW.PrintLast Go.Proofs.YtjbmmolcbmlelaaW.PrintMore
theorem set_mid {α : Type} (p : List α) (a b : α) (r : List α) : (p ++ a :: r).set (p.length : Int).toNat b = p ++ b :: r := by simp
theorem snoc_app {α : Type} (p : List α) (a : α) (r : List α) : p ++ a :: r = (p ++ [a]) ++ r := by simp
theorem lt_mid {α : Type} (p : List α) (a : α) (r : List α) : (p.length : Int) < ((p ++ a :: r).length : Int) := by rw [List.length_append, List.length_cons]; omega
theorem not_lt_end {α : Type} (p : List α) : ¬ (p.length : Int) < ((p ++ []).length : Int) := by rw [List.append_nil]; omega
theorem next64 {i : Nat} (h : i < 9223372036854775807) : wrap64 ((i : Int) + 1) = ((i + 1 : Nat) : Int) := by rw [wrap64_id (by omega) (by omega)]; omega
end Go.Proofs.Ytjbmmolcbmlelaa.Pure
namespace Go.Proofs.Ytjbmmolcbmlelaa.Pure
set_option linter.unusedVariables false
set_option linter.unusedSimpArgs false
open Go Go.RowKit Go.Proofs.Ytjbmmolcbmlelaa.Q Go.Proofs.YtjbmmolcbmlelaaW.PrintWords Go.Proofs.YtjbmmolcbmlelaaW.PrintLast Go.Proofs.YtjbmmolcbmlelaaW.PrintMore
def mtGo : Nat → Nat → ByteArray → ByteArray
  | 0, _, acc => (⟨#[109]⟩ : ByteArray) ++ acc
  | d + 1, x, acc => if x = 0 then (⟨#[109]⟩ : ByteArray) ++ acc else mtGo d (x / 10) (strOfNums [(wrap64 (48 + (Int.tmod (x : Int) 10))) % 256] ++ acc)
def markT (m : Int) : ByteArray := if m ≤ 0 then (⟨#[109, 48]⟩ : ByteArray) else mtGo 19 m.toNat (⟨#[]⟩ : ByteArray)
theorem markText_l0 (d : Nat) : ∀ (x : Nat) (acc : ByteArray), x < 10 ^ d → x < 9223372036854775807 → acc.size + d ≤ 1000 → Ev (fun k => laws_markText.l0 k (x : Int) acc) (mtGo d x acc) := by
  induction d with
  | zero =>
    intro x acc h _ hs
    simp only [Nat.pow_zero, Nat.lt_one_iff] at h
    subst h
    exact Ev.step (fun k => by rw [laws_markText.l0, if_neg (by omega), if_pos (by omega)]) (by rw [mtGo]; exact Ev.now _)
  | succ d ih =>
    intro x acc h h6 hs
    rw [mtGo]
    by_cases g : x = 0
    · subst g
      exact Ev.step (fun k => by rw [laws_markText.l0, if_neg (by omega), if_pos (by omega)]) (by rw [if_pos rfl]; exact Ev.now _)
    · rw [if_neg g]
      have e1 : wrap64 (Int.tdiv (x : Int) 10) = ((x / 10 : Nat) : Int) := by
        rw [Int.tdiv_eq_ediv_of_nonneg (by omega), wrap64_id (by omega) (by omega)]; omega
      have e2 : (strOfNums [(wrap64 (48 + (Int.tmod (x : Int) 10))) % 256]).size = 1 := by rw [strOfNums_size]; rfl
      refine Ev.step (fun k => by rw [laws_markText.l0, if_pos (by omega), Option.bind_some, if_pos (by rw [e2]; omega), e1]) ?_
      exact ih (x / 10) _ (by rw [Nat.pow_succ] at h; omega) (by omega) (by rw [ByteArray.size_append, e2]; omega)
theorem markText (m : Int) (h : m ≤ 4000000000000000000) : Ev (fun k => laws_markText.f k m) (markT m) := by
  unfold laws_markText.f markT
  by_cases g : m ≤ 0
  · simp only [if_pos g]; exact Ev.now _
  · simp only [if_neg g]
    have := markText_l0 19 m.toNat (⟨#[]⟩ : ByteArray) (by omega) (by omega) (by decide)
    rw [Int.toNat_of_nonneg (by omega)] at this
    exact this
end Go.Proofs.Ytjbmmolcbmlelaa.Pure
namespace Go.Proofs.Ytjbmmolcbmlelaa.Pure
set_option linter.unusedVariables false
set_option linter.unusedSimpArgs false
open Go Go.RowKit Go.Proofs.Ytjbmmolcbmlelaa.Q Go.Proofs.YtjbmmolcbmlelaaW.PrintWords Go.Proofs.YtjbmmolcbmlelaaW.PrintLast Go.Proofs.YtjbmmolcbmlelaaW.PrintMore
theorem rdS_mid (p : List ByteArray) (a : ByteArray) (r : List ByteArray) : rdOf ByteArray.empty (p ++ a :: r) (p.length : Int) = a := by simp [rdOf]
theorem lenS_snoc {α : Type} (q : List α) (e : α) : (q ++ [e]).length = q.length + 1 := by simp
theorem eqStr_l0 (N : Nat) (hN : N < 9223372036854775807) (r : List ByteArray) : ∀ p : List ByteArray, p.length + r.length = N → Ev (fun k => laws_eqStringS.l0 k (p ++ r) (p ++ r) (p.length : Int)) true := by
  induction r with
  | nil => intro p h; exact Ev.step (fun k => by rw [laws_eqStringS.l0, if_neg (not_lt_end p)]) (Ev.now _)
  | cons a r ih =>
    intro p h
    simp only [List.length_cons] at h
    refine Ev.step (fun k => by rw [laws_eqStringS.l0, if_pos (lt_mid p a r), if_pos (by omega), if_pos (lt_mid p a r), if_pos rfl, next64 (by omega)]) ?_
    have := ih (p ++ [a]) (by simp; omega)
    rw [← snoc_app, lenS_snoc] at this
    exact this
theorem eqStr (l : List ByteArray) (h : l.length < 9223372036854775807) : Ev (fun k => laws_eqStringS.f k l l) true := by
  unfold laws_eqStringS.f
  simp only [if_true]
  exact eqStr_l0 l.length h l [] (by simp)
def marksT : Int → Nat → List ByteArray
  | _, 0 => []
  | m, n + 1 => markT m :: marksT (m + 1) n
theorem markStr_l0 (N : Nat) (hN : N < 1000000000000000000) (r : List ByteArray) : ∀ (p : List ByteArray) (m : Int), p.length + r.length = N → 0 ≤ m → m + r.length ≤ 4000000000000000000 →
    Ev (fun k => laws_markStringS.l0 k (p ++ r) m (p.length : Int)) (m + r.length, p ++ marksT m r.length) := by
  induction r with
  | nil => intro p m h h0 h1; exact Ev.step (fun k => by rw [laws_markStringS.l0, if_neg (not_lt_end p)]) (by simpa [marksT] using Ev.now _)
  | cons a r ih =>
    intro p m h h0 h1
    simp only [List.length_cons] at h h1
    refine Ev.step (fun k => by rw [laws_markStringS.l0, if_pos (lt_mid p a r), next64 (by omega), wrap64_id (n := m + 1) (by omega) (by omega)]) ?_
    refine Ev.bind (markText m (by omega)) ?_
    simp only [if_pos (show (0 : Int) ≤ (p.length : Int) by omega)]
    have := ih (p ++ [markT m]) (m + 1) (by simp; omega) (by omega) (by omega)
    rw [← snoc_app, lenS_snoc, List.append_assoc] at this
    rw [List.length_cons, marksT, show m + ((r.length + 1 : Nat) : Int) = m + 1 + (r.length : Int) by omega]
    simp only [set_mid]
    exact this
theorem markStr (l : List ByteArray) (m : Int) (h : l.length < 1000000000000000000) (h0 : 0 ≤ m) (h1 : m + l.length ≤ 4000000000000000000) : Ev (fun k => laws_markStringS.f k l m) (m + l.length, marksT m l.length) := by
  unfold laws_markStringS.f
  have := markStr_l0 l.length h l [] m (by simp) h0 h1
  exact this
theorem heldStr_l0 (N : Nat) (hN : N < 1000000000000000000) (n : Nat) : ∀ (p : List ByteArray) (m : Int), p.length + n = N → 0 ≤ m → m + n ≤ 4000000000000000000 →
    Ev (fun k => laws_heldStringS.l0 k (p ++ marksT m n) m (p.length : Int)) (m + n) := by
  induction n with
  | zero => intro p m h h0 h1; rw [marksT]; exact Ev.step (fun k => by rw [laws_heldStringS.l0, if_neg (not_lt_end p)]) (by simpa using Ev.now _)
  | succ n ih =>
    intro p m h h0 h1
    rw [marksT]
    refine Ev.step (fun k => by rw [laws_heldStringS.l0, if_pos (lt_mid p _ _), if_pos (by omega), rdS_mid, next64 (by omega), wrap64_id (n := m + 1) (by omega) (by omega)]) ?_
    refine Ev.bind (markText m (by omega)) ?_
    simp only [if_true]
    have := ih (p ++ [markT m]) (m + 1) (by simp; omega) (by omega) (by omega)
    rw [← snoc_app, lenS_snoc] at this
    rw [show m + ((n + 1 : Nat) : Int) = m + 1 + (n : Int) by omega]
    exact this
theorem heldStr (n : Nat) (m : Int) (h : n < 1000000000000000000) (h0 : 0 ≤ m) (h1 : m + n ≤ 4000000000000000000) : Ev (fun k => laws_heldStringS.f k (marksT m n) m) (m + n) := by
  unfold laws_heldStringS.f
  exact heldStr_l0 n h n [] m (by simp) h0 h1
end Go.Proofs.Ytjbmmolcbmlelaa.Pure
namespace Go.Proofs.Ytjbmmolcbmlelaa.Pure
set_option linter.unusedVariables false
set_option linter.unusedSimpArgs false
open Go Go.RowKit Go.Proofs.Ytjbmmolcbmlelaa.Q Go.Proofs.YtjbmmolcbmlelaaW.PrintWords Go.Proofs.YtjbmmolcbmlelaaW.PrintLast Go.Proofs.YtjbmmolcbmlelaaW.PrintMore
def newOut (n : Int) : List ByteArray := if 1 ≤ n ∧ n ≤ 40 then List.replicate n.toNat (⟨#[]⟩ : ByteArray) else []
theorem newOut_length (n : Int) : (newOut n).length ≤ 40 := by
  unfold newOut; split
  · rw [List.length_replicate]; omega
  · simp
theorem implFlashNew (n : Int) : impl_FlashNew.f n = some (newOut n, []) := by
  unfold impl_FlashNew.f impl_within.f newOut
  by_cases h : 1 ≤ n ∧ n ≤ 40
  · rw [if_pos (show n ≥ 1 from h.1), Option.bind_some, decide_eq_true h.2, if_pos rfl, if_pos (by omega), if_pos (by omega), if_pos h]
  · rw [if_neg h]
    by_cases h1 : n ≥ 1
    · rw [if_pos h1, Option.bind_some, decide_eq_false (show ¬ n ≤ 40 by omega), if_neg (by decide)]
    · rw [if_neg h1, Option.bind_some, if_neg (by decide)]
theorem specFlashNew (n : Int) : spec_FlashNew.f n = some (newOut n, []) := by
  unfold spec_FlashNew.f spec_l03Is.f newOut
  by_cases h : 1 ≤ n ∧ n ≤ 40
  · rw [if_pos (show n ≥ 1 from h.1), Option.bind_some, decide_eq_true h.2, if_pos rfl, if_pos (by omega), if_pos (by omega), if_pos h]
  · rw [if_neg h]
    by_cases h1 : n ≥ 1
    · rw [if_pos h1, Option.bind_some, decide_eq_false (show ¬ n ≤ 40 by omega), if_neg (by decide)]
    · rw [if_neg h1, Option.bind_some, if_neg (by decide)]
theorem eqNew (L : List ByteArray) (h : L.length ≤ 40) : Ev (fun k => laws_eqFlash.f k L [] L []) true := by
  unfold laws_eqFlash.f
  refine Ev.bind (eqStr L (by omega)) ?_
  simp only [if_true]
  refine Ev.bind (a := true) ?_ (by simpa using Ev.now _)
  unfold laws_eqDirtyS.f
  simp only [if_true]
  exact Ev.step (fun k => by rw [laws_eqDirtyS.l0, if_neg (by simp)]) (Ev.now _)
theorem markNew (L : List ByteArray) (h : L.length ≤ 40) : Ev (fun k => laws_markFlash.f k L [] 1) (1 + (L.length : Int), marksT 1 L.length, []) := by
  unfold laws_markFlash.f
  refine Ev.bind (markStr L 1 (by omega) (by omega) (by omega)) ?_
  refine Ev.bind (a := (1 + (L.length : Int), [])) ?_ (Ev.now _)
  unfold laws_markDirtyS.f
  exact Ev.step (fun k => by rw [laws_markDirtyS.l0, if_neg (by simp)]) (Ev.now _)
theorem heldNew (n : Nat) (h : n ≤ 40) : Ev (fun k => laws_heldFlash.f k (marksT 1 n) [] 1) (1 + (n : Int)) := by
  unfold laws_heldFlash.f
  refine Ev.bind (heldStr n 1 (by omega) (by omega) (by omega)) ?_
  simp only [if_neg (show ¬ (1 + (n : Int)) < 0 by omega)]
  refine Ev.bind (a := 1 + (n : Int)) ?_ (by simp only [if_neg (show ¬ (1 + (n : Int)) < 0 by omega)]; exact Ev.now _)
  unfold laws_heldDirtyS.f
  exact Ev.step (fun k => by rw [laws_heldDirtyS.l0, if_neg (by simp)]) (Ev.now _)
theorem FnExactFlashNew : laws_FnExactFlashNew.Pure := by
  intro n _
  refine Ev.rounds ?_
  unfold laws_FnExactFlashNew.f
  rw [specFlashNew, implFlashNew]
  simp only [Option.bind_some]
  have hl := newOut_length n
  generalize newOut n = L at hl ⊢
  refine Ev.bind (eqNew L hl) ?_
  simp only [if_true]
  refine Ev.bind (markNew L hl) (Ev.bind (heldNew L.length hl) ?_)
  simp only [if_neg (show ¬ (1 + (L.length : Int)) < 0 by omega), if_true]
  refine Ev.bind (eqNew L hl) ?_
  simp only [if_true]
  refine Ev.bind (heldNew L.length hl) ?_
  simp only [if_neg (show ¬ (1 + (L.length : Int)) < 0 by omega), if_true]
  exact Ev.now _
end Go.Proofs.Ytjbmmolcbmlelaa.Pure
