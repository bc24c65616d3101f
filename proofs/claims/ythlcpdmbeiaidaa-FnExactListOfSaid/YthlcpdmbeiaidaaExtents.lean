/- Runs: what the program's extentsOf and the reference's l05Runs make of a rising list, and how the laws compare, mark and hold lists of runs. Conditions: lists no longer than a row allows. -/
import Derived.Test.YthlcpdmbeiaidaaArea
import Derived.Test.YthlcpdmbeiaidaaQx10
import Derived.Test.YthlcpdmbeiaidaaQx9
import Derived.Test.YthlcpdmbeiaidaaQx11
import Derived.Test.YthlcpdmbeiaidaaQx12
import Derived.Test.YthlcpdmbeiaidaaQx0
namespace Go.Proofs.Ythlcpdmbeiaidaa.Pure
set_option linter.unusedVariables false
set_option linter.unusedSimpArgs false
open Go Go.RowKit Go.Proofs.Ythlcpdmbeiaidaa.Q Go.Proofs.YthlcpdmbeiaidaaW.PrintWords Go.Proofs.YthlcpdmbeiaidaaW.PrintLast Go.Proofs.YthlcpdmbeiaidaaW.PrintMore
abbrev Ext := S50
theorem rdE_mid (p : List Ext) (a : Ext) (r : List Ext) : rd_T50 (p ++ a :: r) (p.length : Int) = a := by simp [rd_T50]
/-- The runs: those done, the last one's begin and its count, what follows. -/
def runsGo : Int → Int → List Int → List Ext
  | f, c, [] => [⟨f, c⟩]
  | f, c, a :: r => if f + c = a then runsGo f (c + 1) r else ⟨f, c⟩ :: runsGo a 1 r
def runs : List Int → List Ext
  | [] => []
  | a :: r => runsGo a 1 r
theorem runsGo_length : ∀ (r : List Int) (f c : Int), 1 ≤ (runsGo f c r).length ∧ (runsGo f c r).length ≤ r.length + 1 := by
  intro r
  induction r with
  | nil => intro f c; simp [runsGo]
  | cons a r ih =>
    intro f c
    rw [runsGo]
    split
    · have := ih f (c + 1); simp only [List.length_cons]; omega
    · have := ih a 1; simp only [List.length_cons]; omega
theorem runs_length (l : List Int) : (runs l).length ≤ l.length := by
  cases l with
  | nil => simp [runs]
  | cons a r => have := runsGo_length r a 1; simp only [runs, List.length_cons]; omega
theorem implRuns_l0 (N : Nat) (hN : N ≤ 1000) (r : List Int) : ∀ (q : List Int) (done : List Ext) (f c : Int), q.length + r.length = N → done.length < q.length → 0 ≤ f → 1 ≤ c → f + c ≤ 24 → risesFrom (f + c - 1) r = true →
    Ev (fun k => impl_extentsOf.l0 k (done ++ [⟨f, c⟩]) (q ++ r) ((q ++ r).length : Int) (q.length : Int)) (done ++ runsGo f c r) := by
  induction r with
  | nil =>
    intro q done f c h hd hf hc hfc hr
    exact Ev.step (fun k => by rw [impl_extentsOf.l0, if_neg (not_lt_end q)]) (by rw [runsGo]; exact Ev.now _)
  | cons a r ih =>
    intro q done f c h hd hf hc hfc hr
    simp only [List.length_cons] at h
    simp only [risesFrom, Bool.and_eq_true, decide_eq_true_eq] at hr
    obtain ⟨⟨h1, h2⟩, h3⟩ := hr
    have el : wrap64 (((done ++ [(⟨f, c⟩ : Ext)]).length : Int) - 1) = (done.length : Int) := by rw [wrap64_id (by simp only [List.length_append, List.length_singleton]; omega) (by simp only [List.length_append, List.length_singleton]; omega)]; simp
    have hl : ((done ++ [(⟨f, c⟩ : Ext)]).length : Int) = done.length + 1 := by simp
    refine Ev.step (fun k => by rw [impl_extentsOf.l0, if_pos (lt_mid q a r), if_pos (by omega), if_pos (lt_mid q a r), el, if_pos (by omega), if_pos (by omega), if_pos (by omega), rdE_mid, rd_mid, set_mid, next64 (by omega)]) ?_
    simp only
    rw [runsGo, wrap64_id (n := f + c) (by omega) (by omega), wrap64_id (n := c + 1) (by omega) (by omega)]
    by_cases hq : f + c = a
    · simp only [if_pos hq]
      have := ih (q ++ [a]) done f (c + 1) (by simp; omega) (by simp; omega) hf (by omega) (by omega) (by rw [show f + (c + 1) - 1 = a by omega]; exact h3)
      simp only [← snoc_app, List.length_append, List.length_singleton] at this
      simp only [List.length_append] at this ⊢
      exact this
    · have hlim : (done ++ [(⟨f, c⟩ : Ext)]).length < 8796093022208 := by simp; omega
      simp only [if_neg hq, if_pos hlim]
      have := ih (q ++ [a]) (done ++ [⟨f, c⟩]) a 1 (by simp; omega) (by simp; omega) (by omega) (by omega) (by omega) (by rw [show a + 1 - 1 = a by omega]; exact h3)
      simp only [← snoc_app, List.length_append, List.length_singleton] at this ⊢
      exact this
theorem implRuns (l : List Int) (h : rises l = true) : Ev (fun k => impl_extentsOf.f k l) (runs l) := by
  unfold impl_extentsOf.f
  have hl := rises_length l (-1) (by omega) h
  cases l with
  | nil => exact Ev.step (fun k => by rw [impl_extentsOf.l0, if_neg (by simp)]; rfl) (Ev.now _)
  | cons a r =>
    simp only [rises, risesFrom, Bool.and_eq_true, decide_eq_true_eq] at h
    obtain ⟨⟨h1, h2⟩, h3⟩ := h
    simp only [List.length_cons] at hl
    have := implRuns_l0 (r.length + 1) (by omega) r [a] [] a 1 (by simp; omega) (by simp) (by omega) (by omega) (by omega) (by rw [show a + 1 - 1 = a by omega]; exact h3)
    refine Ev.step (fun k => ?_) this
    rw [impl_extentsOf.l0, if_pos (by simp only [List.length_cons]; omega), if_pos (by omega), if_pos (by simp only [List.length_cons]; omega), wrap64_id (n := (([] : List Ext).length : Int) - 1) (by simp) (by simp), if_neg (by simp), if_pos (by simp), wrap64_id (n := 0 + 1) (by omega) (by omega)]
    rfl
theorem specRuns_l0 (N : Nat) (hN : N ≤ 1000) (r : List Int) : ∀ (q : List Int) (done : List Ext) (f c : Int), (q.length + 1) + r.length = N → done.length ≤ q.length → 0 ≤ f → 1 ≤ c → f + c ≤ 24 → risesFrom (f + c - 1) r = true →
    Ev (fun k => spec_l05Runs.l0 k ((q ++ [f + c - 1]) ++ r) (done ++ [⟨f, c⟩]) ((q.length + 1 : Nat) : Int)) (done ++ runsGo f c r) := by
  induction r with
  | nil =>
    intro q done f c h hd hf hc hfc hr
    exact Ev.step (fun k => by rw [spec_l05Runs.l0, if_neg (by simp)]) (by rw [runsGo]; exact Ev.now _)
  | cons a r ih =>
    intro q done f c h hd hf hc hfc hr
    simp only [List.length_cons] at h
    simp only [risesFrom, Bool.and_eq_true, decide_eq_true_eq] at hr
    obtain ⟨⟨h1, h2⟩, h3⟩ := hr
    have el : wrap64 (((done ++ [(⟨f, c⟩ : Ext)]).length : Int) - 1) = (done.length : Int) := by rw [wrap64_id (by simp only [List.length_append, List.length_singleton]; omega) (by simp only [List.length_append, List.length_singleton]; omega)]; simp
    have hl : ((done ++ [(⟨f, c⟩ : Ext)]).length : Int) = done.length + 1 := by simp
    have hql : (q ++ [f + c - 1]).length = q.length + 1 := by simp
    have e1 : wrap64 (((q.length + 1 : Nat) : Int) - 1) = (q.length : Int) := by rw [wrap64_id (by omega) (by omega)]; omega
    have e2 : rd ((q ++ [f + c - 1]) ++ a :: r) ((q.length + 1 : Nat) : Int) = a := by rw [← hql]; exact rd_mid _ a r
    have hlt := lt_mid (q ++ [f + c - 1]) a r
    rw [hql] at hlt
    refine Ev.step (fun k => by rw [spec_l05Runs.l0, if_pos hlt, if_pos (by omega), e1, if_pos (by omega), if_pos (by omega), if_pos (by omega), rd_before, e2, el, rdE_mid, set_mid, next64 (by omega)]) ?_
    rw [runsGo, wrap64_id (n := f + c - 1 + 1) (by omega) (by omega), show f + c - 1 + 1 = f + c by omega]
    by_cases hq : f + c = a
    · simp only [if_pos hq, if_pos (show (0 : Int) ≤ (done.length : Int) by omega), if_pos (show (done.length : Int) < ((done ++ [(⟨f, c⟩ : Ext)]).length : Int) by omega)]
      rw [wrap64_id (n := c + 1) (by omega) (by omega)]
      have := ih (q ++ [f + c - 1]) done f (c + 1) (by simp; omega) (by simp; omega) hf (by omega) (by omega) (by rw [show f + (c + 1) - 1 = a by omega]; exact h3)
      rw [show f + (c + 1) - 1 = a by omega, ← snoc_app, hql] at this
      exact this
    · have hlim : (done ++ [(⟨f, c⟩ : Ext)]).length < 8796093022208 := by simp; omega
      simp only [if_neg hq, if_pos hlim]
      have := ih (q ++ [f + c - 1]) (done ++ [⟨f, c⟩]) a 1 (by simp; omega) (by simp; omega) (by omega) (by omega) (by omega) (by rw [show a + 1 - 1 = a by omega]; exact h3)
      rw [show a + 1 - 1 = a by omega, ← snoc_app (q ++ [f + c - 1]), hql] at this
      rw [← snoc_app done _ (runsGo a 1 r)] at this
      exact this
theorem specRuns (l : List Int) (h : rises l = true) : Ev (fun k => spec_l05Runs.f k l) (runs l) := by
  unfold spec_l05Runs.f
  have hl := rises_length l (-1) (by omega) h
  cases l with
  | nil => exact Ev.step (fun k => by rw [spec_l05Runs.l0, if_neg (by simp)]; rfl) (Ev.now _)
  | cons a r =>
    simp only [rises, risesFrom, Bool.and_eq_true, decide_eq_true_eq] at h
    obtain ⟨⟨h1, h2⟩, h3⟩ := h
    simp only [List.length_cons] at hl
    have := specRuns_l0 (r.length + 1) (by omega) r [] [] a 1 (by simp; omega) (by simp) (by omega) (by omega) (by omega) (by rw [show a + 1 - 1 = a by omega]; exact h3)
    rw [show a + 1 - 1 = a by omega] at this
    refine Ev.step (fun k => ?_) this
    rw [spec_l05Runs.l0, if_pos (by simp only [List.length_cons]; omega), if_neg (by decide), if_pos (by decide), if_pos (by simp), wrap64_id (n := 0 + 1) (by omega) (by omega)]
    rfl
theorem eqExt_l0 (N : Nat) (hN : N < 9223372036854775807) (r : List Ext) : ∀ p : List Ext, p.length + r.length = N →
    Ev (fun k => laws_eqExtentS.l0 k (p ++ r) (p ++ r) (p.length : Int)) true := by
  induction r with
  | nil => intro p h; exact Ev.step (fun k => by rw [laws_eqExtentS.l0, if_neg (not_lt_end p)]) (Ev.now _)
  | cons a r ih =>
    intro p h
    simp only [List.length_cons] at h
    have := ih (p ++ [a]) (by simp; omega)
    simp only [← snoc_app, List.length_append, List.length_singleton] at this
    refine Ev.step (fun k => ?_) this
    rw [laws_eqExtentS.l0, if_pos (lt_mid p a r), if_pos (by omega), if_pos (lt_mid p a r), next64 (by omega), laws_eqExtent.f, if_pos rfl, if_pos rfl, Option.bind_some, if_pos rfl]
theorem eqExt (l : List Ext) (h : l.length < 9223372036854775807) : Ev (fun k => laws_eqExtentS.f k l l) true := by
  unfold laws_eqExtentS.f
  simp only [if_true]
  simpa using eqExt_l0 l.length h l [] (by simp)
def marksE : Int → Nat → List Ext
  | _, 0 => []
  | m, n + 1 => ⟨m, m + 1⟩ :: marksE (m + 2) n
theorem markExt_l0 (N : Nat) (hN : N < 1000000000000000000) (r : List Ext) : ∀ (p : List Ext) (m : Int), p.length + r.length = N → 0 ≤ m → m + 2 * r.length ≤ 4000000000000000000 →
    Ev (fun k => laws_markExtentS.l0 k (p ++ r) m (p.length : Int)) (m + 2 * r.length, p ++ marksE m r.length) := by
  induction r with
  | nil =>
    intro p m h h0 h1
    refine Ev.step (f := fun _ => some (m + 2 * (([] : List Ext).length : Int), p ++ marksE m ([] : List Ext).length)) (fun k => ?_) (Ev.now _)
    rw [laws_markExtentS.l0, if_neg (not_lt_end p)]; simp [marksE]
  | cons a r ih =>
    intro p m h h0 h1
    simp only [List.length_cons] at h h1
    have := ih (p ++ [⟨m, m + 1⟩]) (m + 2) (by simp; omega) (by omega) (by omega)
    simp only [← snoc_app, List.length_append, List.length_singleton] at this
    rw [show (m + 2 * ((a :: r).length : Int), p ++ marksE m (a :: r).length) = (m + 2 + 2 * (r.length : Int), p ++ ⟨m, m + 1⟩ :: marksE (m + 2) r.length) from by simp [marksE]; omega]
    refine Ev.step (fun k => ?_) this
    rw [laws_markExtentS.l0, if_pos (lt_mid p a r), if_pos (by omega), rdE_mid, set_mid, Option.bind_some, rdE_mid, set_mid, next64 (by omega), wrap64_id (n := m + 1) (by omega) (by omega), wrap64_id (n := m + 1 + 1) (by omega) (by omega), show m + 1 + 1 = m + 2 by omega]
theorem markExt (l : List Ext) (m : Int) (h : l.length < 1000000000000000000) (h0 : 0 ≤ m) (h1 : m + 2 * l.length ≤ 4000000000000000000) : Ev (fun k => laws_markExtentS.f k l m) (m + 2 * l.length, marksE m l.length) := by
  unfold laws_markExtentS.f
  simpa using markExt_l0 l.length h l [] m (by simp) h0 h1
theorem heldExt_l0 (N : Nat) (hN : N < 1000000000000000000) (n : Nat) : ∀ (p : List Ext) (m : Int), p.length + n = N → 0 ≤ m → m + 2 * n ≤ 4000000000000000000 →
    Ev (fun k => laws_heldExtentS.l0 k (p ++ marksE m n) m (p.length : Int)) (m + 2 * n) := by
  induction n with
  | zero =>
    intro p m h h0 h1
    rw [marksE]
    exact Ev.step (fun k => by rw [laws_heldExtentS.l0, if_neg (not_lt_end p)]) (by simpa using Ev.now _)
  | succ n ih =>
    intro p m h h0 h1
    have := ih (p ++ [⟨m, m + 1⟩]) (m + 2) (by simp; omega) (by omega) (by omega)
    simp only [← snoc_app, List.length_append, List.length_singleton] at this
    rw [show m + 2 * ((n + 1 : Nat) : Int) = m + 2 + 2 * (n : Int) from by omega, marksE]
    refine Ev.step (fun k => ?_) this
    rw [laws_heldExtentS.l0, if_pos (lt_mid p _ _), if_pos (by omega), rdE_mid, if_pos rfl, wrap64_id (n := m + 1) (by omega) (by omega), if_pos rfl, next64 (by omega), wrap64_id (n := m + 1 + 1) (by omega) (by omega), show m + 1 + 1 = m + 2 by omega]
theorem heldExt (n : Nat) (m : Int) (h : n < 1000000000000000000) (h0 : 0 ≤ m) (h1 : m + 2 * n ≤ 4000000000000000000) : Ev (fun k => laws_heldExtentS.f k (marksE m n) m) (m + 2 * n) := by
  unfold laws_heldExtentS.f
  simpa using heldExt_l0 n h n [] m (by simp) h0 h1
end Go.Proofs.Ythlcpdmbeiaidaa.Pure
