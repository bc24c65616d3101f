/- The program's ListOf and the reference's ListOf return the same, for all lists of extents; the list stays as it was, the result is new memory. -/
import Derived.Test.YthlcpdmbeiaidaaOpen
import Derived.Test.YthlcpdmbeiaidaaListM
import Derived.Test.YthlcpdmbeiaidaaQx17
namespace Go.Proofs.Ythlcpdmbeiaidaa.Pure
set_option linter.unusedVariables false
set_option linter.unusedSimpArgs false
open Go Go.RowKit Go.Proofs.Ythlcpdmbeiaidaa.Q Go.Proofs.Ythlcpdmbeiaidaa.Open Go.Proofs.YthlcpdmbeiaidaaW.PrintWords Go.Proofs.YthlcpdmbeiaidaaW.PrintLast Go.Proofs.YthlcpdmbeiaidaaW.PrintMore
abbrev LExt := S60
theorem rdL_mid (p : List LExt) (a : LExt) (r : List LExt) : rd_T60 (p ++ a :: r) (p.length : Int) = a := by simp [rd_T60]
def extOf (x : LExt) : Ext := ⟨x.f0, x.f1⟩
theorem toExt_l0 (N : Nat) (hN : N < 9223372036854775807) (r : List LExt) : ∀ p : List LExt, p.length + r.length = N →
    Ev (fun k => laws_toExtentS.l0 k (p ++ r) (p.map extOf ++ List.replicate r.length z50) (p.length : Int)) ((p ++ r).map extOf) := by
  induction r with
  | nil => intro p h; exact Ev.step (fun k => by rw [laws_toExtentS.l0, if_neg (not_lt_end p)]) (by simpa using Ev.now _)
  | cons a r ih =>
    intro p h
    simp only [List.length_cons] at h
    have hl : (p.length : Int) < ((p.map extOf ++ List.replicate (a :: r).length z50).length : Int) := by simp only [List.length_append, List.length_map, List.length_replicate, List.length_cons]; omega
    refine Ev.step (fun k => by rw [laws_toExtentS.l0, if_pos (lt_mid p a r), if_pos (by omega), rdL_mid, next64 (by omega)]) ?_
    refine Ev.bind1 (a := (a.f0, a.f1)) (by unfold laws_toExtent.f; rfl) ?_
    simp only [if_pos hl]
    have := ih (p ++ [a]) (by simp; omega)
    rw [← snoc_app, len_snoc] at this
    have e : (p.map extOf ++ List.replicate (a :: r).length z50).set ((p.length : Nat) : Int).toNat (⟨a.f0, a.f1⟩ : Ext) = (p ++ [a]).map extOf ++ List.replicate r.length z50 := by
      rw [List.length_cons, List.replicate_succ]
      have := set_mid (p.map extOf) z50 (⟨a.f0, a.f1⟩ : Ext) (List.replicate r.length z50)
      rw [List.length_map] at this
      rw [this]; simp [extOf]
    rw [← e] at this
    exact this
theorem toExt (l : List LExt) (h : l.length ≤ 17592186044416) : Ev (fun k => laws_toExtentS.f k l) (l.map extOf) := by
  unfold laws_toExtentS.f
  simp only [if_pos (show (0 : Int) ≤ (l.length : Int) by omega), if_pos (show ((l.length : Int)).toNat ≤ 17592186044416 by omega), Int.toNat_natCast]
  have := toExt_l0 l.length (by omega) l [] (by simp)
  simpa [h] using this
theorem szExt (l : List LExt) (n : Int) (h : l.length ≤ 9223372036854775807) (hn : 0 ≤ n ∧ n < 4611686018427387904) : laws_szExtentS.f l n = some (if n < l.length then -1 else n - l.length) := by
  unfold laws_szExtentS.f
  rw [wrap64_id (by omega) (by omega)]
  by_cases g : n < l.length
  · rw [if_pos g, if_pos (by omega)]
  · rw [if_neg g, if_neg (by omega)]
theorem eqOut (L : List Int × Int) (h : L.1.length < 9223372036854775807) : Ev (fun k => laws_eqListOut.f k L.1 L.2 L.1 L.2) true := by
  unfold laws_eqListOut.f
  exact Ev.bind (eqInt L.1 h) (by simpa using Ev.now _)
theorem markOut (l : List Int) (c m : Int) (h : l.length < 1000000000000000000) (h0 : 0 ≤ m) (h1 : m + l.length ≤ 4000000000000000000) : Ev (fun k => laws_markListOut.f k l c m) (m + l.length, marks m l.length) := by
  unfold laws_markListOut.f
  exact Ev.bind (markInt l m h h0 h1) (Ev.now _)
theorem heldOut (n : Nat) (c m : Int) (h : n < 1000000000000000000) (h0 : 0 ≤ m) (h1 : m + n ≤ 4000000000000000000) : Ev (fun k => laws_heldListOut.f k (marks m n) c m) (m + n) := by
  unfold laws_heldListOut.f
  refine Ev.bind (heldInt n m h h0 h1) ?_
  simp only [if_neg (show ¬ m + (n : Int) < 0 by omega)]
  exact Ev.now _
theorem FnExactListOf : ∀ l0 : List LExt, okList (fun x : LExt => okInt .i64 x.f0 ∧ okInt .i64 x.f1) l0 → ∃ k, laws_FnExactListOf.f k l0 = some true := by
  intro l hok
  refine Ev.rounds ?_
  unfold laws_FnExactListOf.f
  have hM : l.length ≤ maxLen := hok.1
  have hL : l.length ≤ 9223372036854775807 := Nat.le_trans hM (by decide)
  rw [szExt l 1048576 (by omega) (by omega)]
  simp only [Option.bind_some]
  by_cases g : (1048576 : Int) < l.length
  · simp only [if_pos g]; exact Ev.now _
  · simp only [if_neg g, if_neg (show ¬ (1048576 : Int) - l.length < 0 by omega)]
    have hE : (l.map extOf).length = l.length := by simp
    have hto := toExt l (by omega)
    generalize l.map extOf = L at hE hto
    have hi := implListOf L (by omega)
    have ho := listOf_length L
    refine Ev.bind hto (Ev.bind (specListOf L (by omega)) (Ev.bind hto (Ev.bind hi ?_)))
    generalize listOf L = R at hi ho
    refine Ev.bind (eqOut R (by omega)) ?_
    simp only [if_true]
    refine Ev.bind hto (Ev.bind (eqExt L (by omega)) ?_)
    simp only [if_true]
    refine Ev.bind (markExt L 1 (by omega) (by omega) (by omega)) ?_
    simp only [if_neg (show ¬ (1 + 2 * (L.length : Int)) < 0 by omega)]
    refine Ev.bind (eqOut R (by omega)) (Ev.step (fun k => by rw [laws_FnExactListOf.j0, if_neg (by decide)]) ?_)
    refine Ev.bind (markOut R.1 R.2 1 (by omega) (by omega) (by omega)) (Ev.bind (heldOut R.1.length R.2 1 (by omega) (by omega) (by omega)) ?_)
    simp only [if_neg (show ¬ (1 + (R.1.length : Int)) < 0 by omega), if_true]
    refine Ev.bind hto (Ev.bind hi (Ev.bind (eqOut R (by omega)) ?_))
    simp only [if_true]
    refine Ev.bind (heldOut R.1.length R.2 1 (by omega) (by omega) (by omega)) ?_
    simp only [if_neg (show ¬ (1 + (R.1.length : Int)) < 0 by omega), if_true]
    exact Ev.now _
end Go.Proofs.Ythlcpdmbeiaidaa.Pure
