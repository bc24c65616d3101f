/- The texts of a right image, behind each other: as the reference joins them and as strings.Join does. -/
import Derived.Test.YtldhjbjbjoomcaaDoorImageM
import Derived.Test.YtldhjbjbjoomcaaDoorStrsTo
import Derived.Lib.Join
import Derived.Test.YtldhjbjbjoomcaaDoorQx6
namespace Go.Proofs.YtldhjbjbjoomcaaDoor.Pure
set_option linter.unusedVariables false
set_option linter.unusedSimpArgs false
open Go Go.RowKit Go.Proofs.YtldhjbjbjoomcaaDoor.Q Go.Proofs.YtldhjbjbjoomcaaDoorW.PrintWords Go.Proofs.YtldhjbjbjoomcaaDoorW.PrintLast Go.Proofs.YtldhjbjbjoomcaaDoorW.PrintMore
def cat (l : List ByteArray) : ByteArray := ⟨((l.map (·.data.toList)).flatten).toArray⟩
theorem cat_cons (a : ByteArray) (r : List ByteArray) (x : ByteArray) : x ++ cat (a :: r) = (x ++ a) ++ cat r := by
  apply toList_inj
  rw [toList_data, toList_data]
  simp [cat]
theorem cat_nil (x : ByteArray) : x ++ cat [] = x := by
  apply toList_inj
  rw [toList_data, toList_data]
  simp [cat]
theorem specJoin_l0 (N : Nat) (hN : N ≤ 1000) (r : List ByteArray) : ∀ (p : List ByteArray) (x : ByteArray), p.length + r.length = N → x.size = 8 * p.length → (∀ s ∈ r, s.size = 8) → Ev (fun k => spec_l07Join.l0 k (p ++ r) x (p.length : Int)) (x ++ cat r) := by
  induction r with
  | nil => intro p x h hx _; exact Ev.step (f := fun _ => some x) (fun k => by rw [spec_l07Join.l0, if_neg (not_lt_end p)]) (by rw [cat_nil]; exact Ev.now _)
  | cons a r ih =>
    intro p x h hx hs
    simp only [List.length_cons] at h
    have ha := hs a (by simp)
    refine Ev.step (fun k => by rw [spec_l07Join.l0, if_pos (lt_mid p a r), if_pos (by omega), rdS_mid, if_pos (by omega), next64 (by omega)]) ?_
    have := ih (p ++ [a]) (x ++ a) (by simp; omega) (by rw [ByteArray.size_append, hx, ha]; simp; omega) (fun s hs' => hs s (by simp [hs']))
    rw [← snoc_app, lenS_snoc, ← cat_cons] at this
    exact this
theorem imageM_sizes {l : List ByteArray} (h : imageM l = true) : l ≠ [] ∧ l.length ≤ 8 ∧ ∀ s ∈ l, s.size = 8 := by
  simp only [imageM, Bool.and_eq_true, decide_eq_true_eq, Bool.not_eq_true', List.any_eq_false, bne_iff_ne, ne_eq, Decidable.not_not] at h
  obtain ⟨⟨h1, h2⟩, h3⟩ := h
  refine ⟨fun e => by subst e; simp at h1, by omega, fun s hs => ?_⟩
  have := h3 s hs
  omega
theorem specJoin (l : List ByteArray) (h : imageM l = true) : Ev (fun k => spec_l07Join.f k l) (cat l) := by
  obtain ⟨_, h2, h3⟩ := imageM_sizes h
  have := specJoin_l0 l.length (by omega) l [] ⟨#[]⟩ (by simp) rfl h3
  unfold spec_l07Join.f
  have e : (⟨#[]⟩ : ByteArray) ++ cat l = cat l := by
    apply toList_inj
    rw [toList_data, toList_data]
    simp
  rw [e] at this
  exact this
theorem cat_size {l : List ByteArray} (h3 : ∀ s ∈ l, s.size = 8) : (cat l).size = 8 * l.length := by
  induction l with
  | nil => rfl
  | cons a r ih =>
    have e := cat_cons a r ⟨#[]⟩
    have := congrArg ByteArray.size e
    simp only [ByteArray.size_append] at this
    rw [ih (fun s hs => h3 s (by simp [hs])), h3 a (by simp)] at this
    have z : (⟨#[]⟩ : ByteArray).size = 0 := rfl
    rw [z] at this
    simp only [List.length_cons]
    omega
theorem cat_join (l : List ByteArray) : (⟨(Lib.join (l.map (·.data.toList)) (⟨#[]⟩ : ByteArray).data.toList).toArray⟩ : ByteArray) = cat l := by
  unfold cat Lib.join
  congr 2
  show List.intercalate [] _ = _
  generalize l.map (·.data.toList) = xs
  induction xs with
  | nil => rfl
  | cons a r ih =>
    cases r with
    | nil => simp [List.intercalate]
    | cons b r =>
      simp only [List.intercalate, List.intersperse] at ih ⊢
      simp only [List.flatten_cons, List.nil_append] at ih ⊢
      rw [ih]
end Go.Proofs.YtldhjbjbjoomcaaDoor.Pure
