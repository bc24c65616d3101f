/- Reading a text behind its length: what both packages' readers return is getTextM. Conditions: the text is no longer than a row allows. -/
import Derived.Test.YtbjcancgkfaapaaGetNumI
import Derived.Test.YtbjcancgkfaapaaQx9
import Derived.Test.YtbjcancgkfaapaaQx6
namespace Go.Proofs.Ytbjcancgkfaapaa.Pure
set_option linter.unusedVariables false
set_option linter.unusedSimpArgs false
open Go Go.RowKit Go.Proofs.Ytbjcancgkfaapaa.Q Go.Proofs.YtbjcancgkfaapaaW.PrintWords Go.Proofs.YtbjcancgkfaapaaW.PrintLast Go.Proofs.YtbjcancgkfaapaaW.PrintMore
/-- Where a number was read, it fits, and it ends in the text. -/
theorem getGo_ok (s : ByteArray) (a : Int) (ha : 0 ≤ a) (d : Nat) : ∀ (i u : Nat), i + d = 10 → u < pw i → (getGo s a d i u).2.2 = 0 →
    (-9223372036854775808 ≤ (getGo s a d i u).1 ∧ (getGo s a d i u).1 ≤ 9223372036854775807) ∧ a < (getGo s a d i u).2.1 ∧ (getGo s a d i u).2.1 ≤ s.size := by
  induction d with
  | zero => intro i u hi hu h; simp [getGo] at h
  | succ d ih =>
    intro i u hi hu
    have b0 := bt_nonneg s (a + i)
    have b1 := bt_le s (a + i)
    unfold getGo
    by_cases h1 : a ≥ (s.size : Int) - i
    · rw [if_pos h1]; intro h; simp at h
    · rw [if_neg h1]
      by_cases h2 : i = 9 ∧ bt s (a + i) > 1
      · rw [if_pos h2]; intro h; simp at h
      · rw [if_neg h2]
        obtain ⟨c1, c2, c3⟩ := digit_bound (c := (bt s (a + i) % 128).toNat) (by omega) hu (by omega) (fun h9 => by omega)
        by_cases h3 : bt s (a + i) ≥ 128
        · rw [if_pos h3]
          exact ih (i + 1) _ (by omega) (c3 (by omega))
        · rw [if_neg h3]
          by_cases h4 : bt s (a + i) = 0 ∧ i > 0
          · rw [if_pos h4]; intro h; simp at h
          · rw [if_neg h4]
            intro _
            exact ⟨unzig_range c1, by show a < a + i + 1; omega, by show a + i + 1 ≤ (s.size : Int); omega⟩
theorem getM_ok (s : ByteArray) (a : Int) (ha : 0 ≤ a) (h : (getM s a).2.2 = 0) : (-9223372036854775808 ≤ (getM s a).1 ∧ (getM s a).1 ≤ 9223372036854775807) ∧ a < (getM s a).2.1 ∧ (getM s a).2.1 ≤ s.size :=
  getGo_ok s a ha 10 0 0 rfl (by decide) h
/-- What is read of a text. -/
def getTextM (s : ByteArray) (a : Int) : ByteArray × Int × Int :=
  if a < 0 then (⟨#[]⟩, 0, 1)
  else if (getM s a).2.2 = 0 then
    if (getM s a).1 < 0 ∨ (getM s a).1 > 8000 then (⟨#[]⟩, 0, 3)
    else if (getM s a).1 > (s.size : Int) - (getM s a).2.1 then (⟨#[]⟩, 0, 4)
    else (s.extract (getM s a).2.1.toNat ((getM s a).2.1 + (getM s a).1).toNat, (getM s a).2.1 + (getM s a).1, 0)
  else (⟨#[]⟩, 0, (getM s a).2.2)
theorem implGetText (s : ByteArray) (a : Int) (hs : s.size ≤ 140737488351232) : Ev (fun k => impl_getText.f k s a) (getTextM s a) := by
  unfold impl_getText.f getTextM
  refine Ev.bind (implGet s a hs) ?_
  by_cases h : a < 0
  · simp only [if_pos h]; rw [if_neg (by decide)]; exact Ev.now _
  · simp only [if_neg h]
    by_cases h0 : (getM s a).2.2 = 0
    · obtain ⟨⟨r0, r1⟩, r2, r3⟩ := getM_ok s a (by omega) h0
      simp only [if_pos h0, impl_within.f]
      by_cases h1 : (getM s a).1 < 0 ∨ (getM s a).1 > 8000
      · rw [if_pos h1]
        by_cases h2 : (getM s a).1 ≥ 0
        · simp only [if_pos h2, decide_eq_false (show ¬ (getM s a).1 ≤ 8000 by omega), Option.bind_some, Bool.false_eq_true, if_false]; exact Ev.now _
        · simp only [if_neg h2, Option.bind_some, Bool.false_eq_true, if_false]; exact Ev.now _
      · rw [if_neg h1]
        simp only [if_pos (show (getM s a).1 ≥ 0 by omega), decide_eq_true (show (getM s a).1 ≤ 8000 by omega), Option.bind_some, if_true]
        rw [wrap64_id (n := (s.size : Int) - _) (by omega) (by omega)]
        by_cases h3 : (getM s a).1 > (s.size : Int) - (getM s a).2.1
        · simp only [if_pos h3]; exact Ev.now _
        · simp only [if_neg h3]
          rw [wrap64_id (n := (getM s a).2.1 + (getM s a).1) (by omega) (by omega), if_pos (by omega), if_pos (by omega), if_pos (by omega)]
          exact Ev.now _
    · simp only [if_neg h0]; exact Ev.now _
end Go.Proofs.Ytbjcancgkfaapaa.Pure
