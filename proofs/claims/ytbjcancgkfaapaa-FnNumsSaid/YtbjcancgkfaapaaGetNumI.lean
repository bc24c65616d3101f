/- Reading a whole number: what both packages' readers return is getM, a plain recursion over at most ten bytes. Conditions: the text is no longer than a row allows, the place is a whole number of 64 bits that is not negative. -/
import Derived.Test.YtbjcancgkfaapaaBase
import Derived.Test.YtbjcancgkfaapaaQx8
namespace Go.Proofs.Ytbjcancgkfaapaa.Pure
set_option linter.unusedVariables false
set_option linter.unusedSimpArgs false
open Go Go.RowKit Go.Proofs.Ytbjcancgkfaapaa.Q Go.Proofs.YtbjcancgkfaapaaW.PrintWords Go.Proofs.YtbjcancgkfaapaaW.PrintLast Go.Proofs.YtbjcancgkfaapaaW.PrintMore

/-- The number that an encoded one stands for. -/
def unzig (u : Nat) : Int := if u % 2 = 1 then -1 - ((u / 2 : Nat) : Int) else ((u / 2 : Nat) : Int)
/-- What the digit at place i weighs. -/
def pw (i : Nat) : Nat := 128 ^ i
theorem pw_succ (i : Nat) : pw (i + 1) = pw i * 128 := Nat.pow_succ 128 i
theorem pw_mono {i j : Nat} (h : i ≤ j) : pw i ≤ pw j := Nat.pow_le_pow_right (by omega) h
theorem pw_eq (i : Nat) : pw i = 2 ^ (7 * i) := by unfold pw; rw [Nat.pow_mul]
/-- From byte i on, with d more bytes to come at the most, u told till here. -/
def getGo (s : ByteArray) (a : Int) : Nat → Nat → Nat → Int × Int × Int
  | 0, _, _ => (0, 0, 3)
  | d + 1, i, u =>
    if a ≥ (s.size : Int) - i then (0, 0, 4)
    else if i = 9 ∧ bt s (a + i) > 1 then (0, 0, 3)
    else if bt s (a + i) ≥ 128 then getGo s a d (i + 1) (u + (bt s (a + i) % 128).toNat * pw i)
    else if bt s (a + i) = 0 ∧ i > 0 then (0, 0, 3)
    else (unzig (u + (bt s (a + i) % 128).toNat * pw i), a + i + 1, 0)
def getM (s : ByteArray) (a : Int) : Int × Int × Int := getGo s a 10 0 0

theorem pow128_le9 {i : Nat} (h : i ≤ 9) : pw i ≤ 9223372036854775808 := by
  have : pw i ≤ pw 9 := pw_mono h
  have e : pw 9 = 9223372036854775808 := by decide
  omega
/-- What the digits tell stays below 2^64. -/
theorem digit_bound {i u c : Nat} (hi : i ≤ 9) (hu : u < pw i) (hc : c < 128) (h9 : i = 9 → c ≤ 1) : u + c * pw i < 18446744073709551616 ∧ c * pw i < 18446744073709551616 ∧ (i < 9 → u + c * pw i < pw (i + 1)) := by
  have hp := pow128_le9 hi
  rcases Nat.lt_or_ge i 9 with h | h
  · have h8 : pw i ≤ pw 8 := pw_mono (by omega)
    have e : pw 8 = 72057594037927936 := by decide
    have hm : c * pw i ≤ 127 * pw i := Nat.mul_le_mul_right _ (by omega)
    rw [pw_succ]
    refine ⟨by omega, by omega, fun _ => by omega⟩
  · obtain rfl : i = 9 := by omega
    have := h9 rfl
    have hm : c * pw 9 ≤ 1 * pw 9 := Nat.mul_le_mul_right _ (by omega)
    refine ⟨by omega, by omega, fun h => by omega⟩
theorem shl_digit {i c : Nat} (hi : i ≤ 9) (hc : c * pw i < 18446744073709551616) : shl .u64 (c : Int) ((7 * i : Nat) : Int) = ((c * pw i : Nat) : Int) := by
  unfold shl
  have e : min ((7 * i : Nat) : Int).toNat IntKind.u64.bits = 7 * i := by simp [IntKind.bits]; omega
  rw [e]
  have e2 : (2 : Int) ^ (7 * i) = ((pw i : Nat) : Int) := by
    rw [pw_eq]; simp
  rw [e2, ← Int.natCast_mul, wrap_u64_id (by omega) (by omega)]
theorem unzig_range {u : Nat} (h : u < 18446744073709551616) : -9223372036854775808 ≤ unzig u ∧ unzig u ≤ 9223372036854775807 := by
  unfold unzig; split <;> omega

theorem and127 {b : Int} (h0 : 0 ≤ b) (h1 : b ≤ 255) : IntKind.u64.wrap (Go.bits .and .u8 b 127) = (((b % 128).toNat : Nat) : Int) := by
  rw [u8_and b 127 h0 (by omega) (by omega) (by omega)]
  have e : b.toNat &&& (127 : Int).toNat = b.toNat % 128 := Nat.and_two_pow_sub_one_eq_mod b.toNat 7
  rw [e, wrap_u64_id (by omega) (by omega)]
  omega
theorem or_digit {i u c : Nat} (hi : i ≤ 9) (hu : u < pw i) (hc : c * pw i < 18446744073709551616) : Go.bits .or .u64 (u : Int) ((c * pw i : Nat) : Int) = ((u + c * pw i : Nat) : Int) := by
  have hp := pow128_le9 hi
  rw [u64_or_nat u (c * pw i) (by omega) hc]
  congr 1
  rw [pw_eq] at hu ⊢
  rw [Nat.or_comm, nat_join (7 * i) (c * 2 ^ (7 * i)) u (Nat.mul_mod_left _ _) hu, Nat.add_comm]
theorem impl_get_l0 (s : ByteArray) (a : Int) (hs : s.size ≤ 140737488351232) (ha : 0 ≤ a) (d : Nat) : ∀ (i u : Nat), i + d = 10 → 0 < d → u < pw i →
    Ev (fun k => impl_getNum.l0 k s a (u : Int) (i : Int)) (getGo s a d i u) := by
  induction d with
  | zero =>
    intro i u hi hd hu
    omega
  | succ d ih =>
    intro i u hi hd hu
    have w1 : Veil (wrap64 ((s.size : Int) - i) = (s.size : Int) - i) := ⟨wrap64_id (by omega) (by omega)⟩
    unfold getGo
    by_cases h1 : a ≥ (s.size : Int) - i
    · rw [if_pos h1]
      exact Ev.step (fun k => by rw [impl_getNum.l0, w1.out, if_pos h1]) (Ev.now _)
    · rw [if_neg h1]
      have w2 : Veil (wrap64 (a + i) = a + i) := ⟨wrap64_id (by omega) (by omega)⟩
      have b0 := bt_nonneg s (a + i)
      have b1 := bt_le s (a + i)
      have w4 : Veil (wrap64 (7 * (i : Int)) = ((7 * i : Nat) : Int)) := ⟨by rw [wrap64_id (by omega) (by omega)]; omega⟩
      have w5 : Veil (wrap64 ((i : Int) + 1) = ((i + 1 : Nat) : Int)) := ⟨by rw [wrap64_id (by omega) (by omega)]; omega⟩
      have tm := Veil.mk (and127 b0 b1)
      have hj : ∀ (q : Int × Int × Int), (q = if i = 9 ∧ bt s (a + i) > 1 then (0, 0, 3) else if bt s (a + i) ≥ 128 then getGo s a d (i + 1) (u + (bt s (a + i) % 128).toNat * pw i) else if bt s (a + i) = 0 ∧ i > 0 then (0, 0, 3) else (unzig (u + (bt s (a + i) % 128).toNat * pw i), a + i + 1, 0)) →
          Ev (fun k => impl_getNum.j1 k s a (u : Int) (i : Int) (bt s (a + i)) (decide (i = 9 ∧ bt s (a + i) > 1))) q := by
        intro q hq
        by_cases h2 : i = 9 ∧ bt s (a + i) > 1
        · rw [if_pos h2] at hq
          rw [decide_eq_true h2]
          exact Ev.step (fun k => by rw [impl_getNum.j1, if_pos rfl]) (by rw [hq]; exact Ev.now _)
        · rw [if_neg h2] at hq
          rw [decide_eq_false h2]
          obtain ⟨c1, c2, c3⟩ := digit_bound (c := (bt s (a + i) % 128).toNat) (by omega) hu (by omega) (fun h9 => by omega)
          have e1 : Veil (Go.bits .or .u64 (u : Int) (shl .u64 (((bt s (a + i) % 128).toNat : Nat) : Int) ((7 * i : Nat) : Int)) = ((u + (bt s (a + i) % 128).toNat * pw i : Nat) : Int)) := ⟨by
            rw [shl_digit (by omega) c2, or_digit (by omega) hu c2]⟩
          refine Ev.step (fun k => by rw [impl_getNum.j1, if_neg (by decide), w4.out, if_pos (by omega), tm.out, e1.out, w5.out]) ?_
          by_cases h3 : bt s (a + i) ≥ 128
          · rw [if_pos h3] at hq
            simp only [if_pos (show bt s (a + i) > 127 by omega)]
            rw [hq]
            by_cases h9 : i = 9
            · exfalso; omega
            · exact ih (i + 1) _ (by omega) (by omega) (c3 (by omega))
          · rw [if_neg h3] at hq
            simp only [if_neg (show ¬ bt s (a + i) > 127 by omega)]
            have fin : ∀ b : Bool, b = decide (bt s (a + i) = 0 ∧ i > 0) → Ev (fun k => impl_getNum.j2 k a ((u + (bt s (a + i) % 128).toNat * pw i : Nat) : Int) (i : Int) b) q := by
              intro b hb
              by_cases h4 : bt s (a + i) = 0 ∧ i > 0
              · rw [if_pos h4] at hq
                rw [decide_eq_true h4] at hb
                subst hb
                exact Ev.step (fun k => by rw [impl_getNum.j2, if_pos rfl]) (by rw [hq]; exact Ev.now _)
              · rw [if_neg h4] at hq
                rw [decide_eq_false h4] at hb
                subst hb
                generalize hv : u + (bt s (a + i) % 128).toNat * pw i = v at *
                have o1 : Veil (Go.bits .and .u64 (v : Int) 1 = ((v % 2 : Nat) : Int)) := ⟨by
                  have e := u64_and_nat v 1 (by omega) (by omega)
                  rw [Nat.and_one_is_mod] at e
                  exact e⟩
                refine Ev.step (f := fun _ => some q) (fun k => ?_) (Ev.now _)
                rw [impl_getNum.j2, if_neg (by decide), o1.out, wrap64_id (n := (v : Int) / 2) (by omega) (by omega), i64_flip (a := (v : Int) / 2) (by omega) (by omega), w2.out, wrap64_id (n := a + i + 1) (by omega) (by omega), hq]
                unfold unzig
                by_cases h5 : v % 2 = 1
                · rw [if_pos (by omega), if_pos h5]
                  congr 2
                · rw [if_neg (by omega), if_neg h5]
                  congr 2
            by_cases h5 : bt s (a + i) = 0
            · simp only [if_pos h5]
              exact fin _ (by rw [Bool.eq_iff_iff]; simp [h5])
            · simp only [if_neg h5]
              exact fin _ (by simp [h5])
      refine Ev.step (fun k => by rw [impl_getNum.l0, w1.out, if_neg h1, w2.out, if_pos (by omega), if_pos (by omega)]) ?_
      by_cases h9 : i = 9
      · simp only [if_pos (show (i : Int) = 9 by omega)]
        have := hj _ rfl
        rw [show decide (i = 9 ∧ bt s (a + i) > 1) = decide (bt s (a + i) > 1) by rw [Bool.eq_iff_iff]; simp [h9]] at this
        exact this
      · simp only [if_neg (show ¬ (i : Int) = 9 by omega)]
        have := hj _ rfl
        rw [show decide (i = 9 ∧ bt s (a + i) > 1) = false by simp [h9]] at this
        exact this
theorem implGet (s : ByteArray) (a : Int) (hs : s.size ≤ 140737488351232) : Ev (fun k => impl_getNum.f k s a) (if a < 0 then (0, 0, 1) else getM s a) := by
  unfold impl_getNum.f
  by_cases h2 : a < 0
  · simp only [if_pos h2]; exact Ev.now _
  · simp only [if_neg h2]
    exact impl_get_l0 s a hs (by omega) 10 0 0 rfl (by omega) (by decide)
end Go.Proofs.Ytbjcancgkfaapaa.Pure
