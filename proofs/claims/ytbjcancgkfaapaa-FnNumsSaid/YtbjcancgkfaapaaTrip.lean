/- What PutNum and PutText write, GetNum and GetText read again, wherever it stands; without its last byte it is too short. Conditions: numbers of 64 bits, texts of at most 8000 bytes. -/
import Derived.Test.YtbjcancgkfaapaaPutNum
import Derived.Test.YtbjcancgkfaapaaGetText
import Derived.Test.YtbjcancgkfaapaaBytes
namespace Go.Proofs.Ytbjcancgkfaapaa.Pure
set_option linter.unusedVariables false
set_option linter.unusedSimpArgs false
open Go Go.RowKit Go.Proofs.Ytbjcancgkfaapaa.Q Go.Proofs.YtbjcancgkfaapaaW.PrintWords Go.Proofs.YtbjcancgkfaapaaW.PrintLast Go.Proofs.YtbjcancgkfaapaaW.PrintMore
theorem putU_bytes : ∀ (n u : Nat), u < 128 ^ (n + 1) → ∀ x ∈ putU u, 0 ≤ x ∧ x < 256 := by
  intro n
  induction n with
  | zero => intro u h x hx; rw [putU_small (by simpa using h), List.mem_singleton] at hx; subst hx; simp at h; omega
  | succ n ih =>
    intro u h x hx
    by_cases hu : u < 128
    · rw [putU_small hu, List.mem_singleton] at hx; subst hx; omega
    · rw [putU_big hu] at hx
      rcases List.mem_cons.1 hx with rfl | hx
      · omega
      · exact ih (u / 128) (by rw [Nat.pow_succ] at h; omega) x hx
theorem unzig_zig {n : Int} (h : (Lit.int .i64 n).wf = true) : unzig (zig n) = n := by
  unfold unzig zig
  split <;> (split <;> omega)
/-- The bytes of a text from a place on begin with l. -/
def Stands (s : ByteArray) (a : Int) (l : List Int) : Prop := a + l.length ≤ s.size ∧ ∀ j : Nat, j < l.length → bt s (a + j) = l[j]?.getD 0
theorem Stands.tail {s : ByteArray} {a x : Int} {l : List Int} (h : Stands s a (x :: l)) : bt s a = x ∧ Stands s (a + 1) l := by
  obtain ⟨h1, h2⟩ := h
  simp only [List.length_cons] at h1
  refine ⟨by have := h2 0 (by simp); simpa using this, by omega, fun j hj => ?_⟩
  have := h2 (j + 1) (by simp; omega)
  rw [List.getElem?_cons_succ] at this
  rw [← this]; congr 1; omega
theorem getGo_put (s : ByteArray) (a : Int) (ha : 0 ≤ a) (d : Nat) : ∀ (i u v : Nat), i + (d + 1) = 10 → u + v * pw i < 18446744073709551616 → (0 < i → 0 < v) → Stands s (a + i) (putU v) →
    getGo s a (d + 1) i u = (unzig (u + v * pw i), a + i + (putU v).length, 0) := by
  induction d with
  | zero =>
    intro i u v hi hv hz hs
    obtain rfl : i = 9 := by omega
    have e9 : pw 9 = 9223372036854775808 := by decide
    have hv1 : v ≤ 1 := by rw [e9] at hv; omega
    rw [putU_small (by omega)] at hs ⊢
    obtain ⟨b, h1⟩ := hs.tail
    have h2 := h1.1
    simp only [List.length_nil] at h2
    rw [getGo, if_neg (by omega), b, if_neg (by omega), if_neg (by omega), if_neg (by omega), show ((v : Int) % 128).toNat = v by omega]
    simp
  | succ d ih =>
    intro i u v hi hv hz hs
    by_cases hu : v < 128
    · rw [putU_small hu] at hs ⊢
      obtain ⟨b, h1⟩ := hs.tail
      have h2 := h1.1
      simp only [List.length_nil] at h2
      rw [getGo, if_neg (by omega), b, if_neg (by omega), if_neg (by omega), if_neg (by omega), show ((v : Int) % 128).toNat = v by omega]
      simp
    · rw [putU_big hu] at hs ⊢
      obtain ⟨b, h1⟩ := hs.tail
      have h2 := h1.1
      have hm : v % 128 + 128 * (v / 128) = v := Nat.mod_add_div v 128
      have e : u + v % 128 * pw i + v / 128 * pw (i + 1) = u + v * pw i := by
        rw [pw_succ]
        calc u + v % 128 * pw i + v / 128 * (pw i * 128) = u + (v % 128 + 128 * (v / 128)) * pw i := by rw [Nat.add_mul, Nat.add_assoc]; congr 2; rw [Nat.mul_comm (pw i) 128, ← Nat.mul_assoc, Nat.mul_comm (v / 128) 128]
          _ = u + v * pw i := by rw [hm]
      rw [getGo, if_neg (by omega), b, if_neg (by omega), if_pos (by omega), show (((v % 128 + 128 : Nat) : Int) % 128).toNat = v % 128 by omega]
      rw [ih (i + 1) (u + v % 128 * pw i) (v / 128) (by omega) (by rw [e]; exact hv) (by omega) (by rw [show a + ((i + 1 : Nat) : Int) = a + i + 1 by omega]; exact h1), e]
      simp only [List.length_cons]
      congr 2
      omega
theorem getM_put (s : ByteArray) (a n : Int) (ha : 0 ≤ a) (hn : (Lit.int .i64 n).wf = true) (hs : Stands s a (putU (zig n))) : getM s a = (n, a + (putU (zig n)).length, 0) := by
  have e1 : pw 0 = 1 := rfl
  have := getGo_put s a ha 9 0 0 (zig n) rfl (by rw [e1]; have := zig_lt hn; omega) (by omega) (by simpa using hs)
  unfold getM
  rw [this, e1, Nat.zero_add, Nat.mul_one, unzig_zig hn]
  simp
/-- All bytes but the last say that more is to come. -/
theorem getGo_cut (s : ByteArray) (d : Nat) : ∀ (i u v : Nat), i + (d + 1) = 10 → v < 128 ^ (d + 1) → (s.size : Int) + 1 = i + (putU v).length → (∀ j : Nat, j + 1 < (putU v).length → bt s ((i : Int) + j) = (putU v)[j]?.getD 0) → (getGo s 0 (d + 1) i u).2.2 = 4 := by
  induction d with
  | zero =>
    intro i u v hi hv hs hb
    rw [putU_small (by simpa using hv)] at hs
    simp only [List.length_singleton] at hs
    rw [getGo, if_pos (by omega)]
  | succ d ih =>
    intro i u v hi hv hs hb
    by_cases hu : v < 128
    · rw [putU_small hu] at hs
      simp only [List.length_singleton] at hs
      rw [getGo, if_pos (by omega)]
    · rw [putU_big hu] at hs hb
      simp only [List.length_cons] at hs hb
      have hv2 : v / 128 < 128 ^ (d + 1) := by rw [Nat.pow_succ] at hv; omega
      have hl := (putU_length d (v / 128) hv2).1
      have b := hb 0 (by omega)
      simp only [List.getElem?_cons_zero, Option.getD_some] at b
      rw [show (i : Int) + ((0 : Nat) : Int) = i by omega] at b
      rw [getGo, if_neg (by omega), Int.zero_add, b, if_neg (by omega), if_pos (by omega)]
      refine ih (i + 1) _ (v / 128) (by omega) hv2 (by omega) (fun j hj => ?_)
      have := hb (j + 1) (by omega)
      rw [List.getElem?_cons_succ] at this
      rw [← this]; congr 1; omega
theorem bl_putN {n : Int} (h : (Lit.int .i64 n).wf = true) : bl (putN n) = putU (zig n) := bl_nums _ (putU_bytes 9 _ (lt_pow10 (zig_lt h)))
theorem putN_len {n : Int} (h : (Lit.int .i64 n).wf = true) : (putN n).size = (putU (zig n)).length := by rw [← bl_length, bl_putN h]
theorem stands_put (p q : ByteArray) {n : Int} (h : (Lit.int .i64 n).wf = true) : Stands (p ++ putN n ++ q) (p.size : Int) (putU (zig n)) := by
  have hl := putN_len h
  refine ⟨by rw [ByteArray.size_append, ByteArray.size_append]; omega, fun j hj => ?_⟩
  rw [show (p.size : Int) + (j : Int) = ((p.size + j : Nat) : Int) by omega, bt_app_left _ _ _ (by rw [ByteArray.size_append]; omega), bt_app_right, bt_bl, bl_putN h]
theorem get_put (p q : ByteArray) {n : Int} (h : (Lit.int .i64 n).wf = true) : getM (p ++ putN n ++ q) (p.size : Int) = (n, (p.size : Int) + (putN n).size, 0) := by
  rw [getM_put _ _ n (by omega) h (stands_put p q h), putN_len h]
theorem cut_put {n : Int} (h : (Lit.int .i64 n).wf = true) (m : Nat) (hm : m + 1 = (putN n).size) : (getM ((putN n).extract 0 m) 0).2.2 = 4 := by
  have hl := putN_len h
  have hs : ((putN n).extract 0 m).size = m := by rw [ByteArray.size_extract]; omega
  refine getGo_cut _ 9 0 0 (zig n) rfl (lt_pow10 (zig_lt h)) (by omega) (fun j hj => ?_)
  rw [show ((0 : Nat) : Int) + (j : Int) = (j : Int) by omega, bt_take _ _ _ (by omega), bt_bl, bl_putN h]
end Go.Proofs.Ytbjcancgkfaapaa.Pure
