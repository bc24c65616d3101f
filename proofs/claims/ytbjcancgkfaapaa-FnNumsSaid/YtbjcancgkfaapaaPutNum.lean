/- The encoding of a whole number: what both PutNum functions make is strOfNums (putU (zig n)), for every number of 64 bits. No conditions. -/
import Derived.Test.YtbjcancgkfaapaaBase
import Derived.Test.YtbjcancgkfaapaaQx7
import Derived.Test.YtbjcancgkfaapaaQx8
namespace Go.Proofs.Ytbjcancgkfaapaa.Pure
set_option linter.unusedVariables false
set_option linter.unusedSimpArgs false
open Go Go.RowKit Go.Proofs.Ytbjcancgkfaapaa.Q Go.Proofs.YtbjcancgkfaapaaW.PrintWords Go.Proofs.YtbjcancgkfaapaaW.PrintLast Go.Proofs.YtbjcancgkfaapaaW.PrintMore

def zig (n : Int) : Nat := if n < 0 then (-2 * n - 1).toNat else (2 * n).toNat
def putU (u : Nat) : List Int := if u < 128 then [(u : Int)] else ((u % 128 + 128 : Nat) : Int) :: putU (u / 128)
termination_by u
decreasing_by omega
def putN (n : Int) : ByteArray := strOfNums (putU (zig n))

theorem zig_lt {n : Int} (h : (Lit.int .i64 n).wf = true) : zig n < 18446744073709551616 := by
  obtain ⟨h0, h1⟩ := i64_of_wf h
  unfold zig; split <;> omega
theorem putU_small {u : Nat} (h : u < 128) : putU u = [(u : Int)] := by rw [putU, if_pos h]
theorem putU_big {u : Nat} (h : ¬ u < 128) : putU u = ((u % 128 + 128 : Nat) : Int) :: putU (u / 128) := by rw [putU, if_neg h]
theorem putU_length (n : Nat) : ∀ u, u < 128 ^ (n + 1) → 1 ≤ (putU u).length ∧ (putU u).length ≤ n + 1 := by
  induction n with
  | zero => intro u h; rw [putU_small (by simpa using h)]; simp
  | succ n ih =>
    intro u h
    by_cases hu : u < 128
    · rw [putU_small hu]; simp
    · rw [putU_big hu]
      have := ih (u / 128) (by rw [Nat.pow_succ] at h; omega)
      simp only [List.length_cons]; omega

theorem specFold {n : Int} (h : (Lit.int .i64 n).wf = true) : spec_l01Fold.f n = some (zig n : Int) := by
  obtain ⟨h0, h1⟩ := i64_of_wf h
  unfold spec_l01Fold.f zig
  by_cases hn : n < 0
  · rw [if_pos hn, if_pos hn, wrap64_id (n := n + 1) (by omega) (by omega), wrap64_id (by omega) (by omega), wrap_u64_id (n := -(n + 1)) (by omega) (by omega), wrap_u64_id (n := 2 * _) (by omega) (by omega), wrap_u64_id (by omega) (by omega)]
    congr 1; omega
  · rw [if_neg hn, if_neg hn, wrap_u64_id (n := n) (by omega) (by omega), wrap_u64_id (by omega) (by omega)]
    congr 1; omega

theorem specPut_l0 (n : Nat) : ∀ (u : Nat) (acc : List Int), u < 128 ^ n → u < 18446744073709551616 → acc.length + n < 140737488355328 →
    Ev (fun k => spec_PutNum.l0 k (u : Int) acc) (strOfNums (acc ++ putU u)) := by
  induction n with
  | zero =>
    intro u acc h h64 hl
    have hu : u < 128 := by simp at h; omega
    refine Ev.step (fun k => by rw [spec_PutNum.l0]) ?_
    simp only [if_neg (show ¬ ((u : Int) ≥ 128) by omega), if_pos (show acc.length < 140737488355328 by omega)]
    refine Ev.const ?_
    rw [putU_small hu, Int.emod_eq_of_lt (by omega) (by omega)]
  | succ n ih =>
    intro u acc h h64 hl
    refine Ev.step (fun k => by rw [spec_PutNum.l0]) ?_
    by_cases hu : u < 128
    · simp only [if_neg (show ¬ ((u : Int) ≥ 128) by omega), if_pos (show acc.length < 140737488355328 by omega)]
      refine Ev.const ?_
      rw [putU_small hu, Int.emod_eq_of_lt (by omega) (by omega)]
    · simp only [if_pos (show ((u : Int) ≥ 128) by omega), if_pos (show acc.length < 140737488355328 by omega)]
      have e1 : IntKind.u64.wrap (Int.tdiv (u : Int) 128) = ((u / 128 : Nat) : Int) := by
        rw [Int.tdiv_eq_ediv_of_nonneg (by omega), wrap_u64_id (by omega) (by omega)]; omega
      have e2 : (IntKind.u64.wrap ((Int.tmod (u : Int) 128) + 128)) % 256 = ((u % 128 + 128 : Nat) : Int) := by
        rw [Int.tmod_eq_emod_of_nonneg (by omega), wrap_u64_id (by omega) (by omega)]; omega
      simp only [e1, e2]
      have := ih (u / 128) (acc ++ [((u % 128 + 128 : Nat) : Int)]) (by rw [Nat.pow_succ] at h; omega) (by omega) (by simp; omega)
      rw [List.append_assoc] at this
      rw [putU_big hu]
      exact this
theorem lt_pow10 {u : Nat} (h : u < 18446744073709551616) : u < 128 ^ 10 := by
  have : (128 : Nat) ^ 10 = 1180591620717411303424 := by decide
  omega
theorem specPut {n : Int} (h : (Lit.int .i64 n).wf = true) : Ev (fun k => spec_PutNum.f k n) (putN n) := by
  unfold spec_PutNum.f
  refine Ev.bind1 (specFold h) ?_
  have := specPut_l0 10 (zig n) [] (lt_pow10 (zig_lt h)) (zig_lt h) (by simp)
  simpa [putN] using this

theorem or128 {u : Nat} : Go.bits .or .u8 ((u : Int) % 256) 128 = ((u % 128 + 128 : Nat) : Int) := by
  rw [u8_or _ _ (by omega) (by omega) (by omega) (by omega)]
  have e : ((u : Int) % 256).toNat = u % 256 := by omega
  have e1 : (128 : Int).toNat = 128 := rfl
  rw [e, e1]
  congr 1
  have hb : ∀ v : Fin 256, v.val ||| 128 = v.val % 128 + 128 := by decide +kernel
  have := hb ⟨u % 256, by omega⟩
  simp only at this
  rw [this]; omega
theorem implPut_l0 (n : Nat) : ∀ (u : Nat) (acc : List Int), u < 128 ^ n → u < 18446744073709551616 → acc.length + n < 140737488355328 →
    Ev (fun k => impl_putNum.l0 k (u : Int) acc) (strOfNums (acc ++ putU u)) := by
  induction n with
  | zero =>
    intro u acc h h64 hl
    have hu : u < 128 := by simp at h; omega
    refine Ev.step (fun k => by rw [impl_putNum.l0]) ?_
    simp only [if_neg (show ¬ ((u : Int) > 127) by omega), if_pos (show acc.length < 140737488355328 by omega)]
    refine Ev.const ?_
    rw [putU_small hu, Int.emod_eq_of_lt (by omega) (by omega)]
  | succ n ih =>
    intro u acc h h64 hl
    refine Ev.step (fun k => by rw [impl_putNum.l0]) ?_
    by_cases hu : u < 128
    · simp only [if_neg (show ¬ ((u : Int) > 127) by omega), if_pos (show acc.length < 140737488355328 by omega)]
      refine Ev.const ?_
      rw [putU_small hu, Int.emod_eq_of_lt (by omega) (by omega)]
    · simp only [if_pos (show ((u : Int) > 127) by omega), if_pos (show acc.length < 140737488355328 by omega)]
      have e1 : (u : Int) / 128 = ((u / 128 : Nat) : Int) := by omega
      simp only [e1, or128]
      have := ih (u / 128) (acc ++ [((u % 128 + 128 : Nat) : Int)]) (by rw [Nat.pow_succ] at h; omega) (by omega) (by simp; omega)
      rw [List.append_assoc] at this
      rw [putU_big hu]
      exact this
theorem implFold_neg {n : Int} (h : (Lit.int .i64 n).wf = true) (hn : n < 0) : Go.bits .xor .u64 18446744073709551615 (IntKind.u64.wrap ((IntKind.u64.wrap n) * 2)) = (zig n : Int) := by
  obtain ⟨h0, h1⟩ := i64_of_wf h
  have e : IntKind.u64.wrap ((IntKind.u64.wrap n) * 2) = 2 * n + 18446744073709551616 := by rw [wrap_u64, wrap_u64]; omega
  rw [e, not_u64 (by omega) (by omega)]
  unfold zig; rw [if_pos hn]; omega
theorem implFold_pos {n : Int} (h : (Lit.int .i64 n).wf = true) (hn : ¬ n < 0) : IntKind.u64.wrap ((IntKind.u64.wrap n) * 2) = (zig n : Int) := by
  obtain ⟨h0, h1⟩ := i64_of_wf h
  rw [wrap_u64, wrap_u64]
  unfold zig; rw [if_neg hn]; omega
theorem implPut {n : Int} (h : (Lit.int .i64 n).wf = true) : Ev (fun k => impl_putNum.f k n) (putN n) := by
  unfold impl_putNum.f
  have base : Ev (fun k => impl_putNum.j0 k (zig n : Int)) (putN n) := by
    refine Ev.step (fun k => by rw [impl_putNum.j0]) ?_
    have := implPut_l0 10 (zig n) [] (lt_pow10 (zig_lt h)) (zig_lt h) (by simp)
    simpa [putN] using this
  by_cases hn : n < 0
  · simp only [if_pos hn, implFold_neg h hn]; exact base
  · simp only [if_neg hn, implFold_pos h hn]; exact base
theorem putN_size {n : Int} (h : (Lit.int .i64 n).wf = true) : 1 ≤ (putN n).size ∧ (putN n).size ≤ 10 := by
  unfold putN; rw [strOfNums_size]; exact putU_length 9 _ (lt_pow10 (zig_lt h))
end Go.Proofs.Ytbjcancgkfaapaa.Pure
