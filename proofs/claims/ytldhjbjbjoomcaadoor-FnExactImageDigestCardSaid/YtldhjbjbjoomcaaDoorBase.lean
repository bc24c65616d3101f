/- Small facts on whole numbers with a width, on bytes and on rounds, that the other texts of this seat share. No conditions. -/
import Derived.Test.YtldhjbjbjoomcaaDoorWMore
import Derived.Laws.BitsAllLaws
import Derived.Laws.Strings
namespace Go.Proofs.YtldhjbjbjoomcaaDoor.Pure
set_option linter.unusedVariables false
set_option linter.unusedSimpArgs false
open Go Go.RowKit Go.Proofs.YtldhjbjbjoomcaaDoorW.PrintWords Go.Proofs.YtldhjbjbjoomcaaDoorW.PrintLast Go.Proofs.YtldhjbjbjoomcaaDoorW.PrintMore

/-- A fact that linear arithmetic does not look at. -/
structure Veil (p : Prop) : Prop where
  out : p

theorem wrap64_id {n : Int} (h0 : -9223372036854775808 ≤ n) (h1 : n ≤ 9223372036854775807) : wrap64 n = n := by
  unfold wrap64; omega
theorem i64_of_wf {n : Int} (h : (Lit.int .i64 n).wf = true) : -9223372036854775808 ≤ n ∧ n ≤ 9223372036854775807 := by
  simpa [Lit.wf, IntKind.min, IntKind.max, IntKind.signed, IntKind.bits] using h
theorem wrap_u64 (n : Int) : IntKind.u64.wrap n = n % 18446744073709551616 := by simp [IntKind.wrap, IntKind.bits, IntKind.signed]
theorem wrap_u64_id {n : Int} (h0 : 0 ≤ n) (h1 : n < 18446744073709551616) : IntKind.u64.wrap n = n := by rw [wrap_u64]; omega
theorem wrap_u8_id {n : Int} (h0 : 0 ≤ n) (h1 : n < 256) : IntKind.u8.wrap n = n := by rw [IntKind.wrap_u8]; omega

theorem xor_ones (w a : Nat) (h : a < 2 ^ w) : (2 ^ w - 1) ^^^ a = 2 ^ w - 1 - a := by
  have e : (2 ^ w - 1) ^^^ a = (BitVec.allOnes w ^^^ BitVec.ofNat w a).toNat := by
    rw [BitVec.toNat_xor, BitVec.toNat_allOnes, BitVec.toNat_ofNat, Nat.mod_eq_of_lt h]
  rw [e, BitVec.allOnes_xor, BitVec.toNat_not, BitVec.toNat_ofNat, Nat.mod_eq_of_lt h]
theorem not_u64 {a : Int} (h0 : 0 ≤ a) (h1 : a < 18446744073709551616) : Go.bits .xor .u64 18446744073709551615 a = 18446744073709551615 - a := by
  obtain ⟨n, rfl⟩ := Int.eq_ofNat_of_zero_le h0
  have h : n < 2 ^ 64 := by omega
  have e := u64_xor_nat 18446744073709551615 n (by omega) (by omega)
  have e2 := xor_ones 64 n h
  simp only [Nat.reducePow, Nat.reduceSub] at e2
  rw [e2] at e
  rw [show ((18446744073709551615 : Int)) = ((18446744073709551615 : Nat) : Int) from rfl, e]
  omega
theorem not_u32 {a : Int} (h0 : 0 ≤ a) (h1 : a < 4294967296) : Go.bits .xor .u32 4294967295 a = 4294967295 - a := by
  obtain ⟨n, rfl⟩ := Int.eq_ofNat_of_zero_le h0
  have h : n < 2 ^ 32 := by omega
  have e := u32_xor_nat 4294967295 n (by omega) (by omega)
  have e2 := xor_ones 32 n h
  simp only [Nat.reducePow, Nat.reduceSub] at e2
  rw [e2] at e
  rw [show ((4294967295 : Int)) = ((4294967295 : Nat) : Int) from rfl, e]
  omega
theorem not_u32' {a : Int} (h0 : 0 ≤ a) (h1 : a < 4294967296) : Go.bits .xor .u32 a 4294967295 = 4294967295 - a := by
  obtain ⟨n, rfl⟩ := Int.eq_ofNat_of_zero_le h0
  rw [← not_u32 h0 h1]
  have e := u32_xor_nat 4294967295 n (by omega) (by omega)
  have e2 := u32_xor_nat n 4294967295 (by omega) (by omega)
  rw [Nat.xor_comm] at e2
  exact e2.trans e.symm
theorem i64_flip {a : Int} (h0 : 0 ≤ a) (h1 : a ≤ 9223372036854775807) : Go.bits .xor .i64 (-1) a = -1 - a := by
  obtain ⟨n, rfl⟩ := Int.eq_ofNat_of_zero_le h0
  have h : n < 9223372036854775808 := by omega
  show IntKind.i64.wrap ((BitVec.ofInt 64 (-1) ^^^ BitVec.ofInt 64 (n : Int)).toNat : Int) = _
  have h1 : BitVec.ofInt 64 (-1) = BitVec.allOnes 64 := by decide
  rw [h1, BitVec.allOnes_xor, BitVec.toNat_not, ofInt_u64 n (by omega)]
  simp [IntKind.wrap, IntKind.bits, IntKind.signed]
  omega

theorem bt_nonneg (s : ByteArray) (i : Int) : 0 ≤ bt s i := (bt_range s i).1
theorem bt_le (s : ByteArray) (i : Int) : bt s i ≤ 255 := (bt_range s i).2
theorem toList_data (s : ByteArray) : s.toList = s.data.toList := ByteArray.toList_eq s
theorem empty_toList : (⟨#[]⟩ : ByteArray).toList = [] := by rw [toList_data]
theorem toList_inj {a b : ByteArray} (h : a.toList = b.toList) : a = b := by
  rw [toList_data, toList_data] at h
  cases a; cases b
  simpa using h
theorem Ev.ok {α : Type} {g : Nat → Option α} {r : α} {K : Nat} (h : ∀ k, K ≤ k → g k = some r) : Ev g r := ⟨K, h⟩
theorem Ev.const {α : Type} {g : Option α} {r : α} (h : g = some r) : Ev (fun _ => g) r := ⟨0, fun _ _ => h⟩
/-- One is known without rounds. -/
theorem Ev.bind1 {α β : Type} {g : Option α} {f : Nat → α → Option β} {a : α} {r : β} (h : g = some a) (k : Ev (fun n => f n a) r) : Ev (fun n => g.bind (f n)) r := by
  subst h
  exact k
end Go.Proofs.YtldhjbjbjoomcaaDoor.Pure
