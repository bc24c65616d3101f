/- Pure texts in one: The program's MetaBytes and the reference's MetaBytes return the same text, for every number and text. -/
import Derived.Test.YtppilphplkgigaaKFnExactMetaBytes0
import Derived.Test.YtppilphplkgigaaWMore
import Derived.Laws.BitsAllLaws
import Derived.Laws.Strings
namespace Go.Proofs.Ytppilphplkgigaa.Pure
set_option linter.unusedVariables false
set_option linter.unusedSimpArgs false
open Go Go.RowKit Go.Proofs.YtppilphplkgigaaW.PrintWords Go.Proofs.YtppilphplkgigaaW.PrintLast Go.Proofs.YtppilphplkgigaaW.PrintMore
theorem wrap64_id {n : Int} (h0 : -9223372036854775808 ≤ n) (h1 : n ≤ 9223372036854775807) : wrap64 n = n := by
  unfold wrap64; omega
theorem i64_of_wf {n : Int} (h : (Lit.int .i64 n).wf = true) : -9223372036854775808 ≤ n ∧ n ≤ 9223372036854775807 := by
  simpa [Lit.wf, IntKind.min, IntKind.max, IntKind.signed, IntKind.bits] using h
theorem wrap_u64 (n : Int) : IntKind.u64.wrap n = n % 18446744073709551616 := by simp [IntKind.wrap, IntKind.bits, IntKind.signed]
theorem wrap_u64_id {n : Int} (h0 : 0 ≤ n) (h1 : n < 18446744073709551616) : IntKind.u64.wrap n = n := by rw [wrap_u64]; omega
theorem xor_ones (w a : Nat) (h : a < 2 ^ w) : (2 ^ w - 1) ^^^ a = 2 ^ w - 1 - a := by
  have e : (2 ^ w - 1) ^^^ a = (BitVec.allOnes w ^^^ BitVec.ofNat w a).toNat := by
    rw [BitVec.toNat_xor, BitVec.toNat_allOnes, BitVec.toNat_ofNat, Nat.mod_eq_of_lt h]
  rw [e, BitVec.allOnes_xor, BitVec.toNat_not, BitVec.toNat_ofNat, Nat.mod_eq_of_lt h]
theorem not_u64 {a : Int} (h0 : 0 ≤ a) (h1 : a < 18446744073709551616) : Go.bits .xor .u64 18446744073709551615 a = 18446744073709551615 - a := by
  obtain ⟨n, rfl⟩ := Int.eq_ofNat_of_zero_le h0
  have h : n < 2 ^ 64 := by omega
  have e := u64_xor_nat 18446744073709551615 n (by omega) (by omega)
  have e2 := xor_ones 64 n h
  simp only [Nat.reducePow, Nat.reduceSub] at e2
  rw [e2] at e
  rw [show ((18446744073709551615 : Int)) = ((18446744073709551615 : Nat) : Int) from rfl, e]
  omega
theorem not_u32 {a : Int} (h0 : 0 ≤ a) (h1 : a < 4294967296) : Go.bits .xor .u32 4294967295 a = 4294967295 - a := by
  obtain ⟨n, rfl⟩ := Int.eq_ofNat_of_zero_le h0
  have h : n < 2 ^ 32 := by omega
  have e := u32_xor_nat 4294967295 n (by omega) (by omega)
  have e2 := xor_ones 32 n h
  simp only [Nat.reducePow, Nat.reduceSub] at e2
  rw [e2] at e
  rw [show ((4294967295 : Int)) = ((4294967295 : Nat) : Int) from rfl, e]
  omega
theorem not_u32' {a : Int} (h0 : 0 ≤ a) (h1 : a < 4294967296) : Go.bits .xor .u32 a 4294967295 = 4294967295 - a := by
  obtain ⟨n, rfl⟩ := Int.eq_ofNat_of_zero_le h0
  rw [← not_u32 h0 h1]
  have e := u32_xor_nat 4294967295 n (by omega) (by omega)
  have e2 := u32_xor_nat n 4294967295 (by omega) (by omega)
  rw [Nat.xor_comm] at e2
  exact e2.trans e.symm
theorem bt_nonneg (s : ByteArray) (i : Int) : 0 ≤ bt s i := (bt_range s i).1
theorem bt_le (s : ByteArray) (i : Int) : bt s i ≤ 255 := (bt_range s i).2
theorem Ev.const {α : Type} {g : Option α} {r : α} (h : g = some r) : Ev (fun _ => g) r := ⟨0, fun _ _ => h⟩
/-- One is known without rounds. -/
theorem Ev.bind1 {α β : Type} {g : Option α} {f : Nat → α → Option β} {a : α} {r : β} (h : g = some a) (k : Ev (fun n => f n a) r) : Ev (fun n => g.bind (f n)) r := by
  subst h
  exact k
end Go.Proofs.Ytppilphplkgigaa.Pure
namespace Go.Proofs.Ytppilphplkgigaa.Pure
set_option linter.unusedVariables false
set_option linter.unusedSimpArgs false
open Go Go.RowKit Go.Proofs.Ytppilphplkgigaa.Q Go.Proofs.YtppilphplkgigaaW.PrintWords Go.Proofs.YtppilphplkgigaaW.PrintLast Go.Proofs.YtppilphplkgigaaW.PrintMore

def byteList (s : ByteArray) : List Nat := s.data.toList.map UInt8.toNat
theorem byteList_length (s : ByteArray) : (byteList s).length = s.size := by rw [byteList, List.length_map, data_length]
theorem byteList_drop (s : ByteArray) (i : Nat) (h : i < s.size) : (byteList s).drop i = (bt s i).toNat :: (byteList s).drop (i + 1) := by
  have hl : i < (byteList s).length := by rw [byteList_length]; exact h
  rw [List.drop_eq_getElem_cons hl]
  congr 1
  have hb : bt s (i : Int) = ((s[i]'h).toNat : Int) := by unfold bt; rw [dif_pos (show (i : Int).toNat < s.size from h)]; rfl
  rw [hb, Int.toNat_natCast]
  simp only [byteList, List.getElem_map, Array.getElem_toList]
  rfl
def crcStep (r : Nat) : Nat := if r % 2 = 1 then (r / 2) ^^^ 3988292384 else r / 2
def crcIter : Nat → Nat → Nat
  | 0, r => r
  | n + 1, r => crcIter n (crcStep r)
def crcByte (r c : Nat) : Nat := crcIter 8 (r ^^^ c)
def crcFold (r : Nat) (l : List Nat) : Nat := l.foldl crcByte r
def crcM (crc : Nat) (s : ByteArray) : Nat := 4294967295 - crcFold (4294967295 - crc) (byteList s)

theorem xor_lt32 {a b : Nat} (ha : a < 4294967296) (hb : b < 4294967296) : a ^^^ b < 4294967296 := Nat.xor_lt_two_pow (n := 32) ha hb
theorem crcStep_lt {r : Nat} (h : r < 4294967296) : crcStep r < 4294967296 := by
  unfold crcStep; split
  · exact xor_lt32 (by omega) (by omega)
  · omega
theorem crcIter_lt (n : Nat) : ∀ {r : Nat}, r < 4294967296 → crcIter n r < 4294967296 := by
  induction n with
  | zero => exact fun h => h
  | succ n ih => exact fun h => ih (crcStep_lt h)
theorem crcByte_lt {r c : Nat} (h : r < 4294967296) (hc : c < 256) : crcByte r c < 4294967296 := crcIter_lt 8 (xor_lt32 h (by omega))
theorem and_one32 {r : Nat} (h : r < 4294967296) : Go.bits .and .u32 (r : Int) 1 = ((r % 2 : Nat) : Int) := by
  have e := u32_and_nat r 1 h (by omega)
  rw [Nat.and_one_is_mod] at e
  exact e
theorem xor32 {a b : Nat} (ha : a < 4294967296) (hb : b < 4294967296) : Go.bits .xor .u32 (a : Int) (b : Int) = ((a ^^^ b : Nat) : Int) := u32_xor_nat a b ha hb
theorem half_step {r : Nat} (h : r < 4294967296) : Go.bits .xor .u32 ((r : Int) / 2) 3988292384 = ((r / 2 ^^^ 3988292384 : Nat) : Int) := by
  have e := u32_xor_nat (r / 2) 3988292384 (by omega) (by omega)
  rw [← e]; rfl

/-- The reference's inner loop. -/
theorem spec_l1 (s : ByteArray) (i : Int) (R : Int) (d : Nat) : ∀ (r j : Nat), r < 4294967296 → j + d = 8 →
    Ev (fun k => spec_l01Crc.l0 k s (crcIter d r : Int) (wrap64 (i + 1))) R → Ev (fun k => spec_l01Crc.l1 k s (r : Int) i (j : Int)) R := by
  induction d with
  | zero =>
    intro r j hr hj h
    exact Ev.step (fun k => by rw [spec_l01Crc.l1, if_neg (by omega)]; rfl) h
  | succ d ih =>
    intro r j hr hj h
    have e1 : wrap64 ((j : Int) + 1) = ((j + 1 : Nat) : Int) := by rw [wrap64_id (by omega) (by omega)]; omega
    have := ih (crcStep r) (j + 1) (crcStep_lt hr) (by omega) h
    refine Ev.step (fun k => ?_) this
    rw [spec_l01Crc.l1, if_pos (by omega), and_one32 hr, e1]
    unfold crcStep
    by_cases hb : r % 2 = 1
    · rw [if_pos (by omega), if_pos hb, half_step hr]
    · rw [if_neg (by omega), if_neg hb]; rfl
theorem spec_l0 (s : ByteArray) (hs : s.size ≤ 140737488351232) (d : Nat) : ∀ (r i : Nat), r < 4294967296 → i + d = s.size →
    Ev (fun k => spec_l01Crc.l0 k s (r : Int) (i : Int)) (4294967295 - crcFold r ((byteList s).drop i) : Nat) := by
  induction d with
  | zero =>
    intro r i hr hi
    rw [List.drop_of_length_le (by rw [byteList_length]; omega)]
    refine Ev.step (f := fun _ => some ((4294967295 - r : Nat) : Int)) (fun k => ?_) (Ev.now _)
    rw [spec_l01Crc.l0, if_neg (by omega), not_u32' (by omega) (by omega), wrap64_id (by omega) (by omega)]
    congr 1; omega
  | succ d ih =>
    intro r i hr hi
    have h0 := bt_nonneg s i
    have h1 := bt_le s i
    have ec : (bt s i) % 4294967296 = (((bt s i).toNat : Nat) : Int) := by omega
    rw [byteList_drop s i (by omega)]
    have hx : r ^^^ (bt s i).toNat < 4294967296 := xor_lt32 hr (by omega)
    have e1 : wrap64 ((i : Int) + 1) = ((i + 1 : Nat) : Int) := by rw [wrap64_id (by omega) (by omega)]; omega
    have hn := ih (crcByte r (bt s i).toNat) (i + 1) (crcByte_lt hr (by omega)) (by omega)
    have hl := spec_l1 s i ((4294967295 - crcFold (crcByte r (bt s i).toNat) ((byteList s).drop (i + 1)) : Nat) : Int) 8 (r ^^^ (bt s i).toNat) 0 hx rfl (by rw [e1]; exact hn)
    refine Ev.step (fun k => ?_) hl
    rw [spec_l01Crc.l0, if_pos (by omega), if_pos (by omega), ec, xor32 hr (by omega)]; rfl
theorem specCrc (s : ByteArray) (crc : Int) (hs : s.size ≤ 140737488351232) (h0 : 0 ≤ crc) (h1 : crc < 4294967296) : Ev (fun k => spec_l01Crc.f k crc s) (crcM crc.toNat s : Int) := by
  unfold spec_l01Crc.f
  rw [Int.emod_eq_of_lt h0 h1, not_u32' h0 h1]
  have := spec_l0 s hs s.size (4294967295 - crc.toNat) 0 (by omega) (by omega)
  have e : ((4294967295 - crc.toNat : Nat) : Int) = 4294967295 - crc := by omega
  rw [e] at this
  exact this

theorem shr_byte (s : ByteArray) (i : Int) (j : Nat) (hj : j ≤ 8) : shr .u32 ((bt s i) % 4294967296) (j : Int) = (((bt s i).toNat >>> j : Nat) : Int) := by
  have h0 := bt_nonneg s i
  have h1 := bt_le s i
  obtain ⟨c, hc⟩ := Int.eq_ofNat_of_zero_le h0
  rw [hc]
  unfold shr
  rw [show min (j : Int).toNat IntKind.u32.bits = j by simp [IntKind.bits]; omega, Nat.shiftRight_eq_div_pow, Int.emod_eq_of_lt (by omega) (by omega), Int.toNat_natCast]
  simp
theorem mix_step {r c : Nat} (j : Nat) : (r ^^^ (c >>> j)) / 2 = r / 2 ^^^ (c >>> (j + 1)) := by
  have e : ∀ x : Nat, x / 2 = x >>> 1 := fun x => by rw [Nat.shiftRight_eq_div_pow]
  rw [e, e, Nat.shiftRight_xor_distrib, ← Nat.shiftRight_add]
theorem crcStep_mix {r c : Nat} (j : Nat) : crcStep (r ^^^ (c >>> j)) = (if (r ^^^ (c >>> j)) % 2 = 1 then r / 2 ^^^ 3988292384 else r / 2) ^^^ (c >>> (j + 1)) := by
  unfold crcStep
  split
  · rw [mix_step, Nat.xor_assoc, Nat.xor_comm (c >>> (j + 1)), ← Nat.xor_assoc]
  · rw [mix_step]
/-- The program's inner loop. -/
theorem impl_l1 (s : ByteArray) (i : Nat) (hi : i < s.size) (R : Int) (d : Nat) : ∀ (r j : Nat), r < 4294967296 → j + d = 8 →
    Ev (fun k => impl_crcMore.l0 k s (crcIter d (r ^^^ ((bt s i).toNat >>> j)) : Int) (s.size : Int) (wrap64 ((i : Int) + 1))) R → Ev (fun k => impl_crcMore.l1 k s (r : Int) (i : Int) (s.size : Int) (i : Int) (j : Int)) R := by
  have h0 := bt_nonneg s i
  have h1 := bt_le s i
  induction d with
  | zero =>
    intro r j hr hj h
    obtain rfl : j = 8 := by omega
    have e : (bt s i).toNat >>> 8 = 0 := by rw [Nat.shiftRight_eq_div_pow]; omega
    rw [e, Nat.xor_zero] at h
    exact Ev.step (fun k => by rw [impl_crcMore.l1, if_neg (by omega)]; rfl) h
  | succ d ih =>
    intro r j hr hj h
    have e1 : wrap64 ((j : Int) + 1) = ((j + 1 : Nat) : Int) := by rw [wrap64_id (by omega) (by omega)]; omega
    have hc : (bt s i).toNat >>> j < 4294967296 := by rw [Nat.shiftRight_eq_div_pow]; exact Nat.lt_of_le_of_lt (Nat.div_le_self _ _) (by omega)
    rw [crcIter, crcStep_mix] at h
    by_cases hb : (r ^^^ ((bt s i).toNat >>> j)) % 2 = 1
    · rw [if_pos hb] at h
      have := ih (r / 2 ^^^ 3988292384) (j + 1) (xor_lt32 (by omega) (by omega)) (by omega) h
      refine Ev.step (fun k => ?_) this
      rw [impl_crcMore.l1, if_pos (by omega), if_pos (by omega), if_pos (by omega), if_pos (by omega), shr_byte s i j (by omega), xor32 hr hc, and_one32 (xor_lt32 hr hc), e1, half_step hr, if_pos (by omega)]
    · rw [if_neg hb] at h
      have := ih (r / 2) (j + 1) (by omega) (by omega) h
      refine Ev.step (fun k => ?_) this
      rw [impl_crcMore.l1, if_pos (by omega), if_pos (by omega), if_pos (by omega), if_pos (by omega), shr_byte s i j (by omega), xor32 hr hc, and_one32 (xor_lt32 hr hc), e1, if_neg (by omega)]; rfl
theorem impl_l0 (s : ByteArray) (hs : s.size ≤ 140737488351232) (d : Nat) : ∀ (r i : Nat), r < 4294967296 → i + d = s.size →
    Ev (fun k => impl_crcMore.l0 k s (r : Int) (s.size : Int) (i : Int)) (4294967295 - crcFold r ((byteList s).drop i) : Nat) := by
  induction d with
  | zero =>
    intro r i hr hi
    rw [List.drop_of_length_le (by rw [byteList_length]; omega)]
    refine Ev.step (f := fun _ => some ((4294967295 - r : Nat) : Int)) (fun k => ?_) (Ev.now _)
    rw [impl_crcMore.l0, if_neg (by omega), not_u32 (by omega) (by omega)]
    congr 1; omega
  | succ d ih =>
    intro r i hr hi
    have h0 := bt_nonneg s i
    have h1 := bt_le s i
    rw [byteList_drop s i (by omega)]
    have e1 : wrap64 ((i : Int) + 1) = ((i + 1 : Nat) : Int) := by rw [wrap64_id (by omega) (by omega)]; omega
    have hn := ih (crcByte r (bt s i).toNat) (i + 1) (crcByte_lt hr (by omega)) (by omega)
    have hl := impl_l1 s i (by omega) ((4294967295 - crcFold (crcByte r (bt s i).toNat) ((byteList s).drop (i + 1)) : Nat) : Int) 8 r 0 hr rfl (by rw [e1, Nat.shiftRight_zero]; exact hn)
    exact Ev.step (fun k => by rw [impl_crcMore.l0, if_pos (by omega)]; rfl) hl
theorem implCrc (s : ByteArray) (crc : Int) (hs : s.size ≤ 140737488351232) (h0 : 0 ≤ crc) (h1 : crc < 4294967296) : Ev (fun k => impl_crcMore.f k crc s) (crcM crc.toNat s : Int) := by
  unfold impl_crcMore.f
  rw [not_u32 h0 h1]
  have := impl_l0 s hs s.size (4294967295 - crc.toNat) 0 (by omega) (by omega)
  have e : ((4294967295 - crc.toNat : Nat) : Int) = 4294967295 - crc := by omega
  rw [e] at this
  exact this
end Go.Proofs.Ytppilphplkgigaa.Pure
namespace Go.Proofs.Ytppilphplkgigaa.Pure
set_option linter.unusedVariables false
set_option linter.unusedSimpArgs false
open Go Go.RowKit Go.Proofs.Ytppilphplkgigaa.Q Go.Proofs.YtppilphplkgigaaW.PrintWords Go.Proofs.YtppilphplkgigaaW.PrintLast Go.Proofs.YtppilphplkgigaaW.PrintMore
/-- Four bytes of a number, the least one first. -/
def four (n : Nat) : ByteArray := strOfNums [((n % 256 : Nat) : Int), ((n / 256 % 256 : Nat) : Int), ((n / 65536 % 256 : Nat) : Int), ((n / 16777216 % 256 : Nat) : Int)]
theorem four_size (n : Nat) : (four n).size = 4 := by simp [four, strOfNums_size]
def sealM (s : ByteArray) : ByteArray := s ++ four (crcM 0 s)
theorem specFour (n : Nat) : spec_l01Four.f (n : Int) = some (four n) := by
  unfold spec_l01Four.f four
  have e1 : (n : Int) / 256 % 256 = ((n / 256 % 256 : Nat) : Int) := by omega
  have e2 : (n : Int) / 65536 % 256 = ((n / 65536 % 256 : Nat) : Int) := by omega
  have e3 : (n : Int) / 16777216 % 256 = ((n / 16777216 % 256 : Nat) : Int) := by omega
  rw [e1, e2, e3]; rfl
theorem implSeal (s : ByteArray) (hs : s.size ≤ 140737488351232) : Ev (fun k => impl_seal.f k s) (sealM s) := by
  unfold impl_seal.f
  refine Ev.bind (implCrc s 0 hs (by omega) (by omega)) ?_
  have e : (some ([((crcM (0 : Int).toNat s : Nat) : Int) % 256, ((crcM (0 : Int).toNat s : Nat) : Int) / 256 % 256, ((crcM (0 : Int).toNat s : Nat) : Int) / 65536 % 256, ((crcM (0 : Int).toNat s : Nat) : Int) / 16777216 % 256] : List Int)).map strOfNums = some (four (crcM 0 s)) := specFour (crcM 0 s)
  simp only [Option.map_some, Option.some.injEq] at e
  simp only [Option.bind_some]
  rw [e, if_pos (by rw [four_size]; omega)]
  exact Ev.now _
end Go.Proofs.Ytppilphplkgigaa.Pure
namespace Go.Proofs.Ytppilphplkgigaa.Pure
set_option linter.unusedVariables false
set_option linter.unusedSimpArgs false
open Go Go.RowKit Go.Proofs.Ytppilphplkgigaa.Q Go.Proofs.YtppilphplkgigaaW.PrintWords Go.Proofs.YtppilphplkgigaaW.PrintLast Go.Proofs.YtppilphplkgigaaW.PrintMore

def zig (n : Int) : Nat := if n < 0 then (-2 * n - 1).toNat else (2 * n).toNat
def putU (u : Nat) : List Int := if u < 128 then [(u : Int)] else ((u % 128 + 128 : Nat) : Int) :: putU (u / 128)
termination_by u
decreasing_by omega
def putN (n : Int) : ByteArray := strOfNums (putU (zig n))

theorem zig_lt {n : Int} (h : (Lit.int .i64 n).wf = true) : zig n < 18446744073709551616 := by
  obtain ⟨h0, h1⟩ := i64_of_wf h
  unfold zig; split <;> omega
theorem putU_small {u : Nat} (h : u < 128) : putU u = [(u : Int)] := by rw [putU, if_pos h]
theorem putU_big {u : Nat} (h : ¬ u < 128) : putU u = ((u % 128 + 128 : Nat) : Int) :: putU (u / 128) := by rw [putU, if_neg h]
theorem putU_length (n : Nat) : ∀ u, u < 128 ^ (n + 1) → 1 ≤ (putU u).length ∧ (putU u).length ≤ n + 1 := by
  induction n with
  | zero => intro u h; rw [putU_small (by simpa using h)]; simp
  | succ n ih =>
    intro u h
    by_cases hu : u < 128
    · rw [putU_small hu]; simp
    · rw [putU_big hu]
      have := ih (u / 128) (by rw [Nat.pow_succ] at h; omega)
      simp only [List.length_cons]; omega

theorem specFold {n : Int} (h : (Lit.int .i64 n).wf = true) : spec_l01Fold.f n = some (zig n : Int) := by
  obtain ⟨h0, h1⟩ := i64_of_wf h
  unfold spec_l01Fold.f zig
  by_cases hn : n < 0
  · rw [if_pos hn, if_pos hn, wrap64_id (n := n + 1) (by omega) (by omega), wrap64_id (by omega) (by omega), wrap_u64_id (n := -(n + 1)) (by omega) (by omega), wrap_u64_id (n := 2 * _) (by omega) (by omega), wrap_u64_id (by omega) (by omega)]
    congr 1; omega
  · rw [if_neg hn, if_neg hn, wrap_u64_id (n := n) (by omega) (by omega), wrap_u64_id (by omega) (by omega)]
    congr 1; omega

theorem specPut_l0 (n : Nat) : ∀ (u : Nat) (acc : List Int), u < 128 ^ n → u < 18446744073709551616 → acc.length + n < 140737488355328 →
    Ev (fun k => spec_PutNum.l0 k (u : Int) acc) (strOfNums (acc ++ putU u)) := by
  induction n with
  | zero =>
    intro u acc h h64 hl
    have hu : u < 128 := by simp at h; omega
    refine Ev.step (fun k => by rw [spec_PutNum.l0]) ?_
    simp only [if_neg (show ¬ ((u : Int) ≥ 128) by omega), if_pos (show acc.length < 140737488355328 by omega)]
    refine Ev.const ?_
    rw [putU_small hu, Int.emod_eq_of_lt (by omega) (by omega)]
  | succ n ih =>
    intro u acc h h64 hl
    refine Ev.step (fun k => by rw [spec_PutNum.l0]) ?_
    by_cases hu : u < 128
    · simp only [if_neg (show ¬ ((u : Int) ≥ 128) by omega), if_pos (show acc.length < 140737488355328 by omega)]
      refine Ev.const ?_
      rw [putU_small hu, Int.emod_eq_of_lt (by omega) (by omega)]
    · simp only [if_pos (show ((u : Int) ≥ 128) by omega), if_pos (show acc.length < 140737488355328 by omega)]
      have e1 : IntKind.u64.wrap (Int.tdiv (u : Int) 128) = ((u / 128 : Nat) : Int) := by
        rw [Int.tdiv_eq_ediv_of_nonneg (by omega), wrap_u64_id (by omega) (by omega)]; omega
      have e2 : (IntKind.u64.wrap ((Int.tmod (u : Int) 128) + 128)) % 256 = ((u % 128 + 128 : Nat) : Int) := by
        rw [Int.tmod_eq_emod_of_nonneg (by omega), wrap_u64_id (by omega) (by omega)]; omega
      simp only [e1, e2]
      have := ih (u / 128) (acc ++ [((u % 128 + 128 : Nat) : Int)]) (by rw [Nat.pow_succ] at h; omega) (by omega) (by simp; omega)
      rw [List.append_assoc] at this
      rw [putU_big hu]
      exact this
theorem lt_pow10 {u : Nat} (h : u < 18446744073709551616) : u < 128 ^ 10 := by
  have : (128 : Nat) ^ 10 = 1180591620717411303424 := by decide
  omega
theorem specPut {n : Int} (h : (Lit.int .i64 n).wf = true) : Ev (fun k => spec_PutNum.f k n) (putN n) := by
  unfold spec_PutNum.f
  refine Ev.bind1 (specFold h) ?_
  have := specPut_l0 10 (zig n) [] (lt_pow10 (zig_lt h)) (zig_lt h) (by simp)
  simpa [putN] using this

theorem or128 {u : Nat} : Go.bits .or .u8 ((u : Int) % 256) 128 = ((u % 128 + 128 : Nat) : Int) := by
  rw [u8_or _ _ (by omega) (by omega) (by omega) (by omega)]
  have e : ((u : Int) % 256).toNat = u % 256 := by omega
  have e1 : (128 : Int).toNat = 128 := rfl
  rw [e, e1]
  congr 1
  have hb : ∀ v : Fin 256, v.val ||| 128 = v.val % 128 + 128 := by decide +kernel
  have := hb ⟨u % 256, by omega⟩
  simp only at this
  rw [this]; omega
theorem implPut_l0 (n : Nat) : ∀ (u : Nat) (acc : List Int), u < 128 ^ n → u < 18446744073709551616 → acc.length + n < 140737488355328 →
    Ev (fun k => impl_putNum.l0 k (u : Int) acc) (strOfNums (acc ++ putU u)) := by
  induction n with
  | zero =>
    intro u acc h h64 hl
    have hu : u < 128 := by simp at h; omega
    refine Ev.step (fun k => by rw [impl_putNum.l0]) ?_
    simp only [if_neg (show ¬ ((u : Int) > 127) by omega), if_pos (show acc.length < 140737488355328 by omega)]
    refine Ev.const ?_
    rw [putU_small hu, Int.emod_eq_of_lt (by omega) (by omega)]
  | succ n ih =>
    intro u acc h h64 hl
    refine Ev.step (fun k => by rw [impl_putNum.l0]) ?_
    by_cases hu : u < 128
    · simp only [if_neg (show ¬ ((u : Int) > 127) by omega), if_pos (show acc.length < 140737488355328 by omega)]
      refine Ev.const ?_
      rw [putU_small hu, Int.emod_eq_of_lt (by omega) (by omega)]
    · simp only [if_pos (show ((u : Int) > 127) by omega), if_pos (show acc.length < 140737488355328 by omega)]
      have e1 : (u : Int) / 128 = ((u / 128 : Nat) : Int) := by omega
      simp only [e1, or128]
      have := ih (u / 128) (acc ++ [((u % 128 + 128 : Nat) : Int)]) (by rw [Nat.pow_succ] at h; omega) (by omega) (by simp; omega)
      rw [List.append_assoc] at this
      rw [putU_big hu]
      exact this
theorem implFold_neg {n : Int} (h : (Lit.int .i64 n).wf = true) (hn : n < 0) : Go.bits .xor .u64 18446744073709551615 (IntKind.u64.wrap ((IntKind.u64.wrap n) * 2)) = (zig n : Int) := by
  obtain ⟨h0, h1⟩ := i64_of_wf h
  have e : IntKind.u64.wrap ((IntKind.u64.wrap n) * 2) = 2 * n + 18446744073709551616 := by rw [wrap_u64, wrap_u64]; omega
  rw [e, not_u64 (by omega) (by omega)]
  unfold zig; rw [if_pos hn]; omega
theorem implFold_pos {n : Int} (h : (Lit.int .i64 n).wf = true) (hn : ¬ n < 0) : IntKind.u64.wrap ((IntKind.u64.wrap n) * 2) = (zig n : Int) := by
  obtain ⟨h0, h1⟩ := i64_of_wf h
  rw [wrap_u64, wrap_u64]
  unfold zig; rw [if_neg hn]; omega
theorem implPut {n : Int} (h : (Lit.int .i64 n).wf = true) : Ev (fun k => impl_putNum.f k n) (putN n) := by
  unfold impl_putNum.f
  have base : Ev (fun k => impl_putNum.j0 k (zig n : Int)) (putN n) := by
    refine Ev.step (fun k => by rw [impl_putNum.j0]) ?_
    have := implPut_l0 10 (zig n) [] (lt_pow10 (zig_lt h)) (zig_lt h) (by simp)
    simpa [putN] using this
  by_cases hn : n < 0
  · simp only [if_pos hn, implFold_neg h hn]; exact base
  · simp only [if_neg hn, implFold_pos h hn]; exact base
theorem putN_size {n : Int} (h : (Lit.int .i64 n).wf = true) : 1 ≤ (putN n).size ∧ (putN n).size ≤ 10 := by
  unfold putN; rw [strOfNums_size]; exact putU_length 9 _ (lt_pow10 (zig_lt h))
end Go.Proofs.Ytppilphplkgigaa.Pure
namespace Go.Proofs.Ytppilphplkgigaa.Pure
set_option linter.unusedVariables false
set_option linter.unusedSimpArgs false
open Go Go.RowKit Go.Proofs.Ytppilphplkgigaa.Q Go.Proofs.YtppilphplkgigaaW.PrintWords Go.Proofs.YtppilphplkgigaaW.PrintLast Go.Proofs.YtppilphplkgigaaW.PrintMore
def metaM (n : Int) (s : ByteArray) : ByteArray := sealM (putN n ++ (putN s.size ++ s))
def metaOut (n : Int) (s : ByteArray) : ByteArray := if (1 ≤ n ∧ n ≤ 1000000) ∧ s.size ≤ 80 then metaM n s else ⟨#[]⟩
theorem wf_meta {n : Int} (h : 0 ≤ n ∧ n ≤ 1000000) : (Lit.int .i64 n).wf = true := by simp [Lit.wf, IntKind.min, IntKind.max, IntKind.signed, IntKind.bits]; omega
theorem implMetaB (n : Int) (s : ByteArray) (hn : 1 ≤ n ∧ n ≤ 1000000) (hs : s.size ≤ 80) : Ev (fun k => impl_metaBytes.f k n s) (metaM n s) := by
  unfold impl_metaBytes.f
  have h1 := wf_meta (n := n) (by omega)
  have h2 := wf_meta (n := (s.size : Int)) (by omega)
  have z1 := putN_size h1
  have z2 := putN_size h2
  have z3 : (putN s.size ++ s).size = (putN s.size).size + s.size := ByteArray.size_append
  refine Ev.bind (implPut h1) (Ev.bind (a := putN s.size ++ s) ?_ ?_)
  · unfold impl_putText.f
    exact Ev.bind (implPut h2) (Ev.const (if_pos (by omega)))
  · simp only [if_pos (show (putN n).size + (putN s.size ++ s).size ≤ 9223372036854775807 by omega)]
    exact Ev.bind (implSeal _ (by rw [ByteArray.size_append]; omega)) (Ev.now _)
theorem implMetaBytes (n : Int) (s : ByteArray) : Ev (fun k => impl_MetaBytes.f k n s) (metaOut n s) := by
  unfold impl_MetaBytes.f impl_within.f metaOut
  by_cases h : 1 ≤ n ∧ n ≤ 1000000
  · simp only [if_pos (show n ≥ 1 from h.1), Option.bind_some, decide_eq_true h.2, if_true]
    by_cases g : s.size ≤ 80
    · simp only [if_neg (show ¬ (s.size : Int) > 80 by omega), if_pos (show (1 ≤ n ∧ n ≤ 1000000) ∧ s.size ≤ 80 from ⟨h, g⟩)]
      exact Ev.bind (implMetaB n s h g) (Ev.now _)
    · simp only [if_pos (show (s.size : Int) > 80 by omega), if_neg (show ¬ ((1 ≤ n ∧ n ≤ 1000000) ∧ s.size ≤ 80) from fun x => g x.2)]
      exact Ev.now _
  · simp only [if_neg (show ¬ ((1 ≤ n ∧ n ≤ 1000000) ∧ s.size ≤ 80) from fun x => h x.1)]
    by_cases h1 : n ≥ 1
    · simp only [if_pos h1, Option.bind_some, decide_eq_false (show ¬ n ≤ 1000000 by omega), Bool.false_eq_true, if_false]; exact Ev.now _
    · simp only [if_neg h1, Option.bind_some, Bool.false_eq_true, if_false]; exact Ev.now _
theorem specMetaBytes (n : Int) (s : ByteArray) : Ev (fun k => spec_MetaBytes.f k n s) (metaOut n s) := by
  have stop : ¬ ((1 ≤ n ∧ n ≤ 1000000) ∧ s.size ≤ 80) → Ev (fun k => spec_MetaBytes.j0 k n s true) (metaOut n s) := by
    intro h
    unfold metaOut
    rw [if_neg h]
    exact Ev.step (fun k => by rw [spec_MetaBytes.j0, if_pos rfl]) (Ev.now _)
  unfold spec_MetaBytes.f spec_l03Is.f
  by_cases h : 1 ≤ n ∧ n ≤ 1000000
  · simp only [if_pos (show n ≥ 1 from h.1), Option.bind_some, decide_eq_true h.2, if_true]
    by_cases g : s.size ≤ 80
    · rw [decide_eq_false (show ¬ (s.size : Int) > 80 by omega)]
      unfold metaOut
      rw [if_pos ⟨h, g⟩]
      have h1 := wf_meta (n := n) (by omega)
      have h2 := wf_meta (n := (s.size : Int)) (by omega)
      have z1 := putN_size h1
      have z2 := putN_size h2
      have z3 : (putN s.size ++ s).size = (putN s.size).size + s.size := ByteArray.size_append
      have z4 : (putN n ++ (putN s.size ++ s)).size = (putN n).size + (putN s.size ++ s).size := ByteArray.size_append
      refine Ev.step (fun k => by rw [spec_MetaBytes.j0, if_neg (by decide)]) (Ev.bind (specPut h1) (Ev.bind (a := putN s.size ++ s) ?_ ?_))
      · unfold spec_PutText.f
        simp only [if_neg (show ¬ (s.size : Int) > 8000 by omega)]
        exact Ev.bind (specPut h2) (Ev.const (if_pos (by omega)))
      · simp only [if_pos (show (putN n).size + (putN s.size ++ s).size ≤ 9223372036854775807 by omega)]
        refine Ev.bind (a := metaM n s) ?_ (Ev.now _)
        unfold spec_Seal.f metaM
        simp only [if_neg (show ¬ ((putN n ++ (putN s.size ++ s)).size : Int) > 7996 by omega)]
        exact Ev.bind (specCrc _ 0 (by omega) (by omega) (by omega)) (Ev.bind1 (specFour _) (Ev.const (if_pos (by rw [four_size]; omega))))
    · rw [decide_eq_true (show (s.size : Int) > 80 by omega)]; exact stop (fun x => g x.2)
  · by_cases h1 : n ≥ 1
    · simp only [if_pos h1, Option.bind_some, decide_eq_false (show ¬ n ≤ 1000000 by omega), Bool.false_eq_true, if_false]; exact stop (fun x => h x.1)
    · simp only [if_neg h1, Option.bind_some, Bool.false_eq_true, if_false]; exact stop (fun x => h x.1)
end Go.Proofs.Ytppilphplkgigaa.Pure
namespace Go.Proofs.Ytppilphplkgigaa.Pure
set_option linter.unusedVariables false
set_option linter.unusedSimpArgs false
open Go Go.RowKit Go.Proofs.Ytppilphplkgigaa.Q Go.Proofs.YtppilphplkgigaaW.PrintWords Go.Proofs.YtppilphplkgigaaW.PrintLast Go.Proofs.YtppilphplkgigaaW.PrintMore
theorem FnExactMetaBytes : laws_FnExactMetaBytes.Pure := by
  intro n s _ _
  refine Ev.rounds ?_
  unfold laws_FnExactMetaBytes.f
  by_cases g : (s.size : Int) > 1048576
  · simp only [if_pos g]; exact Ev.now _
  · simp only [if_neg g]
    refine Ev.bind (specMetaBytes n s) (Ev.bind (implMetaBytes n s) ?_)
    simp only [if_true]
    exact Ev.now _
end Go.Proofs.Ytppilphplkgigaa.Pure
