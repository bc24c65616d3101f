/- Pure texts in one: A drawn text is got back from its seal; with any one byte turned it is refused; a CRC goes on from text to text; the program seals and sums as the reference does. -/
import Derived.Test.YtcmoenkbckmmfaaKFnSeal0
import Derived.Test.YtcmoenkbckmmfaaKFnSeal1
import Derived.Test.YtcmoenkbckmmfaaWMore
import Derived.Laws.BitsAllLaws
import Derived.Laws.Strings
namespace Go.Proofs.Ytcmoenkbckmmfaa.Pure
set_option linter.unusedVariables false
set_option linter.unusedSimpArgs false
open Go Go.RowKit Go.Proofs.YtcmoenkbckmmfaaW.PrintWords Go.Proofs.YtcmoenkbckmmfaaW.PrintLast Go.Proofs.YtcmoenkbckmmfaaW.PrintMore
theorem wrap64_id {n : Int} (h0 : -9223372036854775808 ≤ n) (h1 : n ≤ 9223372036854775807) : wrap64 n = n := by
  unfold wrap64; omega
theorem wrap_u64 (n : Int) : IntKind.u64.wrap n = n % 18446744073709551616 := by simp [IntKind.wrap, IntKind.bits, IntKind.signed]
theorem wrap_u64_id {n : Int} (h0 : 0 ≤ n) (h1 : n < 18446744073709551616) : IntKind.u64.wrap n = n := by rw [wrap_u64]; omega
theorem xor_ones (w a : Nat) (h : a < 2 ^ w) : (2 ^ w - 1) ^^^ a = 2 ^ w - 1 - a := by
  have e : (2 ^ w - 1) ^^^ a = (BitVec.allOnes w ^^^ BitVec.ofNat w a).toNat := by
    rw [BitVec.toNat_xor, BitVec.toNat_allOnes, BitVec.toNat_ofNat, Nat.mod_eq_of_lt h]
  rw [e, BitVec.allOnes_xor, BitVec.toNat_not, BitVec.toNat_ofNat, Nat.mod_eq_of_lt h]
theorem not_u32 {a : Int} (h0 : 0 ≤ a) (h1 : a < 4294967296) : Go.bits .xor .u32 4294967295 a = 4294967295 - a := by
  obtain ⟨n, rfl⟩ := Int.eq_ofNat_of_zero_le h0
  have h : n < 2 ^ 32 := by omega
  have e := u32_xor_nat 4294967295 n (by omega) (by omega)
  have e2 := xor_ones 32 n h
  simp only [Nat.reducePow, Nat.reduceSub] at e2
  rw [e2] at e
  rw [show ((4294967295 : Int)) = ((4294967295 : Nat) : Int) from rfl, e]
  omega
theorem not_u32' {a : Int} (h0 : 0 ≤ a) (h1 : a < 4294967296) : Go.bits .xor .u32 a 4294967295 = 4294967295 - a := by
  obtain ⟨n, rfl⟩ := Int.eq_ofNat_of_zero_le h0
  rw [← not_u32 h0 h1]
  have e := u32_xor_nat 4294967295 n (by omega) (by omega)
  have e2 := u32_xor_nat n 4294967295 (by omega) (by omega)
  rw [Nat.xor_comm] at e2
  exact e2.trans e.symm
theorem bt_nonneg (s : ByteArray) (i : Int) : 0 ≤ bt s i := (bt_range s i).1
theorem bt_le (s : ByteArray) (i : Int) : bt s i ≤ 255 := (bt_range s i).2
theorem toList_data (s : ByteArray) : s.toList = s.data.toList := ByteArray.toList_eq s
theorem toList_inj {a b : ByteArray} (h : a.toList = b.toList) : a = b := by
  rw [toList_data, toList_data] at h
  cases a; cases b
  simpa using h
theorem Ev.const {α : Type} {g : Option α} {r : α} (h : g = some r) : Ev (fun _ => g) r := ⟨0, fun _ _ => h⟩
/-- One is known without rounds. -/
theorem Ev.bind1 {α β : Type} {g : Option α} {f : Nat → α → Option β} {a : α} {r : β} (h : g = some a) (k : Ev (fun n => f n a) r) : Ev (fun n => g.bind (f n)) r := by
  subst h
  exact k
end Go.Proofs.Ytcmoenkbckmmfaa.Pure
namespace Go.Proofs.Ytcmoenkbckmmfaa.Pure
set_option linter.unusedVariables false
set_option linter.unusedSimpArgs false
open Go Go.RowKit Go.Proofs.Ytcmoenkbckmmfaa.Q Go.Proofs.YtcmoenkbckmmfaaW.PrintWords Go.Proofs.YtcmoenkbckmmfaaW.PrintLast Go.Proofs.YtcmoenkbckmmfaaW.PrintMore

def byteList (s : ByteArray) : List Nat := s.data.toList.map UInt8.toNat
theorem byteList_length (s : ByteArray) : (byteList s).length = s.size := by rw [byteList, List.length_map, data_length]
theorem byteList_drop (s : ByteArray) (i : Nat) (h : i < s.size) : (byteList s).drop i = (bt s i).toNat :: (byteList s).drop (i + 1) := by
  have hl : i < (byteList s).length := by rw [byteList_length]; exact h
  rw [List.drop_eq_getElem_cons hl]
  congr 1
  have hb : bt s (i : Int) = ((s[i]'h).toNat : Int) := by unfold bt; rw [dif_pos (show (i : Int).toNat < s.size from h)]; rfl
  rw [hb, Int.toNat_natCast]
  simp only [byteList, List.getElem_map, Array.getElem_toList]
  rfl
theorem byteList_lt (s : ByteArray) : ∀ c ∈ byteList s, c < 256 := by
  intro c hc
  unfold byteList at hc
  obtain ⟨b, _, rfl⟩ := List.mem_map.1 hc
  exact b.toNat_lt
theorem byteList_append (a b : ByteArray) : byteList (a ++ b) = byteList a ++ byteList b := by simp [byteList]

def crcStep (r : Nat) : Nat := if r % 2 = 1 then (r / 2) ^^^ 3988292384 else r / 2
def crcIter : Nat → Nat → Nat
  | 0, r => r
  | n + 1, r => crcIter n (crcStep r)
def crcByte (r c : Nat) : Nat := crcIter 8 (r ^^^ c)
def crcFold (r : Nat) (l : List Nat) : Nat := l.foldl crcByte r
def crcM (crc : Nat) (s : ByteArray) : Nat := 4294967295 - crcFold (4294967295 - crc) (byteList s)

theorem xor_lt32 {a b : Nat} (ha : a < 4294967296) (hb : b < 4294967296) : a ^^^ b < 4294967296 := Nat.xor_lt_two_pow (n := 32) ha hb
theorem crcStep_lt {r : Nat} (h : r < 4294967296) : crcStep r < 4294967296 := by
  unfold crcStep; split
  · exact xor_lt32 (by omega) (by omega)
  · omega
theorem crcIter_lt (n : Nat) : ∀ {r : Nat}, r < 4294967296 → crcIter n r < 4294967296 := by
  induction n with
  | zero => exact fun h => h
  | succ n ih => exact fun h => ih (crcStep_lt h)
theorem crcByte_lt {r c : Nat} (h : r < 4294967296) (hc : c < 256) : crcByte r c < 4294967296 := crcIter_lt 8 (xor_lt32 h (by omega))
theorem crcFold_lt : ∀ (l : List Nat) {r : Nat}, r < 4294967296 → (∀ c ∈ l, c < 256) → crcFold r l < 4294967296 := by
  intro l
  induction l with
  | nil => exact fun h _ => h
  | cons c l ih => exact fun h hc => ih (crcByte_lt h (hc c (by simp))) (fun c' h' => hc c' (by simp [h']))
theorem crcM_lt (crc : Nat) (s : ByteArray) : crcM crc s < 4294967296 := by unfold crcM; omega

theorem and_one32 {r : Nat} (h : r < 4294967296) : Go.bits .and .u32 (r : Int) 1 = ((r % 2 : Nat) : Int) := by
  have e := u32_and_nat r 1 h (by omega)
  rw [Nat.and_one_is_mod] at e
  exact e
theorem xor32 {a b : Nat} (ha : a < 4294967296) (hb : b < 4294967296) : Go.bits .xor .u32 (a : Int) (b : Int) = ((a ^^^ b : Nat) : Int) := u32_xor_nat a b ha hb
theorem half_step {r : Nat} (h : r < 4294967296) : Go.bits .xor .u32 ((r : Int) / 2) 3988292384 = ((r / 2 ^^^ 3988292384 : Nat) : Int) := by
  have e := u32_xor_nat (r / 2) 3988292384 (by omega) (by omega)
  rw [← e]; rfl

/-- The reference's inner loop. -/
theorem spec_l1 (s : ByteArray) (i : Int) (R : Int) (d : Nat) : ∀ (r j : Nat), r < 4294967296 → j + d = 8 →
    Ev (fun k => spec_l01Crc.l0 k s (crcIter d r : Int) (wrap64 (i + 1))) R → Ev (fun k => spec_l01Crc.l1 k s (r : Int) i (j : Int)) R := by
  induction d with
  | zero =>
    intro r j hr hj h
    exact Ev.step (fun k => by rw [spec_l01Crc.l1, if_neg (by omega)]; rfl) h
  | succ d ih =>
    intro r j hr hj h
    have e1 : wrap64 ((j : Int) + 1) = ((j + 1 : Nat) : Int) := by rw [wrap64_id (by omega) (by omega)]; omega
    have := ih (crcStep r) (j + 1) (crcStep_lt hr) (by omega) h
    refine Ev.step (fun k => ?_) this
    rw [spec_l01Crc.l1, if_pos (by omega), and_one32 hr, e1]
    unfold crcStep
    by_cases hb : r % 2 = 1
    · rw [if_pos (by omega), if_pos hb, half_step hr]
    · rw [if_neg (by omega), if_neg hb]; rfl
theorem spec_l0 (s : ByteArray) (hs : s.size ≤ 140737488351232) (d : Nat) : ∀ (r i : Nat), r < 4294967296 → i + d = s.size →
    Ev (fun k => spec_l01Crc.l0 k s (r : Int) (i : Int)) (4294967295 - crcFold r ((byteList s).drop i) : Nat) := by
  induction d with
  | zero =>
    intro r i hr hi
    rw [List.drop_of_length_le (by rw [byteList_length]; omega)]
    refine Ev.step (f := fun _ => some ((4294967295 - r : Nat) : Int)) (fun k => ?_) (Ev.now _)
    rw [spec_l01Crc.l0, if_neg (by omega), not_u32' (by omega) (by omega), wrap64_id (by omega) (by omega)]
    congr 1; omega
  | succ d ih =>
    intro r i hr hi
    have h0 := bt_nonneg s i
    have h1 := bt_le s i
    have ec : (bt s i) % 4294967296 = (((bt s i).toNat : Nat) : Int) := by omega
    rw [byteList_drop s i (by omega)]
    have hx : r ^^^ (bt s i).toNat < 4294967296 := xor_lt32 hr (by omega)
    have e1 : wrap64 ((i : Int) + 1) = ((i + 1 : Nat) : Int) := by rw [wrap64_id (by omega) (by omega)]; omega
    have hn := ih (crcByte r (bt s i).toNat) (i + 1) (crcByte_lt hr (by omega)) (by omega)
    have hl := spec_l1 s i ((4294967295 - crcFold (crcByte r (bt s i).toNat) ((byteList s).drop (i + 1)) : Nat) : Int) 8 (r ^^^ (bt s i).toNat) 0 hx rfl (by rw [e1]; exact hn)
    refine Ev.step (fun k => ?_) hl
    rw [spec_l01Crc.l0, if_pos (by omega), if_pos (by omega), ec, xor32 hr (by omega)]; rfl
theorem specCrc (s : ByteArray) (crc : Int) (hs : s.size ≤ 140737488351232) (h0 : 0 ≤ crc) (h1 : crc < 4294967296) : Ev (fun k => spec_l01Crc.f k crc s) (crcM crc.toNat s : Int) := by
  unfold spec_l01Crc.f
  rw [Int.emod_eq_of_lt h0 h1, not_u32' h0 h1]
  have := spec_l0 s hs s.size (4294967295 - crc.toNat) 0 (by omega) (by omega)
  have e : ((4294967295 - crc.toNat : Nat) : Int) = 4294967295 - crc := by omega
  rw [e] at this
  exact this

theorem shr_byte (s : ByteArray) (i : Int) (j : Nat) (hj : j ≤ 8) : shr .u32 ((bt s i) % 4294967296) (j : Int) = (((bt s i).toNat >>> j : Nat) : Int) := by
  have h0 := bt_nonneg s i
  have h1 := bt_le s i
  obtain ⟨c, hc⟩ := Int.eq_ofNat_of_zero_le h0
  rw [hc]
  unfold shr
  rw [show min (j : Int).toNat IntKind.u32.bits = j by simp [IntKind.bits]; omega, Nat.shiftRight_eq_div_pow, Int.emod_eq_of_lt (by omega) (by omega), Int.toNat_natCast]
  simp
theorem mix_step {r c : Nat} (j : Nat) : (r ^^^ (c >>> j)) / 2 = r / 2 ^^^ (c >>> (j + 1)) := by
  have e : ∀ x : Nat, x / 2 = x >>> 1 := fun x => by rw [Nat.shiftRight_eq_div_pow]
  rw [e, e, Nat.shiftRight_xor_distrib, ← Nat.shiftRight_add]
theorem crcStep_mix {r c : Nat} (j : Nat) : crcStep (r ^^^ (c >>> j)) = (if (r ^^^ (c >>> j)) % 2 = 1 then r / 2 ^^^ 3988292384 else r / 2) ^^^ (c >>> (j + 1)) := by
  unfold crcStep
  split
  · rw [mix_step, Nat.xor_assoc, Nat.xor_comm (c >>> (j + 1)), ← Nat.xor_assoc]
  · rw [mix_step]
/-- The program's inner loop. -/
theorem impl_l1 (s : ByteArray) (i : Nat) (hi : i < s.size) (R : Int) (d : Nat) : ∀ (r j : Nat), r < 4294967296 → j + d = 8 →
    Ev (fun k => impl_crcMore.l0 k s (crcIter d (r ^^^ ((bt s i).toNat >>> j)) : Int) (s.size : Int) (wrap64 ((i : Int) + 1))) R → Ev (fun k => impl_crcMore.l1 k s (r : Int) (i : Int) (s.size : Int) (i : Int) (j : Int)) R := by
  have h0 := bt_nonneg s i
  have h1 := bt_le s i
  induction d with
  | zero =>
    intro r j hr hj h
    obtain rfl : j = 8 := by omega
    have e : (bt s i).toNat >>> 8 = 0 := by rw [Nat.shiftRight_eq_div_pow]; omega
    rw [e, Nat.xor_zero] at h
    exact Ev.step (fun k => by rw [impl_crcMore.l1, if_neg (by omega)]; rfl) h
  | succ d ih =>
    intro r j hr hj h
    have e1 : wrap64 ((j : Int) + 1) = ((j + 1 : Nat) : Int) := by rw [wrap64_id (by omega) (by omega)]; omega
    have hc : (bt s i).toNat >>> j < 4294967296 := by rw [Nat.shiftRight_eq_div_pow]; exact Nat.lt_of_le_of_lt (Nat.div_le_self _ _) (by omega)
    rw [crcIter, crcStep_mix] at h
    by_cases hb : (r ^^^ ((bt s i).toNat >>> j)) % 2 = 1
    · rw [if_pos hb] at h
      have := ih (r / 2 ^^^ 3988292384) (j + 1) (xor_lt32 (by omega) (by omega)) (by omega) h
      refine Ev.step (fun k => ?_) this
      rw [impl_crcMore.l1, if_pos (by omega), if_pos (by omega), if_pos (by omega), if_pos (by omega), shr_byte s i j (by omega), xor32 hr hc, and_one32 (xor_lt32 hr hc), e1, half_step hr, if_pos (by omega)]
    · rw [if_neg hb] at h
      have := ih (r / 2) (j + 1) (by omega) (by omega) h
      refine Ev.step (fun k => ?_) this
      rw [impl_crcMore.l1, if_pos (by omega), if_pos (by omega), if_pos (by omega), if_pos (by omega), shr_byte s i j (by omega), xor32 hr hc, and_one32 (xor_lt32 hr hc), e1, if_neg (by omega)]; rfl
theorem impl_l0 (s : ByteArray) (hs : s.size ≤ 140737488351232) (d : Nat) : ∀ (r i : Nat), r < 4294967296 → i + d = s.size →
    Ev (fun k => impl_crcMore.l0 k s (r : Int) (s.size : Int) (i : Int)) (4294967295 - crcFold r ((byteList s).drop i) : Nat) := by
  induction d with
  | zero =>
    intro r i hr hi
    rw [List.drop_of_length_le (by rw [byteList_length]; omega)]
    refine Ev.step (f := fun _ => some ((4294967295 - r : Nat) : Int)) (fun k => ?_) (Ev.now _)
    rw [impl_crcMore.l0, if_neg (by omega), not_u32 (by omega) (by omega)]
    congr 1; omega
  | succ d ih =>
    intro r i hr hi
    have h0 := bt_nonneg s i
    have h1 := bt_le s i
    rw [byteList_drop s i (by omega)]
    have e1 : wrap64 ((i : Int) + 1) = ((i + 1 : Nat) : Int) := by rw [wrap64_id (by omega) (by omega)]; omega
    have hn := ih (crcByte r (bt s i).toNat) (i + 1) (crcByte_lt hr (by omega)) (by omega)
    have hl := impl_l1 s i (by omega) ((4294967295 - crcFold (crcByte r (bt s i).toNat) ((byteList s).drop (i + 1)) : Nat) : Int) 8 r 0 hr rfl (by rw [e1, Nat.shiftRight_zero]; exact hn)
    exact Ev.step (fun k => by rw [impl_crcMore.l0, if_pos (by omega)]; rfl) hl
theorem implCrc (s : ByteArray) (crc : Int) (hs : s.size ≤ 140737488351232) (h0 : 0 ≤ crc) (h1 : crc < 4294967296) : Ev (fun k => impl_crcMore.f k crc s) (crcM crc.toNat s : Int) := by
  unfold impl_crcMore.f
  rw [not_u32 h0 h1]
  have := impl_l0 s hs s.size (4294967295 - crc.toNat) 0 (by omega) (by omega)
  have e : ((4294967295 - crc.toNat : Nat) : Int) = 4294967295 - crc := by omega
  rw [e] at this
  exact this
end Go.Proofs.Ytcmoenkbckmmfaa.Pure
namespace Go.Proofs.Ytcmoenkbckmmfaa.Pure
set_option linter.unusedVariables false
set_option linter.unusedSimpArgs false
open Go Go.RowKit Go.Proofs.Ytcmoenkbckmmfaa.Q Go.Proofs.YtcmoenkbckmmfaaW.PrintWords Go.Proofs.YtcmoenkbckmmfaaW.PrintLast Go.Proofs.YtcmoenkbckmmfaaW.PrintMore
/-- Four bytes of a number, the least one first. -/
def four (n : Nat) : ByteArray := strOfNums [((n % 256 : Nat) : Int), ((n / 256 % 256 : Nat) : Int), ((n / 65536 % 256 : Nat) : Int), ((n / 16777216 % 256 : Nat) : Int)]
theorem four_size (n : Nat) : (four n).size = 4 := by simp [four, strOfNums_size]
def sealM (s : ByteArray) : ByteArray := s ++ four (crcM 0 s)
theorem sealM_size (s : ByteArray) : (sealM s).size = s.size + 4 := by simp [sealM, four_size]
theorem specFour (n : Nat) : spec_l01Four.f (n : Int) = some (four n) := by
  unfold spec_l01Four.f four
  have e1 : (n : Int) / 256 % 256 = ((n / 256 % 256 : Nat) : Int) := by omega
  have e2 : (n : Int) / 65536 % 256 = ((n / 65536 % 256 : Nat) : Int) := by omega
  have e3 : (n : Int) / 16777216 % 256 = ((n / 16777216 % 256 : Nat) : Int) := by omega
  rw [e1, e2, e3]; rfl
theorem implSeal (s : ByteArray) (hs : s.size ≤ 140737488351232) : Ev (fun k => impl_seal.f k s) (sealM s) := by
  unfold impl_seal.f
  refine Ev.bind (implCrc s 0 hs (by omega) (by omega)) ?_
  have e : (some ([((crcM (0 : Int).toNat s : Nat) : Int) % 256, ((crcM (0 : Int).toNat s : Nat) : Int) / 256 % 256, ((crcM (0 : Int).toNat s : Nat) : Int) / 65536 % 256, ((crcM (0 : Int).toNat s : Nat) : Int) / 16777216 % 256] : List Int)).map strOfNums = some (four (crcM 0 s)) := specFour (crcM 0 s)
  simp only [Option.map_some, Option.some.injEq] at e
  simp only [Option.bind_some]
  rw [e, if_pos (by rw [four_size]; omega)]
  exact Ev.now _
theorem extract_left (a b : ByteArray) : (a ++ b).extract 0 a.size = a := ByteArray.extract_append_eq_left rfl
theorem implUnseal (s : ByteArray) (hs : s.size ≤ 140737488351232) : Ev (fun k => impl_unseal.f k s)
    (if s.size < 4 then (⟨#[]⟩, 4) else if sealM (s.extract 0 (s.size - 4)) = s then (s.extract 0 (s.size - 4), 0) else (⟨#[]⟩, 5)) := by
  unfold impl_unseal.f
  by_cases h : s.size < 4
  · simp only [if_pos h, if_pos (show (s.size : Int) < 4 by omega)]; exact Ev.now _
  · have e : wrap64 ((s.size : Int) - 4) = ((s.size - 4 : Nat) : Int) := by rw [wrap64_id (by omega) (by omega)]; omega
    simp only [if_neg h, if_neg (show ¬ (s.size : Int) < 4 by omega), e, Int.toNat_natCast, if_pos (show (0 : Int) ≤ ((s.size - 4 : Nat) : Int) by omega), if_pos (show ((s.size - 4 : Nat) : Int) ≤ (s.size : Int) by omega)]
    refine Ev.bind (implSeal (s.extract 0 (s.size - 4)) (by simp; omega)) ?_
    by_cases hq : sealM (s.extract 0 (s.size - 4)) = s
    · simp only [if_pos hq]
      rw [if_pos (by rw [hq])]; exact Ev.now _
    · simp only [if_neg hq]
      rw [if_neg (fun he => hq (toList_inj he))]; exact Ev.now _
/-- A text's seal is taken apart again. -/
theorem unseal_sealM (t : ByteArray) : ¬ (sealM t).size < 4 ∧ (sealM t).extract 0 ((sealM t).size - 4) = t := by
  have h := sealM_size t
  refine ⟨by omega, ?_⟩
  rw [h, Nat.add_sub_cancel]
  exact extract_left t _
end Go.Proofs.Ytcmoenkbckmmfaa.Pure
namespace Go.Proofs.Ytcmoenkbckmmfaa.Pure
set_option linter.unusedVariables false
set_option linter.unusedSimpArgs false
open Go Go.RowKit Go.Proofs.YtcmoenkbckmmfaaW.PrintWords Go.Proofs.YtcmoenkbckmmfaaW.PrintLast Go.Proofs.YtcmoenkbckmmfaaW.PrintMore
def bl (s : ByteArray) : List Int := s.data.toList.map (fun b => (b.toNat : Int))
theorem bl_nums (l : List Int) (h : ∀ x ∈ l, 0 ≤ x ∧ x < 256) : bl (strOfNums l) = l := by
  unfold bl
  rw [strOfNums_data, List.map_map]
  refine (List.map_congr_left (fun x hx => ?_)).trans (List.map_id l)
  have := h x hx
  simp only [Function.comp, UInt8.toNat_ofNat']
  show ((x.toNat % 2 ^ 8 : Nat) : Int) = id x
  rw [show (2 : Nat) ^ 8 = 256 from rfl]; simp only [id]; omega
end Go.Proofs.Ytcmoenkbckmmfaa.Pure
namespace Go.Proofs.Ytcmoenkbckmmfaa.Pure
set_option linter.unusedVariables false
set_option linter.unusedSimpArgs false
open Go Go.RowKit Go.Proofs.Ytcmoenkbckmmfaa.Q Go.Proofs.YtcmoenkbckmmfaaW.PrintWords Go.Proofs.YtcmoenkbckmmfaaW.PrintLast Go.Proofs.YtcmoenkbckmmfaaW.PrintMore
theorem xor_canc {a b c : Nat} (h : a ^^^ c = b ^^^ c) : a = b := by
  have := congrArg (· ^^^ c) h
  simpa [Nat.xor_assoc] using this
theorem xor_canc2 {a b c : Nat} (h : c ^^^ a = c ^^^ b) : a = b := by
  rw [Nat.xor_comm c a, Nat.xor_comm c b] at h; exact xor_canc h
theorem crcStep_top {r : Nat} (h : r < 4294967296) : (crcStep r).testBit 31 = decide (r % 2 = 1) := by
  have hh : (r / 2).testBit 31 = false := Nat.testBit_lt_two_pow (show r / 2 < 2 ^ 31 by omega)
  unfold crcStep
  by_cases hb : r % 2 = 1
  · rw [if_pos hb, Nat.testBit_xor, hh, decide_eq_true hb]; rfl
  · rw [if_neg hb, hh, decide_eq_false hb]
theorem crcStep_inj {r q : Nat} (hr : r < 4294967296) (hq : q < 4294967296) (h : crcStep r = crcStep q) : r = q := by
  have e := crcStep_top hr
  rw [h, crcStep_top hq] at e
  unfold crcStep at h
  by_cases hb : r % 2 = 1
  · have hc : q % 2 = 1 := by rw [decide_eq_true hb] at e; exact of_decide_eq_true e
    rw [if_pos hb, if_pos hc] at h
    have := xor_canc h
    omega
  · have hc : ¬ q % 2 = 1 := by rw [decide_eq_false hb] at e; exact of_decide_eq_false e
    rw [if_neg hb, if_neg hc] at h
    omega
theorem crcIter_inj (n : Nat) : ∀ {r q : Nat}, r < 4294967296 → q < 4294967296 → crcIter n r = crcIter n q → r = q := by
  induction n with
  | zero => exact fun _ _ h => h
  | succ n ih => exact fun hr hq h => crcStep_inj hr hq (ih (crcStep_lt hr) (crcStep_lt hq) h)
theorem crcByte_inj {r q c : Nat} (hr : r < 4294967296) (hq : q < 4294967296) (hc : c < 256) (h : crcByte r c = crcByte q c) : r = q :=
  xor_canc (crcIter_inj 8 (xor_lt32 hr (by omega)) (xor_lt32 hq (by omega)) h)
theorem crcByte_inj2 {r c d : Nat} (hr : r < 4294967296) (hc : c < 256) (hd : d < 256) (h : crcByte r c = crcByte r d) : c = d :=
  xor_canc2 (crcIter_inj 8 (xor_lt32 hr (by omega)) (xor_lt32 hr (by omega)) h)
theorem crcFold_inj : ∀ (l : List Nat) {r q : Nat}, r < 4294967296 → q < 4294967296 → (∀ c ∈ l, c < 256) → crcFold r l = crcFold q l → r = q := by
  intro l
  induction l with
  | nil => exact fun _ _ _ h => h
  | cons c l ih =>
    intro r q hr hq hl h
    exact crcByte_inj hr hq (hl c (by simp)) (ih (crcByte_lt hr (hl c (by simp))) (crcByte_lt hq (hl c (by simp))) (fun c' h' => hl c' (by simp [h'])) h)
theorem crcFold_set : ∀ (l : List Nat) (i : Nat) {r : Nat} (v : Nat), r < 4294967296 → v < 256 → (∀ c ∈ l, c < 256) → (hi : i < l.length) → v ≠ l[i] → crcFold r (l.set i v) ≠ crcFold r l := by
  intro l
  induction l with
  | nil => intro i r v _ _ _ hi; simp at hi
  | cons c l ih =>
    intro i r v hr hv hl hi hne h
    have hc := hl c (by simp)
    have hl' : ∀ c' ∈ l, c' < 256 := fun c' h' => hl c' (by simp [h'])
    cases i with
    | zero => exact hne (crcByte_inj2 hr hv hc (crcFold_inj l (crcByte_lt hr hv) (crcByte_lt hr hc) hl' h))
    | succ i => exact ih i v (crcByte_lt hr hc) hv hl' (by simpa using hi) (by simpa using hne) h
theorem byteList_inj {a b : ByteArray} (h : byteList a = byteList b) : a = b := by
  apply toList_inj
  rw [toList_data, toList_data]
  unfold byteList at h
  exact List.map_inj_right (fun x y e => UInt8.toNat_inj.1 e) |>.1 h
theorem byteList_bl (s : ByteArray) : bl s = (byteList s).map (fun n : Nat => (n : Int)) := by simp [bl, byteList]
theorem four_bl (n : Nat) : bl (four n) = [((n % 256 : Nat) : Int), ((n / 256 % 256 : Nat) : Int), ((n / 65536 % 256 : Nat) : Int), ((n / 16777216 % 256 : Nat) : Int)] := by
  refine bl_nums _ (fun x hx => ?_)
  simp only [List.mem_cons, List.not_mem_nil, or_false] at hx
  rcases hx with rfl | rfl | rfl | rfl <;> omega
theorem four_inj {n m : Nat} (hn : n < 4294967296) (hm : m < 4294967296) (h : four n = four m) : n = m := by
  have e := congrArg bl h
  rw [four_bl, four_bl] at e
  simp only [List.cons.injEq, and_true] at e
  omega
theorem crcM_set (s t : ByteArray) (i v : Nat) (hi : i < (byteList s).length) (hv : v < 256) (hne : v ≠ (byteList s)[i]) (h : byteList t = (byteList s).set i v) : crcM 0 t ≠ crcM 0 s := by
  unfold crcM
  have h1 := crcFold_set (byteList s) i (r := 4294967295) v (by omega) hv (byteList_lt s) hi hne
  have h2 := crcFold_lt (byteList s) (r := 4294967295) (by omega) (byteList_lt s)
  have h3 := crcFold_lt (byteList t) (r := 4294967295) (by omega) (byteList_lt t)
  rw [h] at h3 ⊢
  rw [show 4294967295 - 0 = 4294967295 from rfl]
  omega
theorem seal_turned (t s : ByteArray) (i v : Nat) (hi : i < (byteList (sealM t)).length) (hv : v < 256) (hne : v ≠ (byteList (sealM t))[i]) (h : byteList s = (byteList (sealM t)).set i v) : ¬ s.size < 4 ∧ sealM (s.extract 0 (s.size - 4)) ≠ s := by
  have hz : s.size = t.size + 4 := by
    have := congrArg List.length h
    rw [List.length_set, byteList_length, byteList_length, sealM_size] at this
    exact this
  refine ⟨by omega, fun e => ?_⟩
  have hts : (s.extract 0 (s.size - 4)).size = t.size := by rw [ByteArray.size_extract]; omega
  generalize s.extract 0 (s.size - 4) = u at e hts
  rw [← e] at h
  have hu : byteList (sealM u) = byteList u ++ byteList (four (crcM 0 u)) := byteList_append _ _
  have ht : byteList (sealM t) = byteList t ++ byteList (four (crcM 0 t)) := byteList_append _ _
  have hl : (byteList u).length = (byteList t).length := by rw [byteList_length, byteList_length, hts]
  rw [hu] at h
  simp only [ht] at h hne hi
  by_cases g : i < (byteList t).length
  · rw [List.set_append_left _ _ g] at h
    obtain ⟨h1, h2⟩ := List.append_inj h (by rw [hl, List.length_set])
    rw [List.getElem_append_left g] at hne
    exact crcM_set t u i v g hv hne h1 (four_inj (crcM_lt 0 u) (crcM_lt 0 t) (byteList_inj h2))
  · rw [List.set_append_right _ _ (Nat.not_lt.1 g)] at h
    obtain ⟨h1, h2⟩ := List.append_inj h hl
    rw [byteList_inj h1] at h2
    rw [List.getElem_append_right (Nat.not_lt.1 g)] at hne
    have h3 := congrArg (fun l => l[i - (byteList t).length]?) h2
    have hj : i - (byteList t).length < (byteList (four (crcM 0 t))).length := by rw [List.length_append] at hi; omega
    simp only [List.getElem?_set_self hj, List.getElem?_eq_getElem hj, Option.some.injEq] at h3
    exact hne h3.symm
end Go.Proofs.Ytcmoenkbckmmfaa.Pure
namespace Go.Proofs.Ytcmoenkbckmmfaa.Pure
set_option linter.unusedVariables false
set_option linter.unusedSimpArgs false
open Go Go.RowKit Go.Proofs.YtcmoenkbckmmfaaW.PrintWords Go.Proofs.YtcmoenkbckmmfaaW.PrintLast Go.Proofs.YtcmoenkbckmmfaaW.PrintMore
theorem next64 {i : Nat} (h : i < 9223372036854775807) : wrap64 ((i : Int) + 1) = ((i + 1 : Nat) : Int) := by rw [wrap64_id (by omega) (by omega)]; omega
end Go.Proofs.Ytcmoenkbckmmfaa.Pure
namespace Go.Proofs.Ytcmoenkbckmmfaa.Pure
set_option linter.unusedVariables false
set_option linter.unusedSimpArgs false
open Go Go.RowKit Go.Proofs.Ytcmoenkbckmmfaa.Q Go.Proofs.YtcmoenkbckmmfaaW.PrintWords Go.Proofs.YtcmoenkbckmmfaaW.PrintLast Go.Proofs.YtcmoenkbckmmfaaW.PrintMore
/-- Where a source stands in its bytes. -/
def St (b : List Int) (i : Int) : Prop := 0 ≤ i ∧ i ≤ b.length ∧ b.length ≤ 1048576
theorem out_range (v m a : Int) (ha : 1 < a) (h : a ≤ 9223372036854775807) : 0 ≤ spec_l01Src_n.out v m a ∧ spec_l01Src_n.out v m a < a := by
  unfold spec_l01Src_n.out
  have h0 : 0 ≤ IntKind.u64.wrap (v + m / 1048576) := by rw [wrap_u64]; omega
  rw [wrap_u64_id (n := a) (by omega) (by omega)]
  generalize IntKind.u64.wrap (v + m / 1048576) = x at h0
  have h1 : 0 ≤ Int.tmod x a := Int.tmod_nonneg _ h0
  have h2 : Int.tmod x a < a := Int.tmod_lt_of_pos _ (by omega)
  rw [wrap64_id (by omega) (by omega)]
  exact ⟨h1, h2⟩
theorem draw_n (b : List Int) (i m s a : Int) (h : St b i) (ha : a ≤ 9223372036854775807) :
    ∃ r i' m', spec_l01Src_n.f b i m s a = some (r, i', m', s) ∧ St b i' ∧ 0 ≤ r ∧ (a ≤ 1 → r = 0) ∧ (1 < a → r < a) := by
  obtain ⟨h0, h1, h2⟩ := h
  unfold spec_l01Src_n.f
  by_cases g : a ≤ 1
  · exact ⟨0, i, m, by rw [if_pos g], ⟨h0, h1, h2⟩, by omega, fun _ => rfl, fun _ => by omega⟩
  · rw [if_neg g, if_neg (by rw [wrap_u64_id (by omega) (by omega)]; omega)]
    by_cases g2 : i < (b.length : Int)
    · have := out_range (IntKind.u64.wrap (rd b i)) (spec_l01Src_n.mix m) a (by omega) ha
      exact ⟨_, _, _, by rw [if_pos g2, if_pos h0, wrap64_id (by omega) (by omega)], ⟨by omega, by omega, h2⟩, this.1, fun _ => by omega, fun _ => this.2⟩
    · have := out_range 0 (spec_l01Src_n.mix m) a (by omega) ha
      exact ⟨_, _, _, by rw [if_neg g2], ⟨h0, h1, h2⟩, this.1, fun _ => by omega, fun _ => this.2⟩
theorem source_l0 (N : Nat) (hN : N ≤ 1048576) (l : List Int) (hl : l.length = N) (d : Nat) : ∀ (i : Nat) (m : Int), i + d = N → ∃ m' s', 0 ≤ s' ∧ s' ≤ 12 ∧ Ev (fun k => spec_l01Source.l0 k l (i : Int) l 0 m 0) (l, 0, m', s') := by
  have fin : ∀ m : Int, ∃ m' s', 0 ≤ s' ∧ s' ≤ 12 ∧ Ev (fun _ => (if (wrap64 ((l.length : Int) / 20)) > 12 then (some (l, (0 : Int), m, (12 : Int))) else (some (l, 0, m, wrap64 ((l.length : Int) / 20))))) (l, 0, m', s') := by
    intro m
    rw [wrap64_id (by omega) (by omega)]
    by_cases g : (l.length : Int) / 20 > 12
    · exact ⟨m, 12, by omega, by omega, by rw [if_pos g]; exact Ev.now _⟩
    · exact ⟨m, (l.length : Int) / 20, by omega, by omega, by rw [if_neg g]; exact Ev.now _⟩
  induction d with
  | zero =>
    intro i m h
    obtain ⟨m', s', a, b, e⟩ := fin m
    exact ⟨m', s', a, b, Ev.step (fun k => by rw [spec_l01Source.l0, if_neg (by omega)]) e⟩
  | succ d ih =>
    intro i m h
    by_cases g : (i : Int) < 64
    · obtain ⟨m', s', a, b, e⟩ := ih (i + 1) (IntKind.u64.wrap ((Go.bits .xor .u64 m (IntKind.u64.wrap (rd l (i : Int)))) * 1099511628211)) (by omega)
      exact ⟨m', s', a, b, Ev.step (fun k => by rw [spec_l01Source.l0, if_pos (by omega), if_pos g, if_pos (by omega), next64 (by omega)]) e⟩
    · obtain ⟨m', s', a, b, e⟩ := fin m
      exact ⟨m', s', a, b, Ev.step (fun k => by rw [spec_l01Source.l0, if_pos (by omega), if_neg g]) e⟩
theorem draw_source (l : List Int) (h : l.length ≤ 1048576) : ∃ m s, 0 ≤ s ∧ s ≤ 12 ∧ St l 0 ∧ Ev (fun k => spec_l01Source.f k l) (l, 0, m, s) := by
  obtain ⟨m, s, a, b, e⟩ := source_l0 l.length h l rfl l.length 0 88172645463325252 (by omega)
  exact ⟨m, s, a, b, ⟨by omega, by omega, h⟩, e⟩
end Go.Proofs.Ytcmoenkbckmmfaa.Pure
namespace Go.Proofs.Ytcmoenkbckmmfaa.Pure
set_option linter.unusedVariables false
set_option linter.unusedSimpArgs false
open Go Go.RowKit Go.Proofs.Ytcmoenkbckmmfaa.Q Go.Proofs.YtcmoenkbckmmfaaW.PrintWords Go.Proofs.YtcmoenkbckmmfaaW.PrintLast Go.Proofs.YtcmoenkbckmmfaaW.PrintMore
theorem draw_one (b : List Int) (i m s a : Int) (h : St b i) (ha : a ≤ 9223372036854775807) :
    ∃ r i' m', spec_l01Src_one.f b i m s a = some (r, i', m', s) ∧ St b i' := by
  obtain ⟨r, i', m', e, h', _⟩ := draw_n b i m s a h ha
  unfold spec_l01Src_one.f
  rw [e]
  exact ⟨_, _, _, rfl, h'⟩
end Go.Proofs.Ytcmoenkbckmmfaa.Pure
namespace Go.Proofs.Ytcmoenkbckmmfaa.Pure
set_option linter.unusedVariables false
set_option linter.unusedSimpArgs false
open Go Go.RowKit Go.Proofs.Ytcmoenkbckmmfaa.Q Go.Proofs.YtcmoenkbckmmfaaW.PrintWords Go.Proofs.YtcmoenkbckmmfaaW.PrintLast Go.Proofs.YtcmoenkbckmmfaaW.PrintMore
theorem edges_range : ∀ x ∈ ([0, 1, (-1), 2, 1000, 1001, 2147483648, 2147483647, (-2147483648), 4611686018427387904, 9223372036854775807, (-9223372036854775808), 1000000, 1000001] : List Int), -9223372036854775808 ≤ x ∧ x ≤ 9223372036854775807 := by decide
theorem draw_edge (b : List Int) (i m s : Int) (h : St b i) : ∃ r i' m', spec_l01Src_edge.f b i m s = some (r, i', m', s) ∧ St b i' ∧ -9223372036854775808 ≤ r ∧ r ≤ 9223372036854775807 := by
  unfold spec_l01Src_edge.f
  obtain ⟨r, i', m', e, h', b0, b1, b2⟩ := draw_n b i m s 14 h (by omega)
  have b2 := b2 (by omega)
  simp only [Option.bind_some, e]
  rw [if_pos b0, if_pos (by simp only [List.length_cons, List.length_nil]; omega)]
  refine ⟨_, _, _, rfl, h', edges_range _ ?_⟩
  have hl : r.toNat < ([0, 1, (-1), 2, 1000, 1001, 2147483648, 2147483647, (-2147483648), 4611686018427387904, 9223372036854775807, (-9223372036854775808), 1000000, 1000001] : List Int).length := by simp only [List.length_cons, List.length_nil]; omega
  rw [rd, List.getD_eq_getElem?_getD, List.getElem?_eq_getElem hl, Option.getD_some]
  exact List.getElem_mem _
end Go.Proofs.Ytcmoenkbckmmfaa.Pure
namespace Go.Proofs.Ytcmoenkbckmmfaa.Pure
set_option linter.unusedVariables false
set_option linter.unusedSimpArgs false
open Go Go.RowKit Go.Proofs.Ytcmoenkbckmmfaa.Q Go.Proofs.YtcmoenkbckmmfaaW.PrintWords Go.Proofs.YtcmoenkbckmmfaaW.PrintLast Go.Proofs.YtcmoenkbckmmfaaW.PrintMore
theorem draw_bytes_l0 (b : List Int) (s n : Int) (hn : n ≤ 1000000) (d : Nat) : ∀ (j : Nat) (acc : List Int) (i m : Int), (j : Int) + d = n → acc.length = j → St b i →
    ∃ r i' m', Ev (fun k => spec_l01Src_bytes.l0 k n acc (j : Int) b i m s) (r, i', m', s) ∧ St b i' ∧ (r.size : Int) = n := by
  induction d with
  | zero =>
    intro j acc i m h hl hs
    exact ⟨strOfNums acc, i, m, Ev.step (fun k => by rw [spec_l01Src_bytes.l0, if_neg (by omega)]) (Ev.now _), hs, by rw [strOfNums_size]; omega⟩
  | succ d ih =>
    intro j acc i m h hl hs
    obtain ⟨r, i', m', e, h', _⟩ := draw_n b i m s 256 hs (by omega)
    obtain ⟨r2, i2, m2, e2, h2, b2⟩ := ih (j + 1) (acc ++ [r % 256]) i' m' (by omega) (by simp; omega) h'
    refine ⟨r2, i2, m2, Ev.step (fun k => by rw [spec_l01Src_bytes.l0, if_pos (by omega), e, next64 (by omega)]) ?_, h2, b2⟩
    simp only [Option.bind_some, if_pos (show acc.length < 140737488355328 by omega)]
    exact e2
theorem draw_bytes (b : List Int) (i m s n : Int) (hn0 : 0 ≤ n) (hn : n ≤ 1000000) (hs : St b i) :
    ∃ r i' m', Ev (fun k => spec_l01Src_bytes.f k b i m s n) (r, i', m', s) ∧ St b i' ∧ (r.size : Int) = n := by
  unfold spec_l01Src_bytes.f
  exact draw_bytes_l0 b s n hn n.toNat 0 [] i m (by omega) (by simp) hs
end Go.Proofs.Ytcmoenkbckmmfaa.Pure
namespace Go.Proofs.Ytcmoenkbckmmfaa.Pure
set_option linter.unusedVariables false
set_option linter.unusedSimpArgs false
open Go Go.RowKit Go.Proofs.Ytcmoenkbckmmfaa.Q Go.Proofs.YtcmoenkbckmmfaaW.PrintWords Go.Proofs.YtcmoenkbckmmfaaW.PrintLast Go.Proofs.YtcmoenkbckmmfaaW.PrintMore
theorem draw_Seal (l : List Int) (h : l.length ≤ 1048576) : ∃ t, Ev (fun k => spec_DrawSeal.f k l) t ∧ t.size ≤ 1000000 := by
  unfold spec_DrawSeal.f
  obtain ⟨m, s, _, _, hs, e0⟩ := draw_source l h
  obtain ⟨r1, i1, m1, e1, s1⟩ := draw_one l 0 m s 30 hs (by omega)
  obtain ⟨r2, i2, m2, e2, s2, a2, _, c2⟩ := draw_n l i1 m1 s 3 s1 (by omega)
  obtain ⟨r3, i3, m3, e3, s3, a3, _, c3⟩ := draw_n l i1 m1 s 20 s1 (by omega)
  have c2 := c2 (by omega)
  have c3 := c3 (by omega)
  by_cases g : r1 = true
  · refine ⟨strOfNums (List.replicate (19995 + r2).toNat 0), Ev.bind e0 ?_, by rw [strOfNums_size, List.length_replicate]; omega⟩
    simp only [e1, Option.bind_some, if_pos g, e2]
    rw [wrap64_id (n := 19995 + r2) (by omega) (by omega), if_pos (by omega), if_pos (by omega)]
    exact Ev.now _
  · obtain ⟨t, i4, m4, e4, _, l4⟩ := draw_bytes l i3 m3 s r3 a3 (by omega) s3
    refine ⟨t, Ev.bind e0 ?_, by omega⟩
    simp only [e1, Option.bind_some, if_neg g, e3]
    exact Ev.bind e4 (Ev.now _)
theorem specCrcOut (t : ByteArray) (h : t.size ≤ 8000) : Ev (fun k => spec_Crc.f k t) (crcM 0 t : Int) := by
  unfold spec_Crc.f
  simp only [if_neg (show ¬ (t.size : Int) > 8000 by omega)]
  exact Ev.bind (specCrc t 0 (by omega) (by omega) (by omega)) (Ev.now _)
theorem draw_CrcMore (l : List Int) (h : l.length ≤ 1048576) : ∃ c t, Ev (fun k => spec_DrawCrcMore.f k l) (c, t) ∧ t.size ≤ 1000 := by
  unfold spec_DrawCrcMore.f
  obtain ⟨m, s, _, _, hs, e0⟩ := draw_source l h
  obtain ⟨r1, i1, m1, e1, s1, a1, _, c1⟩ := draw_n l 0 m s 9 hs (by omega)
  have c1 := c1 (by omega)
  obtain ⟨t, i2, m2, e2, s2, l2⟩ := draw_bytes l i1 m1 s r1 a1 (by omega) s1
  obtain ⟨r3, i3, m3, e3, s3⟩ := draw_one l i2 m2 s 5 s2 (by omega)
  by_cases g : r3 = true
  · obtain ⟨r4, i4, m4, e4, s4, a4, b4⟩ := draw_edge l i3 m3 s s3
    refine ⟨r4, t, Ev.bind e0 ?_, by omega⟩
    simp only [e1, Option.bind_some]
    refine Ev.bind e2 ?_
    simp only [e3, Option.bind_some, if_pos g, e4]
    exact Ev.now _
  · obtain ⟨r4, i4, m4, e4, s4, a4, _, c4⟩ := draw_n l i3 m3 s 9 s3 (by omega)
    have c4 := c4 (by omega)
    obtain ⟨u, i5, m5, e5, s5, l5⟩ := draw_bytes l i4 m4 s r4 a4 (by omega) s4
    refine ⟨(crcM 0 u : Int), t, Ev.bind e0 ?_, by omega⟩
    simp only [e1, Option.bind_some]
    refine Ev.bind e2 ?_
    simp only [e3, Option.bind_some, if_neg g, e4]
    refine Ev.bind e5 (Ev.bind (specCrcOut u (by omega)) (Ev.now _))
theorem implCrcOut (t : ByteArray) (h : t.size ≤ 8000) : Ev (fun k => impl_Crc.f k t) (crcM 0 t : Int) := by
  unfold impl_Crc.f
  simp only [if_neg (show ¬ (t.size : Int) > 8000 by omega)]
  have := crcM_lt (0 : Int).toNat t
  refine Ev.bind (implCrc t 0 (by omega) (by omega) (by omega)) ?_
  rw [wrap64_id (by omega) (by omega)]
  exact Ev.now _
/-- What CrcMore answers. -/
def crcOut (c : Int) (t : ByteArray) : Int := if (t.size : Int) > 8000 then 0 else if 0 ≤ c ∧ c ≤ 4294967295 then (crcM c.toNat t : Int) else 0
theorem implMore (c : Int) (t : ByteArray) : Ev (fun k => impl_CrcMore.f k c t) (crcOut c t) := by
  unfold impl_CrcMore.f crcOut impl_within.f
  by_cases b : (t.size : Int) > 8000
  · simp only [if_pos b]; exact Ev.now _
  · simp only [if_neg b]
    by_cases c0 : c ≥ 0
    · by_cases c1 : c ≤ 4294967295
      · simp only [if_pos c0, Option.bind_some, decide_eq_true c1, if_true, if_pos (show 0 ≤ c ∧ c ≤ 4294967295 from ⟨c0, c1⟩)]
        rw [Int.emod_eq_of_lt (by omega) (by omega)]
        have := crcM_lt c.toNat t
        refine Ev.bind (implCrc t c (by omega) (by omega) (by omega)) ?_
        rw [wrap64_id (by omega) (by omega)]
        exact Ev.now _
      · simp only [if_pos c0, Option.bind_some, decide_eq_false c1, Bool.false_eq_true, if_false, if_neg (show ¬ (0 ≤ c ∧ c ≤ 4294967295) from fun x => c1 x.2)]
        exact Ev.now _
    · simp only [if_neg c0, Option.bind_some, Bool.false_eq_true, if_false, if_neg (show ¬ (0 ≤ c ∧ c ≤ 4294967295) from fun x => c0 x.1)]
      exact Ev.now _
theorem specMore (c : Int) (t : ByteArray) : Ev (fun k => spec_CrcMore.f k c t) (crcOut c t) := by
  unfold spec_CrcMore.f crcOut
  by_cases b : (t.size : Int) > 8000
  · simp only [if_pos b]; exact Ev.now _
  · simp only [if_neg b]
    by_cases c0 : c < 0
    · simp only [if_pos c0, if_neg (show ¬ (0 ≤ c ∧ c ≤ 4294967295) from fun x => by omega)]; exact Ev.now _
    · by_cases c1 : c > 4294967295
      · simp only [if_neg c0, if_pos c1, if_neg (show ¬ (0 ≤ c ∧ c ≤ 4294967295) from fun x => by omega)]; exact Ev.now _
      · simp only [if_neg c0, if_neg c1, if_pos (show 0 ≤ c ∧ c ≤ 4294967295 by omega)]
        exact Ev.bind (specCrc t c (by omega) (by omega) (by omega)) (Ev.now _)
theorem crcM_app (t u : ByteArray) : crcM 0 (t ++ u) = crcM (crcM 0 t) u := by
  unfold crcM
  rw [byteList_append, crcFold, List.foldl_append]
  have h := crcFold_lt (byteList t) (r := 4294967295) (by omega) (byteList_lt t)
  show 4294967295 - crcFold (crcFold 4294967295 (byteList t)) (byteList u) = 4294967295 - crcFold (4294967295 - (4294967295 - crcFold 4294967295 (byteList t))) (byteList u)
  rw [show 4294967295 - (4294967295 - crcFold 4294967295 (byteList t)) = crcFold 4294967295 (byteList t) by omega]
end Go.Proofs.Ytcmoenkbckmmfaa.Pure
namespace Go.Proofs.Ytcmoenkbckmmfaa.Pure
set_option linter.unusedVariables false
set_option linter.unusedSimpArgs false
open Go Go.RowKit Go.Proofs.Ytcmoenkbckmmfaa.Q Go.Proofs.YtcmoenkbckmmfaaW.PrintWords Go.Proofs.YtcmoenkbckmmfaaW.PrintLast Go.Proofs.YtcmoenkbckmmfaaW.PrintMore
theorem xor_u8 {a b : Nat} (ha : a < 256) (hb : b < 256) : Go.bits .xor .u8 (a : Int) (IntKind.u8.wrap (b : Int)) = ((a ^^^ b : Nat) : Int) := by
  have hw : IntKind.u8.wrap (b : Int) = (b : Int) := by simp [IntKind.wrap, IntKind.signed, IntKind.bits]; omega
  rw [hw]
  have hx := Nat.xor_lt_two_pow (n := 8) ha hb
  simp [Go.bits]
  rw [show IntKind.u8.bits = 8 from rfl, Nat.mod_eq_of_lt (show a < 2 ^ 8 by omega), Nat.mod_eq_of_lt (show b < 2 ^ 8 by omega)]
  generalize a ^^^ b = c at hx ⊢
  simp [IntKind.wrap, IntKind.signed, IntKind.bits]; omega
def sealOut (t : ByteArray) : ByteArray := if (t.size : Int) > 7996 then ⟨#[]⟩ else sealM t
theorem implSealO (t : ByteArray) (h : t.size ≤ 1000000) : Ev (fun k => impl_Seal.f k t) (sealOut t) := by
  unfold impl_Seal.f sealOut
  by_cases b : (t.size : Int) > 7996
  · simp only [if_pos b]; exact Ev.now _
  · simp only [if_neg b]; exact Ev.bind (implSeal t (by omega)) (Ev.now _)
theorem specSealO (t : ByteArray) (h : t.size ≤ 1000000) : Ev (fun k => spec_Seal.f k t) (sealOut t) := by
  unfold spec_Seal.f sealOut
  by_cases b : (t.size : Int) > 7996
  · simp only [if_pos b]; exact Ev.now _
  · simp only [if_neg b]
    exact Ev.bind (specCrc t 0 (by omega) (by omega) (by omega)) (Ev.bind1 (specFour _) (Ev.const (if_pos (by rw [four_size]; omega))))
/-- What Unseal makes of a text. -/
def unsealO (s : ByteArray) : ByteArray × Int := if s.size < 4 then (⟨#[]⟩, 4) else if sealM (s.extract 0 (s.size - 4)) = s then (s.extract 0 (s.size - 4), 0) else (⟨#[]⟩, 5)
theorem implUnsealO (s : ByteArray) (h : s.size ≤ 8000) : Ev (fun k => impl_Unseal.f k s) ((unsealO s).1, 0, (unsealO s).2) := by
  unfold impl_Unseal.f
  simp only [if_neg (show ¬ (s.size : Int) > 8000 by omega)]
  exact Ev.bind (implUnseal s (by omega)) (Ev.now _)
theorem lwAt_ok (l : List Int) (hl : l.length ≤ 1048576) (a m : Int) (h0 : 0 ≤ a) (ha : a ≤ 1) (hm : 1 ≤ m) (hb : ∀ x ∈ l, 0 ≤ x ∧ x < 256) : ∃ v, laws_lwAt.f l a m = some v ∧ 0 ≤ v ∧ v < m := by
  unfold laws_lwAt.f
  by_cases g : m ≤ 1
  · exact ⟨0, by rw [if_pos g], by omega, by omega⟩
  · rw [if_neg g]
    by_cases g2 : (l.length : Int) = 0
    · exact ⟨0, by rw [if_pos g2], by omega, by omega⟩
    · rw [if_neg g2]
      have q0 : 0 ≤ Int.tmod a (l.length : Int) := Int.tmod_nonneg _ h0
      have q1 : Int.tmod a (l.length : Int) < (l.length : Int) := Int.tmod_lt_of_pos a (by omega)
      rw [if_pos q0, if_pos q1, if_neg (by omega)]
      have hr : 0 ≤ rd l (Int.tmod a (l.length : Int)) ∧ rd l (Int.tmod a (l.length : Int)) < 256 := by
        unfold rd
        rw [List.getD_eq_getElem?_getD, List.getElem?_eq_getElem (show (Int.tmod a (l.length : Int)).toNat < l.length by omega)]
        exact hb _ (List.getElem_mem _)
      rw [wrap64_id (by omega) (by omega)]
      exact ⟨_, rfl, Int.tmod_nonneg _ hr.1, Int.tmod_lt_of_pos _ (by omega)⟩
theorem restSeal (l1 : List Int) (h1 : l1.length ≤ 1048576) (t : ByteArray) (ht : t.size ≤ 1000000) : Ev (fun k => laws_FnSeal.rest k l1 t) true := by
  unfold laws_FnSeal.rest
  obtain ⟨c, u, eu, hu⟩ := draw_CrcMore l1 h1
  refine Ev.bind eu ?_
  simp only [if_pos (show u.size ≤ 1000000 by omega)]
  by_cases g : (t.size : Int) + (u.size : Int) > 8000
  · simp only [if_pos g]; exact Ev.now _
  · simp only [if_neg g]
    refine Ev.bind (implMore c u) (Ev.bind (specMore c u) ?_)
    simp only [if_true]
    refine Ev.bind (implCrcOut t (by omega)) (Ev.bind (implMore _ u) (Ev.bind (implCrcOut (t ++ u) (by rw [ByteArray.size_append]; omega)) ?_))
    have e : crcOut (crcM 0 t : Int) u = ((crcM 0 (t ++ u) : Nat) : Int) := by
      unfold crcOut
      have := crcM_lt 0 t
      rw [if_neg (by omega), if_pos (by omega), crcM_app, Int.toNat_natCast]
    simp only [if_pos e]
    exact Ev.now _
theorem byteList_turned (s : ByteArray) (i : Int) (x : Int) (v : Nat) (hv : v < 256) (hx : x = (v : Int)) : byteList (laws_FnSeal.turned s i x) = (byteList s).set i.toNat v := by
  subst hx
  have hb : ∀ y ∈ (bytesOf s).set i.toNat (v : Int), 0 ≤ y ∧ y < 256 := by
    intro y hy
    rcases List.mem_or_eq_of_mem_set hy with hy | hy
    · unfold bytesOf at hy
      obtain ⟨c, _, rfl⟩ := List.mem_map.1 hy
      have := c.toNat_lt; omega
    · omega
  have e1 := bl_nums _ hb
  have e2 : bl (laws_FnSeal.turned s i (v : Int)) = (bytesOf s).set i.toNat (v : Int) := e1
  rw [byteList_bl] at e2
  have e3 : bytesOf s = (byteList s).map (fun n : Nat => (n : Int)) := by simp [bytesOf, byteList]
  rw [e3, ← List.map_set] at e2
  exact (List.map_inj_right (f := fun n : Nat => (n : Int)) (fun a b e => by omega)).1 e2
theorem sealOut_size (t : ByteArray) : (sealOut t).size ≤ 8000 := by
  unfold sealOut; split
  · exact Nat.zero_le _
  · rw [sealM_size]; omega
theorem FnSeal : laws_FnSeal.Pure := by
  intro l0 l1 _ _ _ _ _ hw1
  refine Ev.rounds ?_
  have hb : ∀ x ∈ l1, 0 ≤ x ∧ x < 256 := by
    intro x hx
    have := hw1 x hx
    simp [Lit.wf, IntKind.min, IntKind.max, IntKind.signed, IntKind.bits] at this
    omega
  unfold laws_FnSeal.f
  by_cases a0 : (l0.length : Int) > 1048576
  · simp only [if_pos a0]; exact Ev.now _
  by_cases a1 : (l1.length : Int) > 1048576
  · simp only [if_neg a0, if_pos a1]; exact Ev.now _
  simp only [if_neg a0, if_neg a1]
  obtain ⟨t, et, ht⟩ := draw_Seal l0 (by omega)
  refine Ev.bind et ?_
  simp only [if_pos ht]
  have hr := restSeal l1 (by omega) t ht
  have hz := sealOut_size t
  refine Ev.bind (implSealO t ht) (Ev.bind (specSealO t ht) ?_)
  simp only [if_true]
  by_cases g : (sealOut t).toList = ([] : List UInt8)
  · simp only [if_pos g]; exact hr
  have hs : sealOut t = sealM t := by
    unfold sealOut at g ⊢
    by_cases b : (t.size : Int) > 7996
    · rw [if_pos b] at g; exact absurd (show (⟨#[]⟩ : ByteArray).toList = [] by rw [toList_data]) g
    · rw [if_neg b]
  have hz4 := sealM_size t
  simp only [if_neg g, if_pos (show (sealOut t).size ≤ 1000000 by omega)]
  rw [hs] at hz ⊢
  obtain ⟨i, ei, i0, i1⟩ := lwAt_ok l1 (by omega) 0 ((sealM t).size : Int) (by omega) (by omega) (by omega) hb
  obtain ⟨v, ev, v0, v1⟩ := lwAt_ok l1 (by omega) 1 255 (by omega) (by omega) (by omega) hb
  simp only [ei, ev, Option.bind_some, if_pos (show 0 ≤ i ∧ i < ((sealM t).size : Int) from ⟨i0, i1⟩)]
  obtain ⟨q1, q2⟩ := unseal_sealM t
  have hu1 := implUnsealO (sealM t) hz
  have hv1 : unsealO (sealM t) = (t, 0) := by
    unfold unsealO
    rw [if_neg q1, q2, if_pos rfl]
  rw [hv1] at hu1
  refine Ev.bind hu1 ?_
  simp only [if_true]
  -- the byte is turned
  obtain ⟨j, rfl⟩ := Int.eq_ofNat_of_zero_le i0
  have hj : j < (byteList (sealM t)).length := by rw [byteList_length]; omega
  have hbt : bt (sealM t) (j : Int) = (((byteList (sealM t))[j]'hj : Nat) : Int) := by
    have h2 := byteList_drop (sealM t) j (by omega)
    rw [List.drop_eq_getElem_cons hj] at h2
    have h3 := (List.cons.inj h2).1
    have h4 := bt_range (sealM t) (j : Int)
    rw [h3]; omega
  have hc := byteList_lt (sealM t) _ (List.getElem_mem hj)
  obtain ⟨n, rfl⟩ := Int.eq_ofNat_of_zero_le v0
  have hx : Go.bits .xor .u8 (bt (sealM t) (j : Int)) (IntKind.u8.wrap (wrap64 (1 + (n : Int)))) = (((byteList (sealM t))[j]'hj ^^^ (1 + n) : Nat) : Int) := by
    rw [wrap64_id (by omega) (by omega), hbt, show (1 + (n : Int)) = ((1 + n : Nat) : Int) by omega]
    exact xor_u8 hc (by omega)
  have hxl : (byteList (sealM t))[j]'hj ^^^ (1 + n) < 256 := Nat.xor_lt_two_pow (n := 8) hc (by omega)
  have hne : (byteList (sealM t))[j]'hj ^^^ (1 + n) ≠ (byteList (sealM t))[j]'hj := by
    intro e
    have e2 : (byteList (sealM t))[j]'hj ^^^ (1 + n) = (byteList (sealM t))[j]'hj ^^^ 0 := by rw [e, Nat.xor_zero]
    have := xor_canc2 e2
    omega
  have hbl := byteList_turned (sealM t) (j : Int) _ _ hxl hx
  rw [Int.toNat_natCast] at hbl
  obtain ⟨p1, p2⟩ := seal_turned t (laws_FnSeal.turned (sealM t) (j : Int) (Go.bits .xor .u8 (bt (sealM t) (j : Int)) (IntKind.u8.wrap (wrap64 (1 + (n : Int)))))) j _ hj hxl hne hbl
  generalize laws_FnSeal.turned (sealM t) (j : Int) (Go.bits .xor .u8 (bt (sealM t) (j : Int)) (IntKind.u8.wrap (wrap64 (1 + (n : Int))))) = T at hbl p1 p2 ⊢
  have hT : T.size = (sealM t).size := by
    have := congrArg List.length hbl
    rw [List.length_set, byteList_length, byteList_length] at this
    exact this
  have hu2 := implUnsealO T (by omega)
  have hv2 : unsealO T = (⟨#[]⟩, 5) := by
    unfold unsealO
    rw [if_neg p1, if_neg p2]
  rw [hv2] at hu2
  refine Ev.bind hu2 ?_
  simp only [if_true]
  exact hr
end Go.Proofs.Ytcmoenkbckmmfaa.Pure
