/- The CRC: what both packages compute is crcM, a fold over the text's bytes; its steps lose nothing. No conditions but the widths. -/
import Derived.Test.YtjhlppbiahopkaaBase
import Derived.Test.YtjhlppbiahopkaaQx6
namespace Go.Proofs.Ytjhlppbiahopkaa.Pure
set_option linter.unusedVariables false
set_option linter.unusedSimpArgs false
open Go Go.RowKit Go.Proofs.Ytjhlppbiahopkaa.Q Go.Proofs.YtjhlppbiahopkaaW.PrintWords Go.Proofs.YtjhlppbiahopkaaW.PrintLast Go.Proofs.YtjhlppbiahopkaaW.PrintMore

def byteList (s : ByteArray) : List Nat := s.data.toList.map UInt8.toNat
theorem byteList_length (s : ByteArray) : (byteList s).length = s.size := by rw [byteList, List.length_map, data_length]
theorem byteList_drop (s : ByteArray) (i : Nat) (h : i < s.size) : (byteList s).drop i = (bt s i).toNat :: (byteList s).drop (i + 1) := by
  have hl : i < (byteList s).length := by rw [byteList_length]; exact h
  rw [List.drop_eq_getElem_cons hl]
  congr 1
  have hb : bt s (i : Int) = ((s[i]'h).toNat : Int) := by unfold bt; rw [dif_pos (show (i : Int).toNat < s.size from h)]; rfl
  rw [hb, Int.toNat_natCast]
  simp only [byteList, List.getElem_map, Array.getElem_toList]
  rfl
theorem byteList_lt (s : ByteArray) : ∀ c ∈ byteList s, c < 256 := by
  intro c hc
  unfold byteList at hc
  obtain ⟨b, _, rfl⟩ := List.mem_map.1 hc
  exact b.toNat_lt
theorem byteList_append (a b : ByteArray) : byteList (a ++ b) = byteList a ++ byteList b := by simp [byteList]

def crcStep (r : Nat) : Nat := if r % 2 = 1 then (r / 2) ^^^ 3988292384 else r / 2
def crcIter : Nat → Nat → Nat
  | 0, r => r
  | n + 1, r => crcIter n (crcStep r)
def crcByte (r c : Nat) : Nat := crcIter 8 (r ^^^ c)
def crcFold (r : Nat) (l : List Nat) : Nat := l.foldl crcByte r
def crcM (crc : Nat) (s : ByteArray) : Nat := 4294967295 - crcFold (4294967295 - crc) (byteList s)

theorem xor_lt32 {a b : Nat} (ha : a < 4294967296) (hb : b < 4294967296) : a ^^^ b < 4294967296 := Nat.xor_lt_two_pow (n := 32) ha hb
theorem crcStep_lt {r : Nat} (h : r < 4294967296) : crcStep r < 4294967296 := by
  unfold crcStep; split
  · exact xor_lt32 (by omega) (by omega)
  · omega
theorem crcIter_lt (n : Nat) : ∀ {r : Nat}, r < 4294967296 → crcIter n r < 4294967296 := by
  induction n with
  | zero => exact fun h => h
  | succ n ih => exact fun h => ih (crcStep_lt h)
theorem crcByte_lt {r c : Nat} (h : r < 4294967296) (hc : c < 256) : crcByte r c < 4294967296 := crcIter_lt 8 (xor_lt32 h (by omega))
theorem crcFold_lt : ∀ (l : List Nat) {r : Nat}, r < 4294967296 → (∀ c ∈ l, c < 256) → crcFold r l < 4294967296 := by
  intro l
  induction l with
  | nil => exact fun h _ => h
  | cons c l ih => exact fun h hc => ih (crcByte_lt h (hc c (by simp))) (fun c' h' => hc c' (by simp [h']))
theorem crcM_lt (crc : Nat) (s : ByteArray) : crcM crc s < 4294967296 := by unfold crcM; omega

theorem and_one32 {r : Nat} (h : r < 4294967296) : Go.bits .and .u32 (r : Int) 1 = ((r % 2 : Nat) : Int) := by
  have e := u32_and_nat r 1 h (by omega)
  rw [Nat.and_one_is_mod] at e
  exact e
theorem xor32 {a b : Nat} (ha : a < 4294967296) (hb : b < 4294967296) : Go.bits .xor .u32 (a : Int) (b : Int) = ((a ^^^ b : Nat) : Int) := u32_xor_nat a b ha hb
theorem half_step {r : Nat} (h : r < 4294967296) : Go.bits .xor .u32 ((r : Int) / 2) 3988292384 = ((r / 2 ^^^ 3988292384 : Nat) : Int) := by
  have e := u32_xor_nat (r / 2) 3988292384 (by omega) (by omega)
  rw [← e]; rfl

/-- The reference's inner loop. -/
theorem spec_l1 (s : ByteArray) (i : Int) (R : Int) (d : Nat) : ∀ (r j : Nat), r < 4294967296 → j + d = 8 →
    Ev (fun k => spec_l01Crc.l0 k s (crcIter d r : Int) (wrap64 (i + 1))) R → Ev (fun k => spec_l01Crc.l1 k s (r : Int) i (j : Int)) R := by
  induction d with
  | zero =>
    intro r j hr hj h
    exact Ev.step (fun k => by rw [spec_l01Crc.l1, if_neg (by omega)]; rfl) h
  | succ d ih =>
    intro r j hr hj h
    have e1 : wrap64 ((j : Int) + 1) = ((j + 1 : Nat) : Int) := by rw [wrap64_id (by omega) (by omega)]; omega
    have := ih (crcStep r) (j + 1) (crcStep_lt hr) (by omega) h
    refine Ev.step (fun k => ?_) this
    rw [spec_l01Crc.l1, if_pos (by omega), and_one32 hr, e1]
    unfold crcStep
    by_cases hb : r % 2 = 1
    · rw [if_pos (by omega), if_pos hb, half_step hr]
    · rw [if_neg (by omega), if_neg hb]; rfl
theorem spec_l0 (s : ByteArray) (hs : s.size ≤ 140737488351232) (d : Nat) : ∀ (r i : Nat), r < 4294967296 → i + d = s.size →
    Ev (fun k => spec_l01Crc.l0 k s (r : Int) (i : Int)) (4294967295 - crcFold r ((byteList s).drop i) : Nat) := by
  induction d with
  | zero =>
    intro r i hr hi
    rw [List.drop_of_length_le (by rw [byteList_length]; omega)]
    refine Ev.step (f := fun _ => some ((4294967295 - r : Nat) : Int)) (fun k => ?_) (Ev.now _)
    rw [spec_l01Crc.l0, if_neg (by omega), not_u32' (by omega) (by omega), wrap64_id (by omega) (by omega)]
    congr 1; omega
  | succ d ih =>
    intro r i hr hi
    have h0 := bt_nonneg s i
    have h1 := bt_le s i
    have ec : (bt s i) % 4294967296 = (((bt s i).toNat : Nat) : Int) := by omega
    rw [byteList_drop s i (by omega)]
    have hx : r ^^^ (bt s i).toNat < 4294967296 := xor_lt32 hr (by omega)
    have e1 : wrap64 ((i : Int) + 1) = ((i + 1 : Nat) : Int) := by rw [wrap64_id (by omega) (by omega)]; omega
    have hn := ih (crcByte r (bt s i).toNat) (i + 1) (crcByte_lt hr (by omega)) (by omega)
    have hl := spec_l1 s i ((4294967295 - crcFold (crcByte r (bt s i).toNat) ((byteList s).drop (i + 1)) : Nat) : Int) 8 (r ^^^ (bt s i).toNat) 0 hx rfl (by rw [e1]; exact hn)
    refine Ev.step (fun k => ?_) hl
    rw [spec_l01Crc.l0, if_pos (by omega), if_pos (by omega), ec, xor32 hr (by omega)]; rfl
theorem specCrc (s : ByteArray) (crc : Int) (hs : s.size ≤ 140737488351232) (h0 : 0 ≤ crc) (h1 : crc < 4294967296) : Ev (fun k => spec_l01Crc.f k crc s) (crcM crc.toNat s : Int) := by
  unfold spec_l01Crc.f
  rw [Int.emod_eq_of_lt h0 h1, not_u32' h0 h1]
  have := spec_l0 s hs s.size (4294967295 - crc.toNat) 0 (by omega) (by omega)
  have e : ((4294967295 - crc.toNat : Nat) : Int) = 4294967295 - crc := by omega
  rw [e] at this
  exact this

theorem shr_byte (s : ByteArray) (i : Int) (j : Nat) (hj : j ≤ 8) : shr .u32 ((bt s i) % 4294967296) (j : Int) = (((bt s i).toNat >>> j : Nat) : Int) := by
  have h0 := bt_nonneg s i
  have h1 := bt_le s i
  obtain ⟨c, hc⟩ := Int.eq_ofNat_of_zero_le h0
  rw [hc]
  unfold shr
  rw [show min (j : Int).toNat IntKind.u32.bits = j by simp [IntKind.bits]; omega, Nat.shiftRight_eq_div_pow, Int.emod_eq_of_lt (by omega) (by omega), Int.toNat_natCast]
  simp
theorem mix_step {r c : Nat} (j : Nat) : (r ^^^ (c >>> j)) / 2 = r / 2 ^^^ (c >>> (j + 1)) := by
  have e : ∀ x : Nat, x / 2 = x >>> 1 := fun x => by rw [Nat.shiftRight_eq_div_pow]
  rw [e, e, Nat.shiftRight_xor_distrib, ← Nat.shiftRight_add]
theorem crcStep_mix {r c : Nat} (j : Nat) : crcStep (r ^^^ (c >>> j)) = (if (r ^^^ (c >>> j)) % 2 = 1 then r / 2 ^^^ 3988292384 else r / 2) ^^^ (c >>> (j + 1)) := by
  unfold crcStep
  split
  · rw [mix_step, Nat.xor_assoc, Nat.xor_comm (c >>> (j + 1)), ← Nat.xor_assoc]
  · rw [mix_step]
/-- The program's inner loop. -/
theorem impl_l1 (s : ByteArray) (i : Nat) (hi : i < s.size) (R : Int) (d : Nat) : ∀ (r j : Nat), r < 4294967296 → j + d = 8 →
    Ev (fun k => impl_crcMore.l0 k s (crcIter d (r ^^^ ((bt s i).toNat >>> j)) : Int) (s.size : Int) (wrap64 ((i : Int) + 1))) R → Ev (fun k => impl_crcMore.l1 k s (r : Int) (i : Int) (s.size : Int) (i : Int) (j : Int)) R := by
  have h0 := bt_nonneg s i
  have h1 := bt_le s i
  induction d with
  | zero =>
    intro r j hr hj h
    obtain rfl : j = 8 := by omega
    have e : (bt s i).toNat >>> 8 = 0 := by rw [Nat.shiftRight_eq_div_pow]; omega
    rw [e, Nat.xor_zero] at h
    exact Ev.step (fun k => by rw [impl_crcMore.l1, if_neg (by omega)]; rfl) h
  | succ d ih =>
    intro r j hr hj h
    have e1 : wrap64 ((j : Int) + 1) = ((j + 1 : Nat) : Int) := by rw [wrap64_id (by omega) (by omega)]; omega
    have hc : (bt s i).toNat >>> j < 4294967296 := by rw [Nat.shiftRight_eq_div_pow]; exact Nat.lt_of_le_of_lt (Nat.div_le_self _ _) (by omega)
    rw [crcIter, crcStep_mix] at h
    by_cases hb : (r ^^^ ((bt s i).toNat >>> j)) % 2 = 1
    · rw [if_pos hb] at h
      have := ih (r / 2 ^^^ 3988292384) (j + 1) (xor_lt32 (by omega) (by omega)) (by omega) h
      refine Ev.step (fun k => ?_) this
      rw [impl_crcMore.l1, if_pos (by omega), if_pos (by omega), if_pos (by omega), if_pos (by omega), shr_byte s i j (by omega), xor32 hr hc, and_one32 (xor_lt32 hr hc), e1, half_step hr, if_pos (by omega)]
    · rw [if_neg hb] at h
      have := ih (r / 2) (j + 1) (by omega) (by omega) h
      refine Ev.step (fun k => ?_) this
      rw [impl_crcMore.l1, if_pos (by omega), if_pos (by omega), if_pos (by omega), if_pos (by omega), shr_byte s i j (by omega), xor32 hr hc, and_one32 (xor_lt32 hr hc), e1, if_neg (by omega)]; rfl
theorem impl_l0 (s : ByteArray) (hs : s.size ≤ 140737488351232) (d : Nat) : ∀ (r i : Nat), r < 4294967296 → i + d = s.size →
    Ev (fun k => impl_crcMore.l0 k s (r : Int) (s.size : Int) (i : Int)) (4294967295 - crcFold r ((byteList s).drop i) : Nat) := by
  induction d with
  | zero =>
    intro r i hr hi
    rw [List.drop_of_length_le (by rw [byteList_length]; omega)]
    refine Ev.step (f := fun _ => some ((4294967295 - r : Nat) : Int)) (fun k => ?_) (Ev.now _)
    rw [impl_crcMore.l0, if_neg (by omega), not_u32 (by omega) (by omega)]
    congr 1; omega
  | succ d ih =>
    intro r i hr hi
    have h0 := bt_nonneg s i
    have h1 := bt_le s i
    rw [byteList_drop s i (by omega)]
    have e1 : wrap64 ((i : Int) + 1) = ((i + 1 : Nat) : Int) := by rw [wrap64_id (by omega) (by omega)]; omega
    have hn := ih (crcByte r (bt s i).toNat) (i + 1) (crcByte_lt hr (by omega)) (by omega)
    have hl := impl_l1 s i (by omega) ((4294967295 - crcFold (crcByte r (bt s i).toNat) ((byteList s).drop (i + 1)) : Nat) : Int) 8 r 0 hr rfl (by rw [e1, Nat.shiftRight_zero]; exact hn)
    exact Ev.step (fun k => by rw [impl_crcMore.l0, if_pos (by omega)]; rfl) hl
theorem implCrc (s : ByteArray) (crc : Int) (hs : s.size ≤ 140737488351232) (h0 : 0 ≤ crc) (h1 : crc < 4294967296) : Ev (fun k => impl_crcMore.f k crc s) (crcM crc.toNat s : Int) := by
  unfold impl_crcMore.f
  rw [not_u32 h0 h1]
  have := impl_l0 s hs s.size (4294967295 - crc.toNat) 0 (by omega) (by omega)
  have e : ((4294967295 - crc.toNat : Nat) : Int) = 4294967295 - crc := by omega
  rw [e] at this
  exact this
end Go.Proofs.Ytjhlppbiahopkaa.Pure
