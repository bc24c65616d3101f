import Derived.Lib.Bytealg
import Derived.Test.YtldhjbjbjoomcaaDoorDgBlock
import Derived.Test.YtldhjbjbjoomcaaDoorShelf
import Derived.Test.YtldhjbjbjoomcaaDoorQx0
import Derived.Test.YtldhjbjbjoomcaaDoorQx3
namespace Go.Proofs.YtldhjbjbjoomcaaDoor.Q
open Go.RowKit Go.Proofs.YtldhjbjbjoomcaaDoorW.PrintWords Go.Proofs.YtldhjbjbjoomcaaDoorW.PrintLast Go.Proofs.YtldhjbjbjoomcaaDoorW.PrintMore
attribute [local go_sem] max2_int min2_int max_two min_two max_three min_three max_four min_four Instr.field asAgg   -- for this text's walks alone
set_option linter.unusedVariables false
set_option linter.unusedSimpArgs false
def dg.start : List Int := [1779033703, 3144134277, 1013904242, 2773480762, 1359893119, 2600822924, 528734635, 1541459225]
theorem dg.be4 (n : Int) : impl_bigBytes.f 6 n 4 = some (strOfNums [n / 256 / 256 / 256 % 256, n / 256 / 256 % 256, n / 256 % 256, n % 256]) := by
  simp [impl_bigBytes.f, impl_bigBytes.l0, wrap64]
theorem dg.be8 (n : Int) : impl_bigBytes.f 10 n 8 = some (strOfNums [n / 256 / 256 / 256 / 256 / 256 / 256 / 256 % 256, n / 256 / 256 / 256 / 256 / 256 / 256 % 256, n / 256 / 256 / 256 / 256 / 256 % 256, n / 256 / 256 / 256 / 256 % 256, n / 256 / 256 / 256 % 256, n / 256 / 256 % 256, n / 256 % 256, n % 256]) := by
  simp [impl_bigBytes.f, impl_bigBytes.l0, wrap64]
def dg.w4b (n : Int) : ByteArray := strOfNums [n / 256 / 256 / 256 % 256, n / 256 / 256 % 256, n / 256 % 256, n % 256]
def dg.w8b (n : Int) : ByteArray := strOfNums [n / 256 / 256 / 256 / 256 / 256 / 256 / 256 % 256, n / 256 / 256 / 256 / 256 / 256 / 256 % 256, n / 256 / 256 / 256 / 256 / 256 % 256, n / 256 / 256 / 256 / 256 % 256, n / 256 / 256 / 256 % 256, n / 256 / 256 % 256, n / 256 % 256, n % 256]
def dg.zeros (n : Nat) : ByteArray := ⟨(Lib.repeatL (⟨#[0]⟩ : ByteArray).data.toList n).toArray⟩
theorem dg.zeros_size (n : Nat) : (dg.zeros n).size = n := by
  have h := Lib.repeatL_length (⟨#[0]⟩ : ByteArray).data.toList n
  show (Lib.repeatL _ n).toArray.size = n
  rw [List.size_toArray, h]
  simp
/-- How many zeros. -/
def dg.pad (s : ByteArray) : Nat := (119 - s.size % 64) % 64
/-- A text with its end. -/
def dg.all (s : ByteArray) : ByteArray := ((s ++ ⟨#[128]⟩) ++ dg.zeros (dg.pad s)) ++ dg.w8b (8 * (s.size : Int))
/-- The state behind i blocks. -/
def dg.after (t : ByteArray) : Nat → List Int
  | 0 => dg.start
  | i + 1 => dg.block (dg.after t i) (t.extract (64 * i) (64 * i + 64))
theorem dg.block_length (xs : List Int) (b : ByteArray) : (dg.block xs b).length = xs.length := dg.add_length _ _ _
theorem dg.after_length (t : ByteArray) : ∀ i, (dg.after t i).length = 8
  | 0 => rfl
  | i + 1 => by rw [dg.after, dg.block_length]; exact dg.after_length t i
/-- The first i numbers as bytes. -/
def dg.text (xs : List Int) : Nat → ByteArray
  | 0 => ⟨#[]⟩
  | i + 1 => dg.text xs i ++ dg.w4b (IntKind.u64.wrap (rd xs (i : Int)))
theorem dg.text_size (xs : List Int) : ∀ i, (dg.text xs i).size = 4 * i
  | 0 => rfl
  | i + 1 => by rw [dg.text, ByteArray.size_append, dg.text_size xs i]; have : (dg.w4b (IntKind.u64.wrap (rd xs (i : Int)))).size = 4 := strOfNums_size _; omega
theorem dg.out_init (xs : List Int) (i : Nat) (hi : i < 8) : rd (dg.out (dg.init xs)) (i : Int) = rd xs (i : Int) := by
  have hc : i = 0 ∨ i = 1 ∨ i = 2 ∨ i = 3 ∨ i = 4 ∨ i = 5 ∨ i = 6 ∨ i = 7 := by omega
  rcases hc with rfl | rfl | rfl | rfl | rfl | rfl | rfl | rfl <;> rfl
def impl_digest.f (a0 : ByteArray) : Option ByteArray := if a0.size ≤ 1000000 then some (dg.text (dg.after (dg.all a0) ((dg.all a0).size / 64)) 8) else none
def dg.G (W : World) : Prop := (∀ i : Nat, i < 8 → W.cell? ⟨0, i, none⟩ = some (.int .u32 (rd dg.start (i : Int)))) ∧ (∀ i : Nat, i < 64 → W.cell? ⟨1, i, none⟩ = some (.int .u32 (rd dg.keys (i : Int)))) ∧ 2 ≤ W.heap.size
theorem dg.G_below {w W : World} (h : dg.G w) (hb : Below w.heap.size w W) : dg.G W := ⟨fun i hi => (hb.cell (World.block_lt_of_cell? _ _ (h.1 i hi))).trans (h.1 i hi), fun i hi => (hb.cell (World.block_lt_of_cell? _ _ (h.2.1 i hi))).trans (h.2.1 i hi), Nat.le_trans h.2.2 hb.size⟩
set_option maxHeartbeats 8000000 in
set_option maxRecDepth 100000 in
theorem impl_digest.calls (a0 : ByteArray) (r : ByteArray) (w : World) (hG : dg.G w) (h : impl_digest.f a0 = some r) :
    Calls Tryd.prog 29 #[.string a0] w fun e w' => e = .returned (.string r) ∧ Below w.heap.size w w' := by
  unfold impl_digest.f at h
  by_cases hs : a0.size ≤ 1000000
  rotate_left
  · rw [if_neg hs] at h; cases h
  rw [if_pos hs] at h
  obtain rfl := Option.some.inj h
  clear h
  have g0 : w.cell? ⟨0, 0, none⟩ = some (.int .u32 1779033703) := hG.1 0 (by decide)
  have g1 : w.cell? ⟨0, 1, none⟩ = some (.int .u32 3144134277) := hG.1 1 (by decide)
  have g2 : w.cell? ⟨0, 2, none⟩ = some (.int .u32 1013904242) := hG.1 2 (by decide)
  have g3 : w.cell? ⟨0, 3, none⟩ = some (.int .u32 2773480762) := hG.1 3 (by decide)
  have g4 : w.cell? ⟨0, 4, none⟩ = some (.int .u32 1359893119) := hG.1 4 (by decide)
  have g5 : w.cell? ⟨0, 5, none⟩ = some (.int .u32 2600822924) := hG.1 5 (by decide)
  have g6 : w.cell? ⟨0, 6, none⟩ = some (.int .u32 528734635) := hG.1 6 (by decide)
  have g7 : w.cell? ⟨0, 7, none⟩ = some (.int .u32 1541459225) := hG.1 7 (by decide)
  have HG := Aside0.mk hG
  have HS := Aside0.mk hs
  clear hG hs
  go_enter Tryd.func29, Tryd.ntmps29
  have hpad : (119 - (a0.size : Int) % 64) % 64 = (dg.pad a0 : Int) := by unfold dg.pad; omega
  have hpl : dg.pad a0 < 64 := Nat.mod_lt _ (by decide)
  have HREP := Aside0.mk (show ∀ W : World, Calls Tryd.prog 56 #[.string ⟨#[0]⟩, .int .i64 (dg.pad a0 : Nat)] W fun e w' => e = .returned (.string (dg.zeros (dg.pad a0))) ∧ Below W.heap.size W w' from fun W => Tryd.strings_Repeat ⟨#[0]⟩ (dg.pad a0) W (by omega) (by show 1 * dg.pad a0 ≤ _; omega))
  have HBE := Aside0.mk (show impl_bigBytes.f 10 (8 * (a0.size : Int)) 8 = some (dg.w8b (8 * (a0.size : Int))) from dg.be8 _)
  have hm : (8 * (a0.size : Int)) % 18446744073709551616 = 8 * (a0.size : Int) := by have := HS.out; omega
  have hz := dg.zeros_size (dg.pad a0)
  have hb8 : (dg.w8b (8 * (a0.size : Int))).size = 8 := strOfNums_size _
  have HT := Aside0.mk (show dg.all a0 = ((a0 ++ ⟨#[128]⟩) ++ dg.zeros (dg.pad a0)) ++ dg.w8b (8 * (a0.size : Int)) from rfl)
  have HP := Aside0.mk hpl
  have HPD := Aside0.mk (show dg.pad a0 = (119 - a0.size % 64) % 64 from rfl)
  generalize dg.zeros (dg.pad a0) = Z at HREP hz HT
  generalize dg.w8b (8 * (a0.size : Int)) = B8 at HBE hb8 HT
  have n1 : (9223372036854775807 < a0.size + 1) = False := eq_false (by have := HS.out; omega)
  have n2 : (9223372036854775807 < a0.size + 1 + dg.pad a0) = False := eq_false (by have := HS.out; omega)
  have n3 : (9223372036854775807 < a0.size + 1 + dg.pad a0 + 8) = False := eq_false (by have := HS.out; omega)
  go_upto_block 0 with (first
    | (go_at_call 56; refine (HREP.out _).mono ?_; rintro e w1 ⟨rfl, hb⟩; have HB1 := Aside0.mk (below_step (show Below w.heap.size w _ from by repeat (first | exact Below.refl _ _ | apply below_alloc | apply pw_below_drewN | apply below_drew1)) hb); have HX1 := Aside0.mk (blk_below (blk_new w _) hb); clear hb)
    | (go_at_call 57; (with_reducible refine (impl_bigBytes.calls 10 _ 8 _ _ HBE.out).mono ?_); rintro e w2 ⟨rfl, hb⟩; have HB2 := Aside0.mk (below_step HB1.out hb); have HX2 := Aside0.mk (blk_below HX1.out hb); clear hb))
  generalize hTT : a0 ++ ⟨#[128]⟩ ++ Z ++ B8 = T at HT
  have hTs : T.size = a0.size + 1 + dg.pad a0 + 8 := by rw [← hTT]; simp only [ByteArray.size_append, hz, hb8]; rfl
  have HN := Aside0.mk (show T.size = 64 * (T.size / 64) by have := HPD.out; omega)
  have HTL := Aside0.mk (show T.size ≤ 1000200 by have := HPD.out; have := HS.out; omega)
  have HW := Aside0.mk (show w2.heap[w.heap.size]? = some (.cells (dg.cells (dg.after T 0)) 72 (0, 0)) from HX2.out)
  clear hTT hTs HX1 HX2 HB1 HREP HBE hpad hpl hm hz hb8 n1 n2 n3 HP HPD g0 g1 g2 g3 g4 g5 g6 g7
  go_wp2
  go_loopg [5] (T.size / 64) (fun gg v5 wr => ∃ i : Nat, v5 = .string (T.extract (64 * i) T.size) ∧ Aside0 (i ≤ T.size / 64) ∧ Aside0 (T.size / 64 ≤ i + gg) ∧ Aside0 (wr.heap[w.heap.size]? = some (.cells (dg.cells (dg.after T i)) 72 (0, 0))) ∧ Aside0 (Below w.heap.size w wr))
  case atStart => exact ⟨0, by rw [Nat.mul_zero, ByteArray.extract_zero_size], ⟨Nat.zero_le _⟩, ⟨by omega⟩, HW, HB2⟩
  case round =>
    clear HW HB2
    obtain ⟨i, rfl, HI, HGG, HW, HB⟩ := hrel
    by_cases hi : i < T.size / 64
    · have hRs : (T.extract (64 * i) T.size).size = T.size - 64 * i := by rw [ByteArray.size_extract]; omega
      have h1 : (T.extract (64 * i) T.size).extract 0 64 = T.extract (64 * i) (64 * i + 64) := by rw [ByteArray.extract_extract]; congr 1; have := HN.out; omega
      have h2 : (T.extract (64 * i) T.size).extract 64 (T.extract (64 * i) T.size).size = T.extract (64 * (i + 1)) T.size := by rw [ByteArray.extract_extract, hRs]; congr 1; omega
      have HST := Aside0.mk (show dg.after T (i + 1) = dg.block (dg.after T i) (T.extract (64 * i) (64 * i + 64)) from rfl)
      have H8 := Aside0.mk (dg.after_length T i)
      have hbs : (T.extract (64 * i) (64 * i + 64)).size = 64 := by rw [ByteArray.size_extract]; have := HN.out; omega
      have HBS := Aside0.mk hbs
      generalize T.extract (64 * i) (64 * i + 64) = b at h1 HST hbs HBS
      generalize dg.after T i = xs at HW HST H8
      have h64 : 64 ≤ (T.extract (64 * i) T.size).size := by rw [hRs]; have := HN.out; omega
      have HRS := Aside0.mk hRs
      generalize T.extract (64 * i) T.size = R at h1 h2 h64 hRs
      have hne : R.toList.isEmpty = false := by
        rw [ByteArray.toList_eq, List.isEmpty_eq_false_iff]; intro h; have : R.size = 0 := by rw [← ByteArray.size_data, ← Array.length_toList, h]; rfl
        omega
      have h64' : (64 : Int) ≤ (R.size : Int) := by omega
      have HLT := Aside0.mk hi
      have HH2 := Aside0.mk h2
      clear hi hRs
      go_wp2_with (go_at_call 58; (refine (impl_digestBlock.calls w.heap.size xs b _ H8.out HBS.out HW.out ⟨(dg.G_below HG.out HB.out).2.1⟩).mono ?_); rintro e w3 ⟨rfl, hh, hb⟩; have HW3 := Aside0.mk hh; have HB3 := Aside0.mk (HB.out.trans hb); clear hh hb)
      go_roundg (T.size / 64 - (i + 1))
      case measure => have := HGG.out; have := HLT.out; omega
      case rel => exact ⟨i + 1, by rw [← HH2.out], ⟨by have := HLT.out; omega⟩, ⟨by omega⟩, ⟨by rw [HST.out]; exact HW3.out⟩, HB3⟩
    · obtain rfl : i = T.size / 64 := by have := HI.out; omega
      have he : T.extract (64 * (T.size / 64)) T.size = (⟨#[]⟩ : ByteArray) := by
        rw [← HN.out, ByteArray.extract_same]; rfl
      rw [he]
      have H8 := Aside0.mk (dg.after_length T (T.size / 64))
      clear hi HGG HI
      generalize hxs : dg.after T (T.size / 64) = xs at HW H8
      have x0 : wr.cell? ⟨w.heap.size, 0, none⟩ = some (.int .u32 (rd xs 0)) := dg.blk_read HW.out 0 (by have := H8.out; omega)
      have x1 : wr.cell? ⟨w.heap.size, 1, none⟩ = some (.int .u32 (rd xs 1)) := dg.blk_read HW.out 1 (by have := H8.out; omega)
      have x2 : wr.cell? ⟨w.heap.size, 2, none⟩ = some (.int .u32 (rd xs 2)) := dg.blk_read HW.out 2 (by have := H8.out; omega)
      have x3 : wr.cell? ⟨w.heap.size, 3, none⟩ = some (.int .u32 (rd xs 3)) := dg.blk_read HW.out 3 (by have := H8.out; omega)
      have x4 : wr.cell? ⟨w.heap.size, 4, none⟩ = some (.int .u32 (rd xs 4)) := dg.blk_read HW.out 4 (by have := H8.out; omega)
      have x5 : wr.cell? ⟨w.heap.size, 5, none⟩ = some (.int .u32 (rd xs 5)) := dg.blk_read HW.out 5 (by have := H8.out; omega)
      have x6 : wr.cell? ⟨w.heap.size, 6, none⟩ = some (.int .u32 (rd xs 6)) := dg.blk_read HW.out 6 (by have := H8.out; omega)
      have x7 : wr.cell? ⟨w.heap.size, 7, none⟩ = some (.int .u32 (rd xs 7)) := dg.blk_read HW.out 7 (by have := H8.out; omega)
      have HRES := Aside0.mk (show dg.text (dg.after (dg.all a0) ((dg.all a0).size / 64)) 8 = dg.text xs 8 from by rw [HT.out, hxs])
      clear hxs he
      go_wp2
      clear x0 x1 x2 x3 x4 x5 x6 x7
      go_loopg [6, 34] 8 (fun gg v6 v34 wr => ∃ i : Nat, v6 = .string (dg.text xs i) ∧ v34 = .int .i64 (i : Int) ∧ Aside0 (i ≤ 8) ∧ Aside0 (8 ≤ i + gg) ∧ Aside0 (Below w.heap.size w wr))
      case atStart => exact ⟨0, rfl, rfl, ⟨by omega⟩, ⟨by omega⟩, HB⟩
      case round =>
        clear HB HW
        obtain ⟨i, rfl, rfl, HI, HGG, HB⟩ := hrel
        by_cases hi : i < 8
        · have hx1 : ∀ W : World, (Instr.index 72 (.agg #[.int .u32 (rd xs 0), .int .u32 (rd xs 1), .int .u32 (rd xs 2), .int .u32 (rd xs 3), .int .u32 (rd xs 4), .int .u32 (rd xs 5), .int .u32 (rd xs 6), .int .u32 (rd xs 7)]) (.int .i64 (i : Int))).run Tryd.prog W = .ok (.int .u32 (rd xs (i : Int))) W := fun W => by
            have h_ := dg.run_index (dg.init xs) i hi W
            rwa [dg.out_init xs i hi] at h_
          have hz : decide ((i : Int) < 8) = true := decide_eq_true (by omega)
          have hz' : decide (i < 8) = true := decide_eq_true hi
          have HLT := Aside0.mk hi
          have hts := dg.text_size xs i
          have HST := Aside0.mk (show dg.text xs (i + 1) = dg.text xs i ++ dg.w4b (IntKind.u64.wrap (rd xs (i : Int))) from rfl)
          generalize rd xs (i : Int) = y at hx1 HST
          have HBE := Aside0.mk (show impl_bigBytes.f 6 (IntKind.u64.wrap y) 4 = some (dg.w4b (IntKind.u64.wrap y)) from dg.be4 _)
          have hb4 : (dg.w4b (IntKind.u64.wrap y)).size = 4 := strOfNums_size _
          generalize dg.text xs i = t at hts HST
          generalize dg.w4b (IntKind.u64.wrap y) = u at HBE hb4 HST
          have n1 : (9223372036854775807 < 4 * i + 4) = False := eq_false (by omega)
          clear hi
          go_wp2_with (go_at_call 57; (with_reducible refine (impl_bigBytes.calls 6 _ 4 _ _ HBE.out).mono ?_); rintro e w2 ⟨rfl, hb⟩; have HB2 := Aside0.mk (below_step HB.out hb); clear hb)
          go_roundg (8 - (i + 1))
          case measure => have := HGG.out; have := HLT.out; omega
          case rel => exact ⟨i + 1, by rw [HST.out], by first | rfl | (have := HLT.out; rw [show wrap64 ((i : Int) + 1) = ((i + 1 : Nat) : Int) by unfold wrap64; omega]), ⟨by have := HLT.out; omega⟩, ⟨by omega⟩, HB2⟩
        · obtain rfl : i = 8 := by have := HI.out; omega
          clear hi HGG HI
          go_wp2
          go_ret
          exact ⟨by rw [HRES.out]; rfl, HB.out⟩

end Go.Proofs.YtldhjbjbjoomcaaDoor.Q
