/- An image's update keeps the number of blocks, leaves what no step writes and makes the rest of the old image; a block exclusive-ored twice comes back; for every draw. Part 6. -/
import Derived.Test.YtldhjbjbjoomcaaDoorKFnImage5
import Derived.Shelf.Strings.OnBuilder
import Derived.Shelf.Strings.Repeat
import Derived.Test.YtldhjbjbjoomcaaDoorRows
import Derived.ProofKit
import Derived.OpenShut
import Derived.ShutString
import Derived.ChangeOld
import Derived.SizedLaws
import Derived.LaidMore
import Derived.Lib.LaidTab
import Derived.Stop.LaidErr
namespace Go.Proofs
open Go.Shelf
def Tryd.lays156_ren : Go.Shelf.Ren := ⟨fun | 156 => 62 | 165 => 79 | 166 => 80 | 169 => 82 | 240 => 94 | 241 => 95 | 276 => 97 | 277 => 98 | n => n, fun | 31 => 27 | 9 => 9 | 3 => 3 | 4 => 4 | 0 => 0 | 20 => 20 | 72 => 95 | 76 => 99 | 70 => 93 | 37 => 24 | 75 => 98 | 127 => 112 | 164 => 113 | 5 => 5 | 80 => 59 | n => n, fun | n => n⟩
theorem Tryd.lays156 : Go.Proofs.Lays.n156 Tryd.prog Tryd.lays156_ren := {
  mixed := by kernel_rfl
  f156 := Tryd.func62.trans (congrArg some (by kernel_rfl))
  f165 := Tryd.func79.trans (congrArg some (by kernel_rfl))
  f166 := Tryd.func80.trans (congrArg some (by kernel_rfl))
  f169 := Tryd.func82.trans (congrArg some (by kernel_rfl))
  f240 := Tryd.func94.trans (congrArg some (by kernel_rfl))
  f241 := Tryd.func95.trans (congrArg some (by kernel_rfl))
  f276 := Tryd.func97.trans (congrArg some (by kernel_rfl))
  f277 := Tryd.func98.trans (congrArg some (by kernel_rfl))
  t0 := Tryd.underlying0
  a0 := Tryd.isAgg0
  z0 := Tryd.sizeOf0
  v0 := Tryd.zeroValue0
  t3 := Tryd.underlying3
  a3 := Tryd.isAgg3
  z3 := Tryd.sizeOf3
  v3 := Tryd.zeroValue3
  t4 := Tryd.underlying4
  a4 := Tryd.isAgg4
  z4 := Tryd.sizeOf4
  v4 := Tryd.zeroValue4
  t9 := Tryd.underlying9
  a9 := Tryd.isAgg9
  z9 := Tryd.sizeOf9
  v9 := Tryd.zeroValue9
  t20 := Tryd.underlying20
  a20 := Tryd.isAgg20
  z20 := Tryd.sizeOf20
  v20 := Tryd.zeroValue20
  t31 := Tryd.underlying27
  a31 := Tryd.isAgg27
  z31 := Tryd.sizeOf27
  v31 := Tryd.zeroValue27
  t37 := Tryd.underlying24
  a37 := Tryd.isAgg24
  z37 := Tryd.sizeOf24
  v37 := Tryd.zeroValue24
  t70 := Tryd.underlying93
  a70 := Tryd.isAgg93
  z70 := Tryd.sizeOf93
  v70 := Tryd.zeroValue93
  t72 := Tryd.underlying95
  a72 := Tryd.isAgg95
  z72 := Tryd.sizeOf95
  v72 := Tryd.zeroValue95
  t75 := Tryd.underlying98
  a75 := Tryd.isAgg98
  z75 := Tryd.sizeOf98
  v75 := Tryd.zeroValue98
  t76 := Tryd.underlying99
  a76 := Tryd.isAgg99
  z76 := Tryd.sizeOf99
  v76 := Tryd.zeroValue99
  t127 := Tryd.underlying112
  a127 := Tryd.isAgg112
  z127 := Tryd.sizeOf112
  v127 := Tryd.zeroValue112
  t164 := Tryd.underlying113
  a164 := Tryd.isAgg113
  z164 := Tryd.sizeOf113
  v164 := Tryd.zeroValue113 }
theorem Tryd.Builder_Extra_156 : Builder.Extra Tryd.prog Tryd.lays156_ren := {
  sizeBuilder := by kernel_rfl
  liesBuilder := by kernel_rfl
  t5 := Tryd.underlying5
  a5 := Tryd.isAgg5
  z5 := Tryd.sizeOf5
  v5 := Tryd.zeroValue5
  infoByte := by kernel_rfl
  cellsByte := by kernel_rfl
  sizeByte := by kernel_rfl
  neB5 := by decide }
open Go.RowKit in
theorem Tryd.strings_Join (bk o c : Nat) (xs : List ByteArray) (sep : ByteArray) (w : World) (hcells : ∀ (j : Nat) x, xs[j]? = some x → w.cell? ⟨bk, o + j, none⟩ = some (.string x)) (hbk : bk < w.heap.size) (hN : xs.length ≤ 140737488355328) (hcap : xs.length ≤ c) (hlen : (Lib.join (xs.map (·.data.toList)) sep.data.toList).length ≤ 140737488355328) :
    Calls Tryd.prog 62 #[.slice (some ⟨bk, o, none⟩) xs.length c, .string sep] w fun e w' => e = .returned (.string ⟨(Lib.join (xs.map (·.data.toList)) sep.data.toList).toArray⟩) ∧ Below w.heap.size w w' := Any.strings_Join Tryd.lays156 Tryd.Builder_Extra_156 bk o c xs sep w hcells hbk hN hcap hlen
def Tryd.lays105_ren : Go.Shelf.Ren := ⟨fun | 105 => 56 | 212 => 77 | 99 => 78 | 165 => 79 | 166 => 80 | 170 => 81 | 169 => 82 | 263 => 91 | 264 => 92 | 206 => 93 | 240 => 94 | 241 => 95 | 276 => 97 | 277 => 98 | n => n, fun | 9 => 9 | 3 => 3 | 4 => 4 | 20 => 20 | 0 => 0 | 46 => 67 | 109 => 90 | 5 => 5 | 72 => 95 | 76 => 99 | 51 => 71 | 146 => 108 | 53 => 66 | 148 => 110 | 70 => 93 | 37 => 24 | 75 => 98 | 127 => 112 | 164 => 113 | 80 => 59 | n => n, fun | n => n⟩
theorem Tryd.lays105 : Go.Proofs.Lays.n105 Tryd.prog Tryd.lays105_ren := {
  mixed := by kernel_rfl
  f99 := Tryd.func78.trans (congrArg some (by kernel_rfl))
  f105 := Tryd.func56.trans (congrArg some (by kernel_rfl))
  f165 := Tryd.func79.trans (congrArg some (by kernel_rfl))
  f166 := Tryd.func80.trans (congrArg some (by kernel_rfl))
  f169 := Tryd.func82.trans (congrArg some (by kernel_rfl))
  f170 := Tryd.func81.trans (congrArg some (by kernel_rfl))
  f206 := Tryd.func93.trans (congrArg some (by kernel_rfl))
  f212 := Tryd.func77.trans (congrArg some (by kernel_rfl))
  f240 := Tryd.func94.trans (congrArg some (by kernel_rfl))
  f241 := Tryd.func95.trans (congrArg some (by kernel_rfl))
  f263 := Tryd.func91.trans (congrArg some (by kernel_rfl))
  f264 := Tryd.func92.trans (congrArg some (by kernel_rfl))
  f276 := Tryd.func97.trans (congrArg some (by kernel_rfl))
  f277 := Tryd.func98.trans (congrArg some (by kernel_rfl))
  t0 := Tryd.underlying0
  a0 := Tryd.isAgg0
  z0 := Tryd.sizeOf0
  v0 := Tryd.zeroValue0
  t3 := Tryd.underlying3
  a3 := Tryd.isAgg3
  z3 := Tryd.sizeOf3
  v3 := Tryd.zeroValue3
  t4 := Tryd.underlying4
  a4 := Tryd.isAgg4
  z4 := Tryd.sizeOf4
  v4 := Tryd.zeroValue4
  t5 := Tryd.underlying5
  a5 := Tryd.isAgg5
  z5 := Tryd.sizeOf5
  v5 := Tryd.zeroValue5
  t9 := Tryd.underlying9
  a9 := Tryd.isAgg9
  z9 := Tryd.sizeOf9
  v9 := Tryd.zeroValue9
  t20 := Tryd.underlying20
  a20 := Tryd.isAgg20
  z20 := Tryd.sizeOf20
  v20 := Tryd.zeroValue20
  t37 := Tryd.underlying24
  a37 := Tryd.isAgg24
  z37 := Tryd.sizeOf24
  v37 := Tryd.zeroValue24
  t46 := Tryd.underlying67
  a46 := Tryd.isAgg67
  z46 := Tryd.sizeOf67
  v46 := Tryd.zeroValue67
  t51 := Tryd.underlying71
  a51 := Tryd.isAgg71
  z51 := Tryd.sizeOf71
  v51 := Tryd.zeroValue71
  t53 := Tryd.underlying66
  a53 := Tryd.isAgg66
  z53 := Tryd.sizeOf66
  v53 := Tryd.zeroValue66
  t70 := Tryd.underlying93
  a70 := Tryd.isAgg93
  z70 := Tryd.sizeOf93
  v70 := Tryd.zeroValue93
  t72 := Tryd.underlying95
  a72 := Tryd.isAgg95
  z72 := Tryd.sizeOf95
  v72 := Tryd.zeroValue95
  t75 := Tryd.underlying98
  a75 := Tryd.isAgg98
  z75 := Tryd.sizeOf98
  v75 := Tryd.zeroValue98
  t76 := Tryd.underlying99
  a76 := Tryd.isAgg99
  z76 := Tryd.sizeOf99
  v76 := Tryd.zeroValue99
  t109 := Tryd.underlying90
  a109 := Tryd.isAgg90
  z109 := Tryd.sizeOf90
  v109 := Tryd.zeroValue90
  t127 := Tryd.underlying112
  a127 := Tryd.isAgg112
  z127 := Tryd.sizeOf112
  v127 := Tryd.zeroValue112
  t146 := Tryd.underlying108
  a146 := Tryd.isAgg108
  z146 := Tryd.sizeOf108
  v146 := Tryd.zeroValue108
  t148 := Tryd.underlying110
  a148 := Tryd.isAgg110
  z148 := Tryd.sizeOf110
  v148 := Tryd.zeroValue110
  t164 := Tryd.underlying113
  a164 := Tryd.isAgg113
  z164 := Tryd.sizeOf113
  v164 := Tryd.zeroValue113 }
theorem Tryd.Builder_Extra_105 : Builder.Extra Tryd.prog Tryd.lays105_ren := {
  sizeBuilder := by kernel_rfl
  liesBuilder := by kernel_rfl
  t5 := Tryd.underlying5
  a5 := Tryd.isAgg5
  z5 := Tryd.sizeOf5
  v5 := Tryd.zeroValue5
  infoByte := by kernel_rfl
  cellsByte := by kernel_rfl
  sizeByte := by kernel_rfl
  neB5 := by decide }
open Go.RowKit Go.Lib in
theorem Tryd.strings_Repeat (s : ByteArray) (c : Nat) (w : World) (hc : c ≤ 9223372036854775807) (hlen : s.size * c ≤ 140737488355328) :
    Calls Tryd.prog 56 #[.string s, .int .i64 c] w fun e w' => e = .returned (.string ⟨(Lib.repeatL s.data.toList c).toArray⟩) ∧ Below w.heap.size w w' := Any.strings_Repeat Tryd.lays105 Tryd.Builder_Extra_105 s c w hc hlen
end Go.Proofs
namespace Go.Proofs.YtldhjbjbjoomcaaDoor.Q
open Go.RowKit Go.Proofs.YtldhjbjbjoomcaaDoorW.PrintWords Go.Proofs.YtldhjbjbjoomcaaDoorW.PrintLast Go.Proofs.YtldhjbjbjoomcaaDoorW.PrintMore
attribute [local go_sem] max2_int min2_int max_two min_two max_three min_three max_four min_four Instr.field asAgg
set_option linter.unusedVariables false
set_option linter.unusedSimpArgs false
def dg.start : List Int := [1779033703, 3144134277, 1013904242, 2773480762, 1359893119, 2600822924, 528734635, 1541459225]
theorem dg.be4 (n : Int) : impl_bigBytes.f 6 n 4 = some (strOfNums [n / 256 / 256 / 256 % 256, n / 256 / 256 % 256, n / 256 % 256, n % 256]) := by
  simp [impl_bigBytes.f, impl_bigBytes.l0, wrap64]
theorem dg.be8 (n : Int) : impl_bigBytes.f 10 n 8 = some (strOfNums [n / 256 / 256 / 256 / 256 / 256 / 256 / 256 % 256, n / 256 / 256 / 256 / 256 / 256 / 256 % 256, n / 256 / 256 / 256 / 256 / 256 % 256, n / 256 / 256 / 256 / 256 % 256, n / 256 / 256 / 256 % 256, n / 256 / 256 % 256, n / 256 % 256, n % 256]) := by
  simp [impl_bigBytes.f, impl_bigBytes.l0, wrap64]
def dg.w4b (n : Int) : ByteArray := strOfNums [n / 256 / 256 / 256 % 256, n / 256 / 256 % 256, n / 256 % 256, n % 256]
def dg.w8b (n : Int) : ByteArray := strOfNums [n / 256 / 256 / 256 / 256 / 256 / 256 / 256 % 256, n / 256 / 256 / 256 / 256 / 256 / 256 % 256, n / 256 / 256 / 256 / 256 / 256 % 256, n / 256 / 256 / 256 / 256 % 256, n / 256 / 256 / 256 % 256, n / 256 / 256 % 256, n / 256 % 256, n % 256]
def dg.zeros (n : Nat) : ByteArray := ⟨(Lib.repeatL (⟨#[0]⟩ : ByteArray).data.toList n).toArray⟩
theorem dg.zeros_size (n : Nat) : (dg.zeros n).size = n := by
  have h := Lib.repeatL_length (⟨#[0]⟩ : ByteArray).data.toList n
  show (Lib.repeatL _ n).toArray.size = n
  rw [List.size_toArray, h]
  simp
def dg.pad (s : ByteArray) : Nat := (119 - s.size % 64) % 64
def dg.all (s : ByteArray) : ByteArray := ((s ++ ⟨#[128]⟩) ++ dg.zeros (dg.pad s)) ++ dg.w8b (8 * (s.size : Int))
def dg.after (t : ByteArray) : Nat → List Int
  | 0 => dg.start
  | i + 1 => dg.block (dg.after t i) (t.extract (64 * i) (64 * i + 64))
theorem dg.block_length (xs : List Int) (b : ByteArray) : (dg.block xs b).length = xs.length := dg.add_length _ _ _
theorem dg.after_length (t : ByteArray) : ∀ i, (dg.after t i).length = 8
  | 0 => rfl
  | i + 1 => by rw [dg.after, dg.block_length]; exact dg.after_length t i
def dg.text (xs : List Int) : Nat → ByteArray
  | 0 => ⟨#[]⟩
  | i + 1 => dg.text xs i ++ dg.w4b (IntKind.u64.wrap (rd xs (i : Int)))
theorem dg.text_size (xs : List Int) : ∀ i, (dg.text xs i).size = 4 * i
  | 0 => rfl
  | i + 1 => by rw [dg.text, ByteArray.size_append, dg.text_size xs i]; have : (dg.w4b (IntKind.u64.wrap (rd xs (i : Int)))).size = 4 := strOfNums_size _; omega
theorem dg.out_init (xs : List Int) (i : Nat) (hi : i < 8) : rd (dg.out (dg.init xs)) (i : Int) = rd xs (i : Int) := by
  have hc : i = 0 ∨ i = 1 ∨ i = 2 ∨ i = 3 ∨ i = 4 ∨ i = 5 ∨ i = 6 ∨ i = 7 := by omega
  rcases hc with rfl | rfl | rfl | rfl | rfl | rfl | rfl | rfl <;> rfl
def impl_digest.f (a0 : ByteArray) : Option ByteArray := if a0.size ≤ 1000000 then some (dg.text (dg.after (dg.all a0) ((dg.all a0).size / 64)) 8) else none
def dg.G (W : World) : Prop := (∀ i : Nat, i < 8 → W.cell? ⟨0, i, none⟩ = some (.int .u32 (rd dg.start (i : Int)))) ∧ (∀ i : Nat, i < 64 → W.cell? ⟨1, i, none⟩ = some (.int .u32 (rd dg.keys (i : Int)))) ∧ 2 ≤ W.heap.size
theorem dg.G_below {w W : World} (h : dg.G w) (hb : Below w.heap.size w W) : dg.G W := ⟨fun i hi => (hb.cell (World.block_lt_of_cell? _ _ (h.1 i hi))).trans (h.1 i hi), fun i hi => (hb.cell (World.block_lt_of_cell? _ _ (h.2.1 i hi))).trans (h.2.1 i hi), Nat.le_trans h.2.2 hb.size⟩
set_option maxHeartbeats 8000000 in
set_option maxRecDepth 100000 in
theorem impl_digest.calls (a0 : ByteArray) (r : ByteArray) (w : World) (hG : dg.G w) (h : impl_digest.f a0 = some r) :
    Calls Tryd.prog 29 #[.string a0] w fun e w' => e = .returned (.string r) ∧ Below w.heap.size w w' := by
  unfold impl_digest.f at h
  by_cases hs : a0.size ≤ 1000000
  rotate_left
  · rw [if_neg hs] at h; cases h
  rw [if_pos hs] at h
  obtain rfl := Option.some.inj h
  clear h
  have g0 : w.cell? ⟨0, 0, none⟩ = some (.int .u32 1779033703) := hG.1 0 (by decide)
  have g1 : w.cell? ⟨0, 1, none⟩ = some (.int .u32 3144134277) := hG.1 1 (by decide)
  have g2 : w.cell? ⟨0, 2, none⟩ = some (.int .u32 1013904242) := hG.1 2 (by decide)
  have g3 : w.cell? ⟨0, 3, none⟩ = some (.int .u32 2773480762) := hG.1 3 (by decide)
  have g4 : w.cell? ⟨0, 4, none⟩ = some (.int .u32 1359893119) := hG.1 4 (by decide)
  have g5 : w.cell? ⟨0, 5, none⟩ = some (.int .u32 2600822924) := hG.1 5 (by decide)
  have g6 : w.cell? ⟨0, 6, none⟩ = some (.int .u32 528734635) := hG.1 6 (by decide)
  have g7 : w.cell? ⟨0, 7, none⟩ = some (.int .u32 1541459225) := hG.1 7 (by decide)
  have HG := Aside0.mk hG
  have HS := Aside0.mk hs
  clear hG hs
  go_enter Tryd.func29, Tryd.ntmps29
  have hpad : (119 - (a0.size : Int) % 64) % 64 = (dg.pad a0 : Int) := by unfold dg.pad; omega
  have hpl : dg.pad a0 < 64 := Nat.mod_lt _ (by decide)
  have HREP := Aside0.mk (show ∀ W : World, Calls Tryd.prog 56 #[.string ⟨#[0]⟩, .int .i64 (dg.pad a0 : Nat)] W fun e w' => e = .returned (.string (dg.zeros (dg.pad a0))) ∧ Below W.heap.size W w' from fun W => Tryd.strings_Repeat ⟨#[0]⟩ (dg.pad a0) W (by omega) (by show 1 * dg.pad a0 ≤ _; omega))
  have HBE := Aside0.mk (show impl_bigBytes.f 10 (8 * (a0.size : Int)) 8 = some (dg.w8b (8 * (a0.size : Int))) from dg.be8 _)
  have hm : (8 * (a0.size : Int)) % 18446744073709551616 = 8 * (a0.size : Int) := by have := HS.out; omega
  have hz := dg.zeros_size (dg.pad a0)
  have hb8 : (dg.w8b (8 * (a0.size : Int))).size = 8 := strOfNums_size _
  have HT := Aside0.mk (show dg.all a0 = ((a0 ++ ⟨#[128]⟩) ++ dg.zeros (dg.pad a0)) ++ dg.w8b (8 * (a0.size : Int)) from rfl)
  have HP := Aside0.mk hpl
  have HPD := Aside0.mk (show dg.pad a0 = (119 - a0.size % 64) % 64 from rfl)
  generalize dg.zeros (dg.pad a0) = Z at HREP hz HT
  generalize dg.w8b (8 * (a0.size : Int)) = B8 at HBE hb8 HT
  have n1 : (9223372036854775807 < a0.size + 1) = False := eq_false (by have := HS.out; omega)
  have n2 : (9223372036854775807 < a0.size + 1 + dg.pad a0) = False := eq_false (by have := HS.out; omega)
  have n3 : (9223372036854775807 < a0.size + 1 + dg.pad a0 + 8) = False := eq_false (by have := HS.out; omega)
  go_upto_block 0 with (first
    | (go_at_call 56; refine (HREP.out _).mono ?_; rintro e w1 ⟨rfl, hb⟩; have HB1 := Aside0.mk (below_step (show Below w.heap.size w _ from by repeat (first | exact Below.refl _ _ | apply below_alloc | apply pw_below_drewN | apply below_drew1)) hb); have HX1 := Aside0.mk (blk_below (blk_new w _) hb); clear hb)
    | (go_at_call 57; (with_reducible refine (impl_bigBytes.calls 10 _ 8 _ _ HBE.out).mono ?_); rintro e w2 ⟨rfl, hb⟩; have HB2 := Aside0.mk (below_step HB1.out hb); have HX2 := Aside0.mk (blk_below HX1.out hb); clear hb))
  generalize hTT : a0 ++ ⟨#[128]⟩ ++ Z ++ B8 = T at HT
  have hTs : T.size = a0.size + 1 + dg.pad a0 + 8 := by rw [← hTT]; simp only [ByteArray.size_append, hz, hb8]; rfl
  have HN := Aside0.mk (show T.size = 64 * (T.size / 64) by have := HPD.out; omega)
  have HTL := Aside0.mk (show T.size ≤ 1000200 by have := HPD.out; have := HS.out; omega)
  have HW := Aside0.mk (show w2.heap[w.heap.size]? = some (.cells (dg.cells (dg.after T 0)) 72 (0, 0)) from HX2.out)
  clear hTT hTs HX1 HX2 HB1 HREP HBE hpad hpl hm hz hb8 n1 n2 n3 HP HPD g0 g1 g2 g3 g4 g5 g6 g7
  go_wp2
  go_loopg [5] (T.size / 64) (fun gg v5 wr => ∃ i : Nat, v5 = .string (T.extract (64 * i) T.size) ∧ Aside0 (i ≤ T.size / 64) ∧ Aside0 (T.size / 64 ≤ i + gg) ∧ Aside0 (wr.heap[w.heap.size]? = some (.cells (dg.cells (dg.after T i)) 72 (0, 0))) ∧ Aside0 (Below w.heap.size w wr))
  case atStart => exact ⟨0, by rw [Nat.mul_zero, ByteArray.extract_zero_size], ⟨Nat.zero_le _⟩, ⟨by omega⟩, HW, HB2⟩
  case round =>
    clear HW HB2
    obtain ⟨i, rfl, HI, HGG, HW, HB⟩ := hrel
    by_cases hi : i < T.size / 64
    · have hRs : (T.extract (64 * i) T.size).size = T.size - 64 * i := by rw [ByteArray.size_extract]; omega
      have h1 : (T.extract (64 * i) T.size).extract 0 64 = T.extract (64 * i) (64 * i + 64) := by rw [ByteArray.extract_extract]; congr 1; have := HN.out; omega
      have h2 : (T.extract (64 * i) T.size).extract 64 (T.extract (64 * i) T.size).size = T.extract (64 * (i + 1)) T.size := by rw [ByteArray.extract_extract, hRs]; congr 1; omega
      have HST := Aside0.mk (show dg.after T (i + 1) = dg.block (dg.after T i) (T.extract (64 * i) (64 * i + 64)) from rfl)
      have H8 := Aside0.mk (dg.after_length T i)
      have hbs : (T.extract (64 * i) (64 * i + 64)).size = 64 := by rw [ByteArray.size_extract]; have := HN.out; omega
      have HBS := Aside0.mk hbs
      generalize T.extract (64 * i) (64 * i + 64) = b at h1 HST hbs HBS
      generalize dg.after T i = xs at HW HST H8
      have h64 : 64 ≤ (T.extract (64 * i) T.size).size := by rw [hRs]; have := HN.out; omega
      have HRS := Aside0.mk hRs
      generalize T.extract (64 * i) T.size = R at h1 h2 h64 hRs
      have hne : R.toList.isEmpty = false := by
        rw [ByteArray.toList_eq, List.isEmpty_eq_false_iff]; intro h; have : R.size = 0 := by rw [← ByteArray.size_data, ← Array.length_toList, h]; rfl
        omega
      have h64' : (64 : Int) ≤ (R.size : Int) := by omega
      have HLT := Aside0.mk hi
      have HH2 := Aside0.mk h2
      clear hi hRs
      go_wp2_with (go_at_call 58; (refine (impl_digestBlock.calls w.heap.size xs b _ H8.out HBS.out HW.out ⟨(dg.G_below HG.out HB.out).2.1⟩).mono ?_); rintro e w3 ⟨rfl, hh, hb⟩; have HW3 := Aside0.mk hh; have HB3 := Aside0.mk (HB.out.trans hb); clear hh hb)
      go_roundg (T.size / 64 - (i + 1))
      case measure => have := HGG.out; have := HLT.out; omega
      case rel => exact ⟨i + 1, by rw [← HH2.out], ⟨by have := HLT.out; omega⟩, ⟨by omega⟩, ⟨by rw [HST.out]; exact HW3.out⟩, HB3⟩
    · obtain rfl : i = T.size / 64 := by have := HI.out; omega
      have he : T.extract (64 * (T.size / 64)) T.size = (⟨#[]⟩ : ByteArray) := by
        rw [← HN.out, ByteArray.extract_same]; rfl
      rw [he]
      have H8 := Aside0.mk (dg.after_length T (T.size / 64))
      clear hi HGG HI
      generalize hxs : dg.after T (T.size / 64) = xs at HW H8
      have x0 : wr.cell? ⟨w.heap.size, 0, none⟩ = some (.int .u32 (rd xs 0)) := dg.blk_read HW.out 0 (by have := H8.out; omega)
      have x1 : wr.cell? ⟨w.heap.size, 1, none⟩ = some (.int .u32 (rd xs 1)) := dg.blk_read HW.out 1 (by have := H8.out; omega)
      have x2 : wr.cell? ⟨w.heap.size, 2, none⟩ = some (.int .u32 (rd xs 2)) := dg.blk_read HW.out 2 (by have := H8.out; omega)
      have x3 : wr.cell? ⟨w.heap.size, 3, none⟩ = some (.int .u32 (rd xs 3)) := dg.blk_read HW.out 3 (by have := H8.out; omega)
      have x4 : wr.cell? ⟨w.heap.size, 4, none⟩ = some (.int .u32 (rd xs 4)) := dg.blk_read HW.out 4 (by have := H8.out; omega)
      have x5 : wr.cell? ⟨w.heap.size, 5, none⟩ = some (.int .u32 (rd xs 5)) := dg.blk_read HW.out 5 (by have := H8.out; omega)
      have x6 : wr.cell? ⟨w.heap.size, 6, none⟩ = some (.int .u32 (rd xs 6)) := dg.blk_read HW.out 6 (by have := H8.out; omega)
      have x7 : wr.cell? ⟨w.heap.size, 7, none⟩ = some (.int .u32 (rd xs 7)) := dg.blk_read HW.out 7 (by have := H8.out; omega)
      have HRES := Aside0.mk (show dg.text (dg.after (dg.all a0) ((dg.all a0).size / 64)) 8 = dg.text xs 8 from by rw [HT.out, hxs])
      clear hxs he
      go_wp2
      clear x0 x1 x2 x3 x4 x5 x6 x7
      go_loopg [6, 34] 8 (fun gg v6 v34 wr => ∃ i : Nat, v6 = .string (dg.text xs i) ∧ v34 = .int .i64 (i : Int) ∧ Aside0 (i ≤ 8) ∧ Aside0 (8 ≤ i + gg) ∧ Aside0 (Below w.heap.size w wr))
      case atStart => exact ⟨0, rfl, rfl, ⟨by omega⟩, ⟨by omega⟩, HB⟩
      case round =>
        clear HB HW
        obtain ⟨i, rfl, rfl, HI, HGG, HB⟩ := hrel
        by_cases hi : i < 8
        · have hx1 : ∀ W : World, (Instr.index 72 (.agg #[.int .u32 (rd xs 0), .int .u32 (rd xs 1), .int .u32 (rd xs 2), .int .u32 (rd xs 3), .int .u32 (rd xs 4), .int .u32 (rd xs 5), .int .u32 (rd xs 6), .int .u32 (rd xs 7)]) (.int .i64 (i : Int))).run Tryd.prog W = .ok (.int .u32 (rd xs (i : Int))) W := fun W => by
            have h_ := dg.run_index (dg.init xs) i hi W
            rwa [dg.out_init xs i hi] at h_
          have hz : decide ((i : Int) < 8) = true := decide_eq_true (by omega)
          have hz' : decide (i < 8) = true := decide_eq_true hi
          have HLT := Aside0.mk hi
          have hts := dg.text_size xs i
          have HST := Aside0.mk (show dg.text xs (i + 1) = dg.text xs i ++ dg.w4b (IntKind.u64.wrap (rd xs (i : Int))) from rfl)
          generalize rd xs (i : Int) = y at hx1 HST
          have HBE := Aside0.mk (show impl_bigBytes.f 6 (IntKind.u64.wrap y) 4 = some (dg.w4b (IntKind.u64.wrap y)) from dg.be4 _)
          have hb4 : (dg.w4b (IntKind.u64.wrap y)).size = 4 := strOfNums_size _
          generalize dg.text xs i = t at hts HST
          generalize dg.w4b (IntKind.u64.wrap y) = u at HBE hb4 HST
          have n1 : (9223372036854775807 < 4 * i + 4) = False := eq_false (by omega)
          clear hi
          go_wp2_with (go_at_call 57; (with_reducible refine (impl_bigBytes.calls 6 _ 4 _ _ HBE.out).mono ?_); rintro e w2 ⟨rfl, hb⟩; have HB2 := Aside0.mk (below_step HB.out hb); clear hb)
          go_roundg (8 - (i + 1))
          case measure => have := HGG.out; have := HLT.out; omega
          case rel => exact ⟨i + 1, by rw [HST.out], by first | rfl | (have := HLT.out; rw [show wrap64 ((i : Int) + 1) = ((i + 1 : Nat) : Int) by unfold wrap64; omega]), ⟨by have := HLT.out; omega⟩, ⟨by omega⟩, HB2⟩
        · obtain rfl : i = 8 := by have := HI.out; omega
          clear hi HGG HI
          go_wp2
          go_ret
          exact ⟨by rw [HRES.out]; rfl, HB.out⟩
def dg.Bw (base : Nat) (W : World) (v : Value) (xs : List Int) : Prop :=
  ∃ g cap, v = .slice (some ⟨g, 0, none⟩) xs.length cap ∧ base ≤ g ∧ xs.length ≤ cap ∧ (∀ j x, xs[j]? = some x → W.cell? ⟨g, j, none⟩ = some (.int .u8 x)) ∧ (∀ j, j < cap → (W.cell? ⟨g, j, none⟩).isSome = true ∧ W.frozen? ⟨g, j, none⟩ = false) ∧ g < W.heap.size
theorem dg.frozen_below {B : Nat} {w w' : World} (h : Below B w w') {a : Addr} (ha : a.block < B) : w'.frozen? a = w.frozen? a := by
  unfold World.frozen?; rw [h.block _ ha]
theorem dg.Bw_below {base : Nat} {W W' : World} {v : Value} {xs : List Int} (h : dg.Bw base W v xs) (hb : Below W.heap.size W W') : dg.Bw base W' v xs := by
  obtain ⟨g, cap, rfl, h1, h2, h3, h4, h5⟩ := h
  refine ⟨g, cap, rfl, h1, h2, fun j x hx => ?_, fun j hj => ?_, Nat.lt_of_lt_of_le h5 hb.size⟩
  · rw [hb.cell (show (⟨g, j, none⟩ : Addr).block < _ from h5)]; exact h3 j x hx
  · rw [hb.cell (show (⟨g, j, none⟩ : Addr).block < _ from h5), dg.frozen_below hb (show (⟨g, j, none⟩ : Addr).block < _ from h5)]; exact h4 j hj
theorem dg.Bw_own {base n : Nat} {W : World} {v : Value} {xs : List Int} (h : W.ownsRow base 5 1 v n (nums .u8 xs)) (hn : 0 < n) : dg.Bw base W v xs := by
  have hl : xs.length = n := by have := h.1; rw [nums_length] at this; omega
  rcases h.2 with ⟨_, h0⟩ | ⟨g, cap, cur, rfl, h1, h2, h3, h4, h5, h6⟩
  · omega
  rw [Nat.mul_one] at h5 h6
  refine ⟨g, cap, by rw [hl], h1, by omega, fun j x hx => ?_, fun j hj => ?_, ?_⟩
  · have hj : j < xs.length := by
      rcases Nat.lt_or_ge j xs.length with h | h
      · exact h
      · rw [List.getElem?_eq_none h] at hx; cases hx
    have := h.cells (g := g) rfl j (.int .u8 x) (by simp [nums, hx])
    have ha : (⟨g, 0, none⟩ : Addr).add j = ⟨g, j, none⟩ := by unfold Addr.add; split <;> simp_all
    rwa [ha] at this
  · constructor
    · simp [World.cell?, h2, show j < cur.size by omega]
    · simp [World.frozen?, h2]
  · exact (Array.getElem?_eq_some_iff.mp h2).1
theorem dg.below_grown {base : Nat} {W w' : World} (h : W.grownBy w' none) (hb : base ≤ W.heap.size) : Below base W w' := (Below.refl base W).grown h hb (fun k hk => by cases hk)
theorem dg.below_set {base g : Nat} (hg : base ≤ g) : ∀ (vs : List Value) (o : Nat) (W : World), Below base W (W.setCells g o vs) := by
  intro vs
  induction vs with
  | nil => intro o W; exact Below.refl _ _
  | cons v vs ih => intro o W; exact Below.trans ((Below.refl base W).setCell (p := ⟨g, o, none⟩) hg v) (ih _ _)
theorem dg.append_b {ops : Array Oper} {rest : List Oper} {o : Oper} {a : Act} {Q : Exit → Act → World → Prop} {W : World} (base : Nat) (hbs : base ≤ W.heap.size) (hg : o.guard = none) (s x : Operand)
    (hop : o.op = Op.call { callee := Callee.builtin Builtin.append, args := #[s, x], argTypes := #[24, 24] }) (xs ys : List Int) (m c : Nat) (cs : Array Value) (hcs : cs = (nums .u8 ys).toArray) (hm : ys.length = m)
    (hxs : dg.Bw base W (a.eval s) xs) (hx : a.eval x = .slice (some ⟨W.heap.size, 0, none⟩) m c) (hn : xs.length + m ≤ 2000000) (h0 : 0 < m)
    (hK : ∀ v' w', dg.Bw base w' v' (xs ++ ys) → Below base W w' → wpList Tryd.prog ops Q rest (a.put o.dst v') w') : wpList Tryd.prog ops Q (o :: rest) a (W.alloc (.cells cs 5)) := by
  subst hcs
  obtain ⟨g, cap, hv, h1, h2, h3, h4, h5⟩ := hxs
  have hB : Below W.heap.size W (W.alloc (.cells (nums .u8 ys).toArray 5)) := below_alloc (Below.refl _ _) _
  have hcg : ∀ j, (W.alloc (.cells (nums .u8 ys).toArray 5)).cell? ⟨g, j, none⟩ = W.cell? ⟨g, j, none⟩ := fun j => hB.cell (show (⟨g, j, none⟩ : Addr).block < _ from h5)
  have hfg : ∀ j, (W.alloc (.cells (nums .u8 ys).toArray 5)).frozen? ⟨g, j, none⟩ = W.frozen? ⟨g, j, none⟩ := fun j => dg.frozen_below hB (show (⟨g, j, none⟩ : Addr).block < _ from h5)
  have hnl : (nums .u8 ys).length = m := by rw [nums_length, hm]
  have hadd : ∀ j, (⟨g, 0 + j, none⟩ : Addr) = ⟨g, j, none⟩ := fun j => by rw [Nat.zero_add]
  obtain ⟨ti, ht1, ht2⟩ := Option.map_eq_some_iff.mp info5
  injection ht2 with hz1 ht3
  injection ht3 with hz2 hz3
  refine wpList_append_arg (W.alloc (.cells (nums .u8 ys).toArray 5)) hg s x 24 hop 5 ti (.int .u8 0) 1 1 Tryd.underlying24 ht1 hz1 hz2 hz3 rfl (by decide) g 0 xs.length cap (nums .u8 xs) hv ?_ ?_ ⟨W.heap.size, 0, none⟩ m c (nums .u8 ys) hx ?_ ?_ ?_ ?_ ?_ ?_ ?_ ?_
  · rw [nums_length, Nat.mul_one]
  · intro j u hj
    rw [hadd, hcg]
    have hjl : j < xs.length := by
      rcases Nat.lt_or_ge j xs.length with h | h
      · exact h
      · rw [List.getElem?_eq_none (by rw [nums_length]; exact h)] at hj; cases hj
    obtain rfl : Value.int .u8 xs[j] = u := by simpa [nums, hjl] using hj
    exact h3 j _ (List.getElem?_eq_getElem hjl)
  · rw [hnl, Nat.mul_one]
  · intro j u hj
    have ha : (⟨W.heap.size, 0, none⟩ : Addr).add j = ⟨W.heap.size, j, none⟩ := by unfold Addr.add; split <;> simp_all
    rw [ha]
    exact (blk_cell (cs := (nums .u8 ys).toArray) (t := 5) (blk_new W _) j).trans (by simpa using hj)
  · intro u hu
    obtain ⟨y, _, rfl⟩ := List.mem_map.mp hu
    rfl
  · intro hr j hj
    rw [Nat.zero_add, Nat.mul_one, hcg, hfg]
    exact h4 _ (by omega)
  · have : maxLen = 9223372036854775807 := rfl
    omega
  · omega
  · intro hr
    refine hK _ _ ⟨g, cap, by rw [List.length_append, hm], h1, by rw [List.length_append, hm]; exact hr, fun j x hj => ?_, fun j hj => ?_, ?_⟩ ?_
    · rw [Nat.zero_add, Nat.mul_one]
      by_cases hjl : j < xs.length
      · rw [World.cell?_setCells_out g _ _ _ _ (fun _ _ => Or.inl hjl), hcg]
        rw [List.getElem?_append_left hjl] at hj
        exact h3 j x hj
      · rw [List.getElem?_append_right (by omega)] at hj
        have hj2 : j - xs.length < ys.length := by
          rcases Nat.lt_or_ge (j - xs.length) ys.length with h | h
          · exact h
          · rw [List.getElem?_eq_none h] at hj; cases hj
        have := World.cell?_setCells_in g (nums .u8 ys) xs.length (W.alloc (.cells (nums .u8 ys).toArray 5)) (fun i hi => by rw [hcg]; exact (h4 _ (by omega)).1) (j - xs.length) (by rw [hnl]; omega)
        rw [show xs.length + (j - xs.length) = j by omega] at this
        rw [this]
        rw [List.getElem?_eq_getElem hj2] at hj
        cases hj
        simp [nums]
    · rw [Nat.zero_add, Nat.mul_one, World.frozen?_setCells, hfg]
      refine ⟨?_, (h4 j hj).2⟩
      by_cases hin : xs.length ≤ j ∧ j < xs.length + m
      · have := World.cell?_setCells_in g (nums .u8 ys) xs.length (W.alloc (.cells (nums .u8 ys).toArray 5)) (fun i hi => by rw [hcg]; exact (h4 _ (by omega)).1) (j - xs.length) (by rw [hnl]; omega)
        rw [show xs.length + (j - xs.length) = j by omega] at this
        rw [this]; rfl
      · rw [World.cell?_setCells_out g _ _ _ _ (fun _ _ => by rw [hnl]; show j < xs.length ∨ xs.length + m ≤ j; omega), hcg]
        exact (h4 j hj).1
    · refine Nat.lt_of_lt_of_le h5 (Nat.le_trans hB.size (dg.below_set (base := 0) (Nat.zero_le _) _ _ _).size)
    · exact (Below.trans_le_ hB hbs).trans (dg.below_set h1 _ _ _)
  · intro hr v' w' ho hgr
    have ho' : w'.ownsRow base 5 1 v' (xs.length + m) (nums .u8 (xs ++ ys)) := by
      have e : nums .u8 xs ++ nums .u8 ys = nums .u8 (xs ++ ys) := by simp [nums]
      rw [e] at ho
      refine ⟨ho.1, ho.2.imp_right ?_⟩
      rintro ⟨g, cap, cur, h1, h2, h3⟩
      exact ⟨g, cap, cur, h1, Nat.le_trans (Nat.le_trans hbs hB.size) h2, h3⟩
    refine hK _ _ (dg.Bw_own ho' (by omega)) ((Below.trans_le_ hB hbs).trans (dg.below_grown hgr (Nat.le_trans hbs hB.size)))
def dg.bs (s : ByteArray) : List Int := s.data.toList.map fun b => (b.toNat : Int)
theorem dg.bs_length (s : ByteArray) : (dg.bs s).length = s.size := by simp [dg.bs]
theorem dg.Bw_conv (w : World) (s : ByteArray) : dg.Bw w.heap.size (Lib.bytesWorld w 5 s) (.slice (some ⟨w.heap.size, 0, none⟩) s.size (grownCap w s.size 0 5)) (dg.bs s) := by
  have hge : s.size ≤ grownCap w s.size 0 5 := grownCap_ge w s.size 0 5
  have hsz : (Lib.bytesCells w 5 s).size = grownCap w s.size 0 5 := by simp [Lib.bytesCells]; omega
  have hat := Lib.bytesWorld_at_new w 5 s
  refine ⟨w.heap.size, _, by rw [dg.bs_length], Nat.le_refl _, by rw [dg.bs_length]; exact hge, fun j x hx => ?_, fun j hj => ⟨?_, ?_⟩, by rw [Lib.bytesWorld_size]; omega⟩
  · have hj : j < s.size := by
      rcases Nat.lt_or_ge j s.size with h | h
      · exact h
      · rw [List.getElem?_eq_none (by rw [dg.bs_length]; exact h)] at hx; cases hx
    rw [Lib.bytesWorld_cell w 5 s j hj]
    have hj' : j < s.data.toList.length := by simpa using hj
    simp only [dg.bs, List.getElem?_map, List.getElem?_eq_getElem hj', Option.map_some, Option.some.injEq] at hx
    rw [← hx]
    simp [List.getD, List.getElem?_eq_getElem hj']
  · simp only [World.cell?, hat]
    simp [hsz, hj]
  · simp only [World.frozen?, hat]
    simp [hsz]; omega
theorem dg.str {base g : Nat} {W : World} {v : Value} {xs : List Int} (h : dg.Bw base W v xs) (hv : v.ownBlock = some g) (i n c : Nat) (hi : i + n ≤ xs.length) :
    (convert 24 9 (.slice (some ⟨g, i, none⟩) n c)).run Tryd.prog W = .ok (.string (strOfNums ((xs.drop i).take n))) W := by
  obtain ⟨g', cap', rfl, h1, h2, h3, h4, h5⟩ := h
  obtain rfl : g' = g := by simpa [Value.ownBlock] using hv
  refine run_convert_bytes_arg W 24 5 Tryd.underlying24 Tryd.underlying5 g' i n c ((xs.drop i).take n) (by simp; omega) (fun j hj => ?_) 9 Tryd.underlying9
  refine h3 (i + j) _ ?_
  have : i + j < xs.length := by omega
  simp [List.getD, hj, this]
theorem dg.or_comm (x y : Int) : Go.bits .or .u32 x y = Go.bits .or .u32 y x := by simp only [Go.bits, BitVec.or_comm]
theorem dg.specTurn (x : Int) (k : Nat) (K : Int) (hK : K = (k : Int)) (h0 : 0 < k) (h1 : k < 32) : spec_l02Turn.f x K = some (dg.tn x k) := by
  subst hK
  have e : IntKind.u64.wrap (32 - (k : Int)) = 32 - (k : Int) := by simp [IntKind.wrap, IntKind.bits, IntKind.signed]; omega
  unfold spec_l02Turn.f dg.tn
  rw [e, if_pos (by omega), if_pos (by omega), dg.or_comm]
  have hk : (0 : Int) ≤ (k : Int) := by omega
  have hk2 : (0 : Int) ≤ 32 - (k : Int) := by omega
  have e1 : shl .u32 x (32 - (k : Int)) = x * 2 ^ (32 - k) % 4294967296 := by
    rw [show (32 : Int) - (k : Int) = ((32 - k : Nat) : Int) by omega]
    simp [shl, go_sem, IntKind.wrap, IntKind.bits, IntKind.signed]
    try omega
  have e2 : shr .u32 x (k : Int) = x / 2 ^ k := by
    simp [shr, go_sem, IntKind.wrap, IntKind.bits, IntKind.signed]
    rw [show min k 32 = k by omega]
  rw [e1, e2]
def dg.l8 (n : Int) : Nat → List Int
  | 0 => []
  | j + 1 => dg.l8 n j ++ [n / 2 ^ (56 - 8 * j) % 256]
theorem dg.l8_length (n : Int) : ∀ j, (dg.l8 n j).length = j
  | 0 => rfl
  | j + 1 => by rw [dg.l8, List.length_append, dg.l8_length n j]; rfl
def dg.pre (a0 : ByteArray) (i : Nat) : List Int := dg.bs a0 ++ [128] ++ List.replicate i 0
theorem dg.pre_length (a0 : ByteArray) (i : Nat) : (dg.pre a0 i).length = a0.size + 1 + i := by simp [dg.pre, dg.bs_length]; omega
theorem dg.pre_step (a0 : ByteArray) (i : Nat) : dg.pre a0 i ++ [0] = dg.pre a0 (i + 1) := by simp [dg.pre, List.replicate_succ']
def dg.ol (S : List Int) : Nat → List Int
  | 0 => []
  | i + 1 => dg.ol S i ++ [rd S (i : Int) / 16777216 % 256, rd S (i : Int) / 65536 % 256, rd S (i : Int) / 256 % 256, rd S (i : Int) % 256]
theorem dg.ol_length (S : List Int) : ∀ i, (dg.ol S i).length = 4 * i
  | 0 => rfl
  | i + 1 => by rw [dg.ol, List.length_append, dg.ol_length S i]; rfl
theorem dg.ext {a b : ByteArray} (h : a.data.toList = b.data.toList) : a = b := by
  cases a; cases b; congr; exact Array.toList_inj.mp h
theorem dg.son_append (xs ys : List Int) : strOfNums (xs ++ ys) = strOfNums xs ++ strOfNums ys := by
  apply dg.ext; simp [strOfNums]
theorem dg.son_bs (s : ByteArray) : strOfNums (dg.bs s) = s := by
  apply dg.ext
  rw [strOfNums_data, dg.bs, List.map_map]
  conv => rhs; rw [← List.map_id s.data.toList]
  apply List.map_congr_left
  intro b _
  simp
theorem dg.son_zeros : ∀ n, strOfNums (List.replicate n 0) = dg.zeros n := by
  intro n
  apply dg.ext
  rw [strOfNums_data]
  show _ = (Lib.repeatL _ n).toArray.toList
  rw [List.toList_toArray]
  induction n with
  | zero => rfl
  | succ n ih => rw [List.replicate_succ, List.map_cons, ih]; rfl
theorem dg.all_eq (a0 : ByteArray) : strOfNums (dg.pre a0 (dg.pad a0) ++ dg.l8 (8 * (a0.size : Int)) 8) = dg.all a0 := by
  rw [dg.son_append, dg.pre, dg.son_append, dg.son_append, dg.son_bs, dg.son_zeros, dg.all]
  congr 1
  generalize 8 * (a0.size : Int) = n
  unfold dg.w8b
  congr 1
  simp only [dg.l8, List.nil_append, List.cons_append]
  simp
  omega
theorem dg.cut (L : List Int) (i n : Nat) (h : i + n ≤ L.length) : strOfNums ((L.drop i).take n) = (strOfNums L).extract i (i + n) := by
  apply dg.ext
  rw [strOfNums_data, ByteArray.data_extract]
  simp [strOfNums, List.map_take, List.map_drop]
theorem dg.len8 {xs : List Int} (h : xs.length = 8) : ∃ a b c d e f g i, xs = [a, b, c, d, e, f, g, i] := by
  match xs, h with
  | [a, b, c, d, e, f, g, i], _ => exact ⟨a, b, c, d, e, f, g, i, rfl⟩
theorem dg.add8 (xs vs : List Int) (h : xs.length = 8) : dg.add xs vs 8 = [(rd xs 0 + rd vs 0) % 4294967296, (rd xs 1 + rd vs 1) % 4294967296, (rd xs 2 + rd vs 2) % 4294967296, (rd xs 3 + rd vs 3) % 4294967296, (rd xs 4 + rd vs 4) % 4294967296, (rd xs 5 + rd vs 5) % 4294967296, (rd xs 6 + rd vs 6) % 4294967296, (rd xs 7 + rd vs 7) % 4294967296] := by
  obtain ⟨a, b, c, d, e, f, g, i, rfl⟩ := dg.len8 h
  rfl
theorem dg.after_range (t : ByteArray) (i : Nat) : ∀ x ∈ dg.after t i, 0 ≤ x ∧ x < 4294967296 := by
  cases i with
  | zero => show ∀ x ∈ dg.start, 0 ≤ x ∧ x < 4294967296; decide
  | succ i =>
    rw [dg.after, dg.block, dg.add8 _ _ (dg.after_length t i)]
    intro x hx
    simp only [List.mem_cons, List.not_mem_nil, or_false] at hx
    rcases hx with rfl | rfl | rfl | rfl | rfl | rfl | rfl | rfl <;> omega
theorem dg.rd_range {S : List Int} (hr : ∀ x ∈ S, 0 ≤ x ∧ x < 4294967296) (i : Int) : 0 ≤ rd S i ∧ rd S i < 4294967296 := by
  unfold rd
  by_cases h : i.toNat < S.length
  · rw [List.getD_eq_getElem?_getD, List.getElem?_eq_getElem h]; exact hr _ (List.getElem_mem h)
  · rw [List.getD_eq_getElem?_getD, List.getElem?_eq_none (by omega)]; simp
theorem dg.ol_text (S : List Int) (hr : ∀ x ∈ S, 0 ≤ x ∧ x < 4294967296) : ∀ i, strOfNums (dg.ol S i) = dg.text S i
  | 0 => rfl
  | i + 1 => by
    have h := dg.rd_range hr (i : Int)
    rw [dg.ol, dg.son_append, dg.ol_text S hr i, dg.text]
    congr 1
    rw [show IntKind.u64.wrap (rd S (i : Int)) = rd S (i : Int) by simp only [IntKind.wrap, IntKind.bits, IntKind.signed]; simp; omega]
    unfold dg.w4b
    congr 1
    generalize rd S (i : Int) = n at h
    simp
    omega
theorem dg.bt_cut (b : ByteArray) (i j : Nat) (h : 4 * i + j < 64) (hb : b.size = 64) : bt (b.extract (4 * i) 64) (j : Int) = bt b ((4 * i + j : Nat) : Int) := by
  unfold bt
  rw [dif_pos (by rw [ByteArray.size_extract]; simp; omega), dif_pos (by simp; omega)]
  simp only [Int.toNat_natCast, ByteArray.getElem_extract]
theorem dg.l0_run (xs : List Int) (b : ByteArray) (hb : b.size = 64) : ∀ (m i K : Nat), i + m = 16 → spec_l02Block.l0 (K + 1 + m) xs b (dg.W b i) (i : Int) = spec_l02Block.l1 K xs (dg.W b 16) 16 := by
  intro m
  induction m with
  | zero => intro i K h; obtain rfl : i = 16 := by omega
            rw [Nat.add_zero, spec_l02Block.l0, if_neg (by decide)]
  | succ m ih =>
    intro i K h
    rw [show K + 1 + (m + 1) = K + 1 + m + 1 by omega, spec_l02Block.l0, if_pos (by omega)]
    have e0 : wrap64 (4 * (i : Int)) = ((4 * i + 0 : Nat) : Int) := by unfold wrap64; omega
    have e1 : wrap64 (((4 * i + 0 : Nat) : Int) + 1) = ((4 * i + 1 : Nat) : Int) := by unfold wrap64; omega
    have e2 : wrap64 (((4 * i + 0 : Nat) : Int) + 2) = ((4 * i + 2 : Nat) : Int) := by unfold wrap64; omega
    have e3 : wrap64 (((4 * i + 0 : Nat) : Int) + 3) = ((4 * i + 3 : Nat) : Int) := by unfold wrap64; omega
    have e4 : wrap64 ((i : Int) + 1) = ((i + 1 : Nat) : Int) := by unfold wrap64; omega
    have hl := dg.W_length b i
    rw [e0, e1, e2, e3, e4]
    rw [if_pos (by omega), if_pos (by omega), if_pos (by omega), if_pos (by omega), if_pos (by omega), if_pos (by omega), if_pos (by omega), if_pos (by omega), if_pos (by omega), if_pos (by omega)]
    rw [← ih (i + 1) K (by omega)]
    congr 1
    rw [dg.W, if_pos (by omega), dg.w4, Int.toNat_natCast]
    have c0 := dg.bt_cut b i 0 (by omega) hb
    have c1 := dg.bt_cut b i 1 (by omega) hb
    have c2 := dg.bt_cut b i 2 (by omega) hb
    have c3 := dg.bt_cut b i 3 (by omega) hb
    rw [← c0, ← c1, ← c2, ← c3]
    rfl
theorem dg.sT7 (x : Int) : spec_l02Turn.f x 7 = some (dg.tn x 7) := dg.specTurn x 7 7 rfl (by decide) (by decide)
theorem dg.sT18 (x : Int) : spec_l02Turn.f x 18 = some (dg.tn x 18) := dg.specTurn x 18 18 rfl (by decide) (by decide)
theorem dg.sT17 (x : Int) : spec_l02Turn.f x 17 = some (dg.tn x 17) := dg.specTurn x 17 17 rfl (by decide) (by decide)
theorem dg.sT19 (x : Int) : spec_l02Turn.f x 19 = some (dg.tn x 19) := dg.specTurn x 19 19 rfl (by decide) (by decide)
theorem dg.sT6 (x : Int) : spec_l02Turn.f x 6 = some (dg.tn x 6) := dg.specTurn x 6 6 rfl (by decide) (by decide)
theorem dg.sT11 (x : Int) : spec_l02Turn.f x 11 = some (dg.tn x 11) := dg.specTurn x 11 11 rfl (by decide) (by decide)
theorem dg.sT25 (x : Int) : spec_l02Turn.f x 25 = some (dg.tn x 25) := dg.specTurn x 25 25 rfl (by decide) (by decide)
theorem dg.sT2 (x : Int) : spec_l02Turn.f x 2 = some (dg.tn x 2) := dg.specTurn x 2 2 rfl (by decide) (by decide)
theorem dg.sT13 (x : Int) : spec_l02Turn.f x 13 = some (dg.tn x 13) := dg.specTurn x 13 13 rfl (by decide) (by decide)
theorem dg.sT22 (x : Int) : spec_l02Turn.f x 22 = some (dg.tn x 22) := dg.specTurn x 22 22 rfl (by decide) (by decide)
theorem dg.keys_f : spec_l02Keys.f = some dg.keys := rfl
theorem dg.l1_run (xs : List Int) (b : ByteArray) (h8 : xs.length = 8) (hr : ∀ x ∈ xs, 0 ≤ x ∧ x < 4294967296) : ∀ (m i K : Nat), 16 ≤ i → i + m = 64 → spec_l02Block.l1 (K + 1 + m) xs (dg.W b i) (i : Int) = spec_l02Block.l2 K xs (dg.W b 64) (rd xs 0) (rd xs 1) (rd xs 2) (rd xs 3) (rd xs 4) (rd xs 5) (rd xs 6) (rd xs 7) dg.keys 0 := by
  intro m
  induction m with
  | zero =>
    intro i K h16 h; obtain rfl : i = 64 := by omega
    rw [Nat.add_zero, spec_l02Block.l1, if_neg (by decide), h8]
    have hm : ∀ j, rd xs j % 4294967296 = rd xs j := fun j => by have := dg.rd_range hr j; omega
    simp only [hm]
    rw [if_pos (by decide), if_pos (by decide), if_pos (by decide), if_pos (by decide), if_pos (by decide), if_pos (by decide), if_pos (by decide), if_pos (by decide), dg.keys_f, Option.bind_some]
  | succ m ih =>
    intro i K h16 h
    rw [show K + 1 + (m + 1) = K + 1 + m + 1 by omega, spec_l02Block.l1, if_pos (by omega)]
    have e1 : wrap64 ((i : Int) - 15) = ((i - 15 : Nat) : Int) := by unfold wrap64; omega
    have e2 : wrap64 ((i : Int) - 2) = ((i - 2 : Nat) : Int) := by unfold wrap64; omega
    have e3 : wrap64 ((i : Int) - 16) = ((i - 16 : Nat) : Int) := by unfold wrap64; omega
    have e5 : wrap64 ((i : Int) - 7) = ((i - 7 : Nat) : Int) := by unfold wrap64; omega
    have e4 : wrap64 ((i : Int) + 1) = ((i + 1 : Nat) : Int) := by unfold wrap64; omega
    have hl := dg.W_length b i
    rw [e1, e2, e3, e4, e5]
    clear e1 e2 e3 e4 e5
    rw [if_pos (by omega), if_pos (by omega), if_pos (by omega), if_pos (by omega), if_pos (by omega), if_pos (by omega)]
    simp only [dg.sT7, dg.sT18, dg.sT17, dg.sT19, Option.bind_some]
    rw [if_pos (by omega), if_pos (by omega), if_pos (by omega), if_pos (by omega)]
    have hW : dg.W b (i + 1) = (dg.W b i).set i (dg.nxt (dg.W b i) i) := by rw [dg.W, if_neg (by omega)]
    rw [← ih (i + 1) K (by omega) (by omega), hW, dg.nxt, Int.toNat_natCast]
theorem dg.l2_run (xs ws : List Int) (hw : ws.length = 64) (s0 : dg.St) : ∀ (m i K : Nat) (s : dg.St), s = dg.rnds ws s0 i → i + m = 64 → spec_l02Block.l2 (K + 1 + m) xs ws s.a s.b s.c s.d s.e s.f s.g s.h dg.keys (i : Int) = spec_l02Block.l3 K xs (dg.out (dg.rnds ws s0 64)) [] 0 := by
  intro m
  induction m with
  | zero =>
    intro i K s hs h; obtain rfl : i = 64 := by omega
    rw [Nat.add_zero, spec_l02Block.l2, if_neg (by decide), ← hs]
    rfl
  | succ m ih =>
    intro i K s hs h
    have hk : dg.keys.length = 64 := rfl
    have e4 : wrap64 ((i : Int) + 1) = ((i + 1 : Nat) : Int) := by unfold wrap64; omega
    rw [show K + 1 + (m + 1) = K + 1 + m + 1 by omega, spec_l02Block.l2, if_pos (by omega), e4]
    clear e4
    simp only [dg.sT6, dg.sT11, dg.sT25, dg.sT2, dg.sT13, dg.sT22, Option.bind_some]
    rw [if_pos (by omega), if_pos (by omega), if_pos (by omega)]
    exact ih (i + 1) K (dg.rnd s (rd dg.keys (i : Int)) (rd ws (i : Int))) (by rw [dg.rnds, ← hs]) (by omega)
theorem dg.l3_run (K : Nat) (xs vs : List Int) (h8 : xs.length = 8) (hv : vs.length = 8) : spec_l02Block.l3 (K + 9) xs vs [] 0 = some (dg.add xs vs 8) := by
  rw [dg.add8 xs vs h8]
  simp only [spec_l02Block.l3, h8, hv, wrap64]
  simp
theorem dg.specBlock (xs : List Int) (b : ByteArray) (hx : xs.length = 8) (hr : ∀ x ∈ xs, 0 ≤ x ∧ x < 4294967296) (hb : b.size = 64) : ∃ K, spec_l02Block.f K xs b = some (dg.block xs b) := by
  refine ⟨(((0 + 9) + 1 + 64) + 1 + 48) + 1 + 16, ?_⟩
  rw [spec_l02Block.f, if_pos (by decide)]
  refine (dg.l0_run xs b hb 16 0 _ rfl).trans ?_
  refine (dg.l1_run xs b hx hr 48 16 _ (by decide) rfl).trans ?_
  refine (dg.l2_run xs (dg.W b 64) (dg.W_length b 64) (dg.init xs) 64 0 _ (dg.init xs) rfl rfl).trans ?_
  exact dg.l3_run 0 xs _ hx rfl
theorem dg.conv_below (w : World) (s : ByteArray) : Below w.heap.size w (Lib.bytesWorld w 5 s) := ⟨rfl, rfl, rfl, by rw [Lib.bytesWorld_size]; omega, fun k hk => Lib.bytesWorld_at_old w 5 s k hk⟩
theorem dg.turn (t : ByteArray) (i c : Nat) (A : Option Addr) (W : World) (hr : Kd.C (Kd.int .i64) W A 8 (dg.after t i)) (hc : 8 ≤ c) (ht : 64 * i + 64 ≤ t.size) :
    Calls Tryd.prog 55 #[.slice A 8 c, .string (t.extract (64 * i) (64 * i + 64))] W fun e w' => ∃ (A' : Option Addr) (c' : Nat), e = .returned (.slice A' 8 c') ∧ 8 ≤ c' ∧ Kd.C (Kd.int .i64) w' A' 8 (dg.after t (i + 1)) ∧ Below W.heap.size W w' := by
  have h8 := dg.after_length t i
  obtain ⟨K, hK⟩ := dg.specBlock (dg.after t i) (t.extract (64 * i) (64 * i + 64)) h8 (dg.after_range t i) (by rw [ByteArray.size_extract]; omega)
  have h := spec_l02Block.calls K A c (dg.after t i) _ _ W (by rw [h8]; exact hr) (by rw [h8]; exact hc) hK
  rw [h8] at h
  refine h.mono ?_
  rintro e w' ⟨v, rfl, hR, hB⟩
  obtain ⟨A', c', rfl, h1, h2⟩ := Kd.R_reads hR
  rw [← dg.after, dg.after_length] at h1 h2
  exact ⟨A', c', by rw [← dg.after, dg.after_length], h1, h2, hB⟩
theorem dg.Bw_empty (base : Nat) (W : World) (h : base ≤ W.heap.size) : dg.Bw base (W.alloc (.cells #[] 5)) (.slice (some ⟨W.heap.size, 0, none⟩) 0 0) [] :=
  ⟨W.heap.size, 0, rfl, h, Nat.le_refl _, fun j x hx => by simp at hx, fun j hj => by omega, (Array.getElem?_eq_some_iff.mp (blk_new W (.cells #[] 5))).1⟩
set_option maxHeartbeats 8000000 in
set_option maxRecDepth 100000 in
theorem spec_l02All.calls (a0 : ByteArray) (r : ByteArray) (w : World) (h : impl_digest.f a0 = some r) :
    Calls Tryd.prog 28 #[.string a0] w fun e w' => e = .returned (.string r) ∧ Below w.heap.size w w' := by
  unfold impl_digest.f at h
  by_cases hs : a0.size ≤ 1000000
  rotate_left
  · rw [if_neg hs] at h; cases h
  rw [if_pos hs] at h
  obtain rfl := Option.some.inj h
  clear h
  have HS := Aside0.mk hs
  clear hs
  have hcv := Lib.run_convert_string_bytes (P := Tryd.prog) w 9 24 5 a0 (u := .string) Tryd.underlying9 Tryd.underlying24 Tryd.underlying5
  have HBw := Aside0.mk (dg.Bw_conv w a0)
  have HB := Aside0.mk (dg.conv_below w a0)
  have HZ := Aside0.mk (show w.heap.size ≤ (Lib.bytesWorld w 5 a0).heap.size from (dg.conv_below w a0).size)
  generalize Lib.bytesWorld w 5 a0 = W1 at hcv HBw HB HZ
  generalize grownCap w a0.size 0 5 = cap at hcv HBw
  go_enter Tryd.func28, Tryd.ntmps28
  go_wp2_with (at_builtin; refine dg.append_b (W := W1) w.heap.size HZ.out rfl _ _ rfl (dg.bs a0) [128] 1 1 _ ?x1 rfl ?x3 ?x4 ?hn (by decide) ?hK)
  case x1 => rfl
  case x3 => exact HBw.out
  case x4 => rfl
  case hn => have := HS.out; rw [dg.bs_length]; omega
  intro v1 w2 hv1 hb1
  have HV := Aside0.mk (show dg.Bw w.heap.size w2 v1 (dg.pre a0 0) from by rw [dg.pre, List.replicate_zero, List.append_nil]; exact hv1)
  have HB2 := Aside0.mk (HB.out.trans hb1)
  clear hv1 hb1 hcv HBw HB HZ
  obtain ⟨g1, cap1, hv, _⟩ := HV.out
  rw [dg.pre_length] at hv
  subst hv
  have HPL := Aside0.mk (show dg.pad a0 < 64 from Nat.mod_lt _ (by decide))
  have HPD := Aside0.mk (show dg.pad a0 = (119 - a0.size % 64) % 64 from rfl)
  go_wp2
  go_loopg [3] (dg.pad a0) (fun gg v3 wr => ∃ (i g cap : Nat), v3 = .slice (some ⟨g, 0, none⟩) (a0.size + 1 + i) cap ∧ Aside0 (i ≤ dg.pad a0) ∧ Aside0 (dg.pad a0 ≤ i + gg) ∧ Aside0 (dg.Bw w.heap.size wr (.slice (some ⟨g, 0, none⟩) (a0.size + 1 + i) cap) (dg.pre a0 i)) ∧ Aside0 (Below w.heap.size w wr))
  case atStart => exact ⟨0, g1, cap1, rfl, ⟨Nat.zero_le _⟩, ⟨by omega⟩, HV, HB2⟩
  case round =>
    clear HV HB2
    obtain ⟨i, g, cap, rfl, HI, HGG, HV, HB⟩ := hrel
    have HZ := Aside0.mk HB.out.size
    have hs64 : (wrap64 ((a0.size + 1 + i : Nat) : Int)) = ((a0.size + 1 + i : Nat) : Int) := by have := HS.out; have := HI.out; have := HPL.out; unfold wrap64; omega
    by_cases hi : i < dg.pad a0
    · have hne : ¬ (((a0.size + 1 + i : Nat) : Int) % 64 = 56) := by have := HPD.out; omega
      have HLT := Aside0.mk hi
      clear hi
      go_wp2_with (at_builtin; refine dg.append_b (W := wr) w.heap.size HZ.out rfl _ _ rfl (dg.pre a0 i) [0] 1 1 _ ?y1 rfl ?y3 ?y4 ?yn (by decide) ?yK)
      case y1 => rfl
      case y3 => show dg.Bw _ _ (.slice (some ⟨g, 0, none⟩) (a0.size + 1 + i) cap) _; exact HV.out
      case y4 => rfl
      case yn => have := HS.out; have := HPL.out; have := HI.out; rw [dg.pre_length]; omega
      intro v1 w2 hv1 hb1
      rw [dg.pre_step] at hv1
      obtain ⟨g1, cap1, hv, hv2⟩ := hv1
      have hv1 : dg.Bw w.heap.size w2 v1 (dg.pre a0 (i + 1)) := ⟨g1, cap1, hv, hv2⟩
      rw [dg.pre_length] at hv
      subst hv
      have HV2 := Aside0.mk hv1
      have HB2 := Aside0.mk (HB.out.trans hb1)
      clear hv1 hb1 hv2 HV HB
      go_wp2
      go_roundg (dg.pad a0 - (i + 1))
      case measure => have := HGG.out; have := HLT.out; omega
      case rel => exact ⟨i + 1, g1, cap1, rfl, ⟨by have := HLT.out; omega⟩, ⟨by omega⟩, HV2, HB2⟩
    · obtain rfl : i = dg.pad a0 := by have := HI.out; omega
      have hne : (((a0.size + 1 + dg.pad a0 : Nat) : Int) % 64 = 56) := by have := HPD.out; omega
      have hN : IntKind.u64.wrap (wrap64 (8 * (a0.size : Int))) = 8 * (a0.size : Int) := by
        have := HS.out
        rw [show wrap64 (8 * (a0.size : Int)) = 8 * (a0.size : Int) by unfold wrap64; omega]
        simp only [IntKind.wrap, IntKind.bits, IntKind.signed]; simp; omega
      go_wp2
      clear hN hs64 hne hi HZ HI HGG
      have HL8 := Aside0.mk (dg.l8_length (8 * (a0.size : Int)))
      have HM := Aside0.mk (show a0.size + 1 + dg.pad a0 ≤ 1000100 by have := HS.out; have := HPL.out; omega)
      have HPre := Aside0.mk (dg.pre_length a0 (dg.pad a0))
      have HV0 := Aside0.mk (show dg.Bw w.heap.size wr (.slice (some ⟨g, 0, none⟩) (a0.size + 1 + dg.pad a0 + 0) cap) (dg.pre a0 (dg.pad a0) ++ dg.l8 (8 * (a0.size : Int)) 0) from by rw [dg.l8, List.append_nil]; exact HV.out)
      generalize (((a0.size : Int) + 1 + (dg.pad a0 : Int)) % 64 != 56) = bb
      simp only [Nat.add_zero]
      go_loopg [3, 5] 8 (fun gg v3 v5 wr => ∃ (j g cap : Nat), v3 = .slice (some ⟨g, 0, none⟩) (a0.size + 1 + dg.pad a0 + j) cap ∧ v5 = .int .i64 (56 - 8 * (j : Int)) ∧ Aside0 (j ≤ 8) ∧ Aside0 (8 ≤ j + gg) ∧ Aside0 (dg.Bw w.heap.size wr (.slice (some ⟨g, 0, none⟩) (a0.size + 1 + dg.pad a0 + j) cap) (dg.pre a0 (dg.pad a0) ++ dg.l8 (8 * (a0.size : Int)) j)) ∧ Aside0 (Below w.heap.size w wr))
      case atStart => exact ⟨0, g, cap, rfl, rfl, ⟨by decide⟩, ⟨by decide⟩, by rw [Nat.add_zero] at HV0; exact HV0, HB⟩
      case round =>
        clear HV HB HV0
        obtain ⟨j, g, cap, rfl, rfl, HI, HGG, HV, HB⟩ := hrel
        have HZ := Aside0.mk HB.out.size
        by_cases hj : j < 8
        · have hge : (0 : Int) ≤ 56 - 8 * (j : Int) := by omega
          have hge' : (8 * (j : Int)) ≤ 56 := by omega
          have hw : IntKind.u64.wrap (56 - 8 * (j : Int)) = 56 - 8 * (j : Int) := by simp only [IntKind.wrap, IntKind.bits, IntKind.signed]; simp; omega
          have HLT := Aside0.mk hj
          go_wp2_with (at_builtin; refine dg.append_b (W := wr) w.heap.size HZ.out rfl _ _ rfl (dg.pre a0 (dg.pad a0) ++ dg.l8 (8 * (a0.size : Int)) j) [8 * (a0.size : Int) / 2 ^ (56 - 8 * j) % 256] 1 1 _ ?z1 rfl ?z3 ?z4 ?zn (by decide) ?zK)
          case z1 => rfl
          case z3 => show dg.Bw _ _ (.slice (some ⟨g, 0, none⟩) (a0.size + 1 + dg.pad a0 + j) cap) _; exact HV.out
          case z4 => rfl
          case zn => have := HM.out; rw [List.length_append, HPre.out, HL8.out]; omega
          intro v1 w2 hv1 hb1
          obtain ⟨g1, cap1, hv, hv2⟩ := hv1
          have hv1 : dg.Bw w.heap.size w2 v1 (dg.pre a0 (dg.pad a0) ++ dg.l8 (8 * (a0.size : Int)) (j + 1)) := ⟨g1, cap1, hv, hv2⟩
          have hlen : (dg.pre a0 (dg.pad a0) ++ (dg.l8 (8 * (a0.size : Int)) j ++ [8 * (a0.size : Int) / 2 ^ (56 - 8 * j) % 256])).length = a0.size + 1 + dg.pad a0 + (j + 1) := by
            rw [List.length_append, List.length_append, HPre.out, HL8.out]; rfl
          rw [hlen] at hv
          subst hv
          have HV2 := Aside0.mk hv1
          have HB2 := Aside0.mk (HB.out.trans hb1)
          clear hv1 hb1 hv2 HV HB hlen hw hge hge'
          go_wp2
          go_roundg (8 - (j + 1))
          case measure => have := HGG.out; have := HLT.out; omega
          case rel => exact ⟨j + 1, g1, cap1, rfl, by rw [show (56 : Int) - 8 * ((j + 1 : Nat) : Int) = 56 - 8 * (j : Int) - 8 by omega], ⟨by have := HLT.out; omega⟩, ⟨by omega⟩, HV2, HB2⟩
        · obtain rfl : j = 8 := by have := HI.out; omega
          have hlt : ¬ (0 : Int) ≤ 56 - 8 * ((8 : Nat) : Int) := by decide
          have hend : (56 : Int) - 8 * ((8 : Nat) : Int) = -8 := by decide
          clear HI HGG hj HL8 HPre
          go_wp2_with (go_at_call 54; (with_reducible refine (spec_l02Start.calls dg.start _ rfl).mono ?_); rintro e w2 ⟨v0, rfl, hr, hb⟩; obtain ⟨A0, c0, rfl⟩ := Kd.R_slice hr; have HR := Aside0.mk (Kd.R_reads' hr).2.2; have HC := Aside0.mk (Kd.R_reads' hr).2.1; have HB2 := Aside0.mk (HB.out.trans (Below.trans_le_ hb HZ.out)); have HV3 := Aside0.mk (dg.Bw_below HV.out hb); clear hr hb HV HB)
          obtain ⟨NB, hNB⟩ : ∃ NB, a0.size + 1 + dg.pad a0 + 8 = 64 * NB := ⟨(a0.size + 1 + dg.pad a0 + 8) / 64, by have := HPD.out; omega⟩
          obtain ⟨L, hL⟩ : ∃ L, L = dg.pre a0 (dg.pad a0) ++ dg.l8 (8 * (a0.size : Int)) 8 := ⟨_, rfl⟩
          have HLL := Aside0.mk (show L.length = 64 * NB by rw [hL, List.length_append, dg.pre_length, dg.l8_length, ← hNB])
          have HLT := Aside0.mk (show strOfNums L = dg.all a0 by rw [hL]; exact dg.all_eq a0)
          have HSZ := Aside0.mk (show (dg.all a0).size / 64 = NB by rw [← HLT.out, strOfNums_size, HLL.out]; omega)
          have HNM := Aside0.mk (show NB ≤ 20000 by have := HM.out; omega)
          rw [← hL, hNB] at HV3
          clear hL
          rw [hNB]
          have hNBc : ((a0.size : Int) + 1 + (dg.pad a0 : Int) + 8) = 64 * (NB : Int) := by omega
          clear hNB HM HPL HPD HS
          go_loopg [6, 7] NB (fun gg v6 v7 wr => ∃ (i c : Nat) (A : Option Addr), v6 = .slice A 8 c ∧ v7 = .int .i64 ((64 * i : Nat) : Int) ∧ Aside0 (i ≤ NB) ∧ Aside0 (NB ≤ i + gg) ∧ Aside0 (Kd.C (Kd.int .i64) wr A 8 (dg.after (dg.all a0) i)) ∧ Aside0 (8 ≤ c) ∧ Aside0 (dg.Bw w.heap.size wr (.slice (some ⟨g, 0, none⟩) (64 * NB) cap) L) ∧ Aside0 (Below w.heap.size w wr))
          case atStart => exact ⟨0, c0, A0, rfl, rfl, ⟨Nat.zero_le _⟩, ⟨by omega⟩, HR, HC, HV3, HB2⟩
          case round =>
            clear HR HC HV3 HB2
            obtain ⟨i, c, A, rfl, rfl, HI, HGG, HR, HC, HV, HB⟩ := hrel
            by_cases hi : i < NB
            · have hlt : (64 * (i : Int)) < 64 * (NB : Int) := by omega
              have HLT2 := Aside0.mk hi
              obtain ⟨g', cap', hv, _, hcap, _⟩ := HV.out
              rw [HLL.out] at hcap
              obtain ⟨rfl, rfl⟩ : g' = g ∧ cap' = cap := by injection hv with h1 h2 h3; injection h1 with h1; injection h1 with h1; exact ⟨h1.symm, h3.symm⟩
              clear hv
              have hw64 : wrap64 (64 * (i : Int) + 64) = 64 * (i : Int) + 64 := by have := HNM.out; unfold wrap64; omega
              have hc1 : 64 * (i : Int) + 64 ≤ (cap' : Int) := by omega
              have hc2 : ¬ (cap' = 64 * i) := by omega
              have hc3 : (64 * (i : Int)) ≤ max (64 * (i : Int) + 64) 0 := by omega
              have htn : (64 * (i : Int) + 64).toNat - 64 * i = 64 := by omega
              have hstr := dg.str HV.out (g := g') rfl (64 * i) 64 (cap' - 64 * i) (by rw [HLL.out]; omega)
              rw [dg.cut L (64 * i) 64 (by rw [HLL.out]; omega), HLT.out] at hstr
              have HTS := Aside0.mk (show 64 * i + 64 ≤ (dg.all a0).size by rw [← HLT.out, strOfNums_size, HLL.out]; omega)
              have HSTEP := Aside0.mk (fun W hr => dg.turn (dg.all a0) i c A W hr HC.out HTS.out)
              generalize (dg.all a0).extract (64 * i) (64 * i + 64) = bb2 at hstr HSTEP
              go_wp2_with (go_at_call 55; (with_reducible refine (HSTEP.out _ HR.out).mono ?_); rintro e w3 ⟨A2, c2, rfl, hc2, hr2, hb2⟩; have HR2 := Aside0.mk hr2; have HC2 := Aside0.mk hc2; have HV2 := Aside0.mk (dg.Bw_below HV.out hb2); have HB2 := Aside0.mk (HB.out.trans (Below.trans_le_ hb2 HB.out.size)); clear hr2 hc2 hb2 HR HV HB)
              go_roundg (NB - (i + 1))
              case measure => have := HGG.out; have := HLT2.out; omega
              case rel => exact ⟨i + 1, c2, A2, rfl, by rw [show ((64 * (i + 1) : Nat) : Int) = 64 * (i : Int) + 64 by omega, hw64], ⟨by have := HLT2.out; omega⟩, ⟨by omega⟩, HR2, HC2, HV2, HB2⟩
            · obtain rfl : i = NB := by have := HI.out; omega
              go_wp2
              obtain ⟨wx, hwx⟩ : ∃ wx, wx = wr := ⟨_, rfl⟩
              rw [← hwx] at HR HB ⊢
              clear hwx
              have HV5 := Aside0.mk (dg.Bw_empty wx.heap.size wx (Nat.le_refl _))
              have HB5 := Aside0.mk (below_alloc (Below.refl wx.heap.size wx) (.cells #[] 5))
              have HX := Aside0.mk (dg.after_length (dg.all a0) i)
              have HRG := Aside0.mk (dg.after_range (dg.all a0) i)
              have HE := Aside0.mk (show dg.text (dg.after (dg.all a0) ((dg.all a0).size / 64)) 8 = dg.text (dg.after (dg.all a0) i) 8 by rw [HSZ.out])
              generalize dg.after (dg.all a0) i = S at HR HX HRG HE
              generalize wx.alloc (.cells #[] 5) = W9 at HV5 HB5
              clear HV HC HSZ HLL HLT HNM HI HGG
              go_loopg [8, 9] 8 (fun gg v8 v9 wr => ∃ (i g cap : Nat), v8 = .slice (some ⟨g, 0, none⟩) (4 * i) cap ∧ v9 = .int .i64 (i : Int) ∧ Aside0 (i ≤ 8) ∧ Aside0 (8 ≤ i + gg) ∧ Aside0 (dg.Bw wx.heap.size wr (.slice (some ⟨g, 0, none⟩) (4 * i) cap) (dg.ol S i)) ∧ Aside0 (Below wx.heap.size wx wr))
              case atStart => exact ⟨0, _, _, rfl, rfl, ⟨by decide⟩, ⟨by decide⟩, HV5, HB5⟩
              case round =>
                clear HV5 HB5
                obtain ⟨i, g, cap, rfl, rfl, HI, HGG, HV, HBX⟩ := hrel
                have HZ := Aside0.mk HBX.out.size
                by_cases hi : i < 8
                · have hlt : ((i : Nat) : Int) < 8 := by omega
                  have h0 : (0 : Int) ≤ (i : Int) := by omega
                  have hi8 : i < 8 := hi
                  obtain ⟨ad, rfl, hx⟩ := Kd.at_int (Kd.C_below HR.out HBX.out) (i : Int) h0 hlt
                  rw [Int.toNat_natCast] at hx
                  have HLT := Aside0.mk hi
                  go_wp2_with (at_builtin; refine dg.append_b (W := wr) wx.heap.size HZ.out rfl _ _ rfl (dg.ol S i) [rd S (i : Int) / 16777216 % 256, rd S (i : Int) / 65536 % 256, rd S (i : Int) / 256 % 256, rd S (i : Int) % 256] 4 4 _ ?u1 rfl ?u3 ?u4 ?un (by decide) ?uK)
                  case u1 => rfl
                  case u3 => show dg.Bw _ _ (.slice (some ⟨g, 0, none⟩) (4 * i) cap) _; exact HV.out
                  case u4 => rfl
                  case un => rw [dg.ol_length]; omega
                  intro v1 w2 hv1 hb1
                  obtain ⟨g1, cap1, hv, hv2⟩ := hv1
                  have hv1 : dg.Bw wx.heap.size w2 v1 (dg.ol S (i + 1)) := ⟨g1, cap1, hv, hv2⟩
                  have hlen : (dg.ol S i ++ [rd S (i : Int) / 16777216 % 256, rd S (i : Int) / 65536 % 256, rd S (i : Int) / 256 % 256, rd S (i : Int) % 256]).length = 4 * (i + 1) := dg.ol_length S (i + 1)
                  rw [hlen] at hv
                  subst hv
                  have HV2 := Aside0.mk hv1
                  have HB2 := Aside0.mk (HBX.out.trans hb1)
                  clear hv1 hb1 hv2 HV HBX hlen hx HR
                  go_wp2
                  go_roundg (8 - (i + 1))
                  case measure => have := HGG.out; have := HLT.out; omega
                  case rel => exact ⟨i + 1, g1, cap1, rfl, by first | rfl | rw [show wrap64 ((i : Int) + 1) = ((i + 1 : Nat) : Int) by unfold wrap64; omega], ⟨by have := HLT.out; omega⟩, ⟨by omega⟩, HV2, HB2⟩
                · obtain rfl : i = 8 := by have := HI.out; omega
                  have hstr := dg.str HV.out rfl 0 32 cap (by rw [dg.ol_length]; decide)
                  go_wp2
                  go_ret
                  refine ⟨?_, HB.out.trans (Below.trans_le_ HBX.out HB.out.size)⟩
                  rw [HE.out]
                  show Ending.returned (Value.string (strOfNums (List.take 32 (dg.ol S 8)))) = _
                  rw [List.take_of_length_le (by rw [dg.ol_length]; decide), dg.ol_text S HRG.out 8]
def dg.digest (a0 : ByteArray) : ByteArray := if a0.size ≤ 8000 then dg.text (dg.after (dg.all a0) ((dg.all a0).size / 64)) 8 else ⟨#[]⟩
theorem dg.digest_f (a0 : ByteArray) (h : a0.size ≤ 8000) : impl_digest.f a0 = some (dg.digest a0) := by
  rw [impl_digest.f, if_pos (by omega), dg.digest, if_pos h]
set_option maxHeartbeats 8000000 in
theorem dg.spec_Digest (a0 : ByteArray) (w : World) : Calls Tryd.prog 7 #[.string a0] w fun e w' => e = .returned (.string (dg.digest a0)) ∧ Below w.heap.size w w' := by
  go_enter Tryd.func7, Tryd.ntmps7
  by_cases h : a0.size ≤ 8000
  · have h1 : ¬ ((a0.size : Int) > 8000) := by omega
    have h2 : (a0.size : Int) ≤ 8000 := by omega
    have HF := Aside0.mk (dg.digest_f a0 h)
    go_wp2_with (go_at_call 28; (with_reducible refine (spec_l02All.calls a0 _ _ HF.out).mono ?_); rintro e w2 ⟨rfl, hb⟩; have HB := Aside0.mk hb; clear hb)
    go_ret
    exact ⟨rfl, HB.out⟩
  · have h1 : (a0.size : Int) > 8000 := by omega
    have h2 : ¬ (a0.size : Int) ≤ 8000 := by omega
    go_wp2
    go_ret
    exact ⟨by rw [dg.digest, if_neg h]; rfl, Below.refl _ _⟩
end Go.Proofs.YtldhjbjbjoomcaaDoor.Q
namespace Go.Proofs.YtldhjbjbjoomcaaDoor.DgRow
open Go.ChangeShapes Go.WideShapes Go.ChangeAt Go.RowKit Go.Proofs.YtldhjbjbjoomcaaDoor.Q Go.Proofs.YtldhjbjbjoomcaaDoorW.PrintWords
open Go.ChangeMaps (open_string shut_string)
set_option linter.unusedVariables false
set_option maxRecDepth 100000
theorem own : ownKnob Tryd.prog.godebug = none := by kernel_rfl
theorem laidOut : laidOutB Tryd.prog = true := by kernel_rfl
theorem g0 : Tryd.prog.globalNamed "loop.example/g00668/impl.digestStart" = some 0 := by kernel_rfl
theorem g1 : Tryd.prog.globalNamed "loop.example/g00668/impl.digestRounds" = some 1 := by kernel_rfl
theorem t0 : (Tryd.prog.globals[0]?).map (·.type) = some 72 := by kernel_rfl
theorem t1 : (Tryd.prog.globals[1]?).map (·.type) = some 102 := by kernel_rfl
theorem u102 : Tryd.prog.underlying 102 = some (.array 64 71) := by kernel_rfl
theorem c71 : Tryd.prog.cellsOf 71 = 1 := by kernel_rfl
theorem c72 : Tryd.prog.cellsOf 72 = 8 := by kernel_rfl
theorem c102 : Tryd.prog.cellsOf 102 = 64 := by kernel_rfl
abbrev laidL : List (String × DataW Unit) := [("loop.example/g00668/impl.digestStart", Rows.laid_loop_example_g00668_impl_digestStart), ("loop.example/g00668/impl.digestRounds", Rows.laid_loop_example_g00668_impl_digestRounds)]
theorem of_laid {W : World} (h : laidMetH Tryd.prog laidL W) : dg.G W := by
  rw [MakeChecks.laidMetH_plain _ _ _ (by kernel_rfl)] at h
  have h0 := Lib.tabIs_of_head (k := .u32) (zs := dg.start) g0 t0 Tryd.underlying72 Tryd.underlying71 c71 c72 h
  have h1 := Lib.tabIs_of_head (k := .u32) (zs := dg.keys) g1 t1 u102 Tryd.underlying71 c71 c102 h.tail
  have k1 : ∀ i : Nat, i < 64 → W.cell? ⟨1, i, none⟩ = some (.int .u32 (rd dg.keys (i : Int))) := fun i hi => h1.cell g1 i hi
  exact ⟨fun i hi => h0.cell g0 i hi, k1, World.block_lt_of_cell? _ _ (k1 0 (by decide))⟩
def setTab (zs : List Int) : Obj → Obj
  | .cells _ t frozen => .cells (zs.map fun z => Value.int .u32 z).toArray t frozen
  | o => o
noncomputable def laidWorld (os : Os) : World :=
  { World.holding Tryd.prog os ⟨#[], #[], []⟩ with heap := ((World.holding Tryd.prog os ⟨#[], #[], []⟩).heap.modify 0 (setTab dg.start)).modify 1 (setTab dg.keys) }
theorem laid_met (os : Os) (args : Array Value) : laidMetH Tryd.prog laidL ((laidWorld os).forCall (fun _ _ => 0) ⟨#[], args, []⟩).memory := by
  rw [MakeChecks.laidMetH_plain _ _ _ (by kernel_rfl)]
  exact laidMet_of_run' 8 (by kernel_rfl) (by kernel_rfl)
theorem vars_after {H : Type} {enc : TypeId × Value → H} {W W' : World} {n0 n1 : String} {gs : List (DataW H)} {q : List MemPlace}
    (hn0 : Tryd.prog.globalNamed n0 = some 0) (hn1 : Tryd.prog.globalNamed n1 = some 1) (hb : Below W.heap.size W W')
    (hV : DataW.TrodVars enc Tryd.prog W (fun _ => true) [n0, n1] gs q) : ∃ d0 d1 q', gs = [d0, d1] ∧ DataW.TrodVars enc Tryd.prog W' (fun b => decide (b < W.heap.size)) [n0, n1] gs q' := by
  obtain ⟨g0', t0', cs0, f0, d0, p0, g1', t1', cs1, f1, d1, p1, rfl, h1, h2, h3, h4, k1, k2, k3, k4, e⟩ := trodVars_two hV
  obtain rfl := Option.some.inj (hn0.symm.trans h1)
  obtain rfl := Option.some.inj (hn1.symm.trans k1)
  obtain rfl := Option.some.inj (t0.symm.trans h2)
  obtain rfl := Option.some.inj (t1.symm.trans k2)
  have keep : ∀ (n : String) (g : Nat) (cs : Array Value), Tryd.prog.globalNamed n = some g → W.var? Tryd.prog n = some cs → W'.var? Tryd.prog n = some cs := by
    intro n g cs hg hv
    unfold World.var? at hv ⊢
    rw [hg] at hv ⊢
    simp only [Option.bind_some] at hv ⊢
    have hlt : g < W.heap.size := by
      rcases Nat.lt_or_ge g W.heap.size with h | h
      · exact h
      · rw [Array.getElem?_eq_none h] at hv; cases hv
    rw [hb.block g hlt]; exact hv
  have r0 : DataW.Trod enc Tryd.prog W 0 (fun _ => true) true 72 (.agg cs0) d0 p0 := ⟨f0, h4⟩
  have r1 : DataW.Trod enc Tryd.prog W 0 (fun _ => true) true 102 (.agg cs1) d1 p1 := ⟨f1, k4⟩
  have l0 : ∀ x ∈ p0, x.block < W.heap.size := DataW.trod_lt f0 _ _ _ h4
  have l1 : ∀ x ∈ p1, x.block < W.heap.size := DataW.trod_lt f1 _ _ _ k4
  obtain ⟨m0, s0⟩ := Below.trod laidOut (by kernel_rfl) (of_decide_eq_true (by kernel_rfl)) r0 hb l0
  obtain ⟨m1, s1⟩ := Below.trod laidOut (by kernel_rfl) (of_decide_eq_true (by kernel_rfl)) r1 hb l1
  exact ⟨d0, d1, _, rfl, 0, 72, cs0, m0, p0, _, hn0, t0, keep n0 0 cs0 hn0 h3, s0, ⟨1, 102, cs1, m1, p1, _, hn1, t1, keep n1 1 cs1 hn1 k3, s1, rfl, rfl⟩, rfl⟩
end Go.Proofs.YtldhjbjbjoomcaaDoor.DgRow
namespace Go.Proofs.YtldhjbjbjoomcaaDoor.Q
open Go.RowKit Go.Proofs.YtldhjbjbjoomcaaDoorW.PrintWords Go.Proofs.YtldhjbjbjoomcaaDoorW.PrintLast Go.Proofs.YtldhjbjbjoomcaaDoorW.PrintMore
attribute [local go_sem] max2_int min2_int max_two min_two max_three min_three max_four min_four Instr.field asAgg
set_option linter.unusedVariables false
set_option linter.unusedSimpArgs false
def dg.imgd (l : List ByteArray) : ByteArray := if Pure.imageM l = true then dg.digest (Pure.cat l) else ⟨#[]⟩
theorem dg.str_rows {W : World} {A : Option Addr} {l : List ByteArray} (h : Kd.C Kd.string W A l.length l) (hne : l ≠ []) : ∃ b o, A = some ⟨b, o, none⟩ ∧ b < W.heap.size ∧ ∀ (j : Nat) x, l[j]? = some x → W.cell? ⟨b, o + j, none⟩ = some (.string x) := by
  have h0 : 0 < l.length := by cases l with | nil => exact absurd rfl hne | cons a r => simp
  obtain ⟨_, _, h2⟩ := h
  obtain ⟨ad, rfl, hc⟩ := h2 h0
  have hcell : ∀ (j : Nat) x, l[j]? = some x → W.cell? (ad.add j) = some (.string x) := by
    intro j x hx
    obtain ⟨c, hl, hk, hr⟩ := hc j x hx
    obtain rfl : c = [.string x] := hk
    have := hr 0 (.string x) rfl
    have e : j * Kd.string.sz + 0 = j := Nat.mul_one j
    rwa [e] at this
  obtain ⟨b, o, spot⟩ := ad
  obtain ⟨x0, hx0⟩ : ∃ x, l[0]? = some x := ⟨_, List.getElem?_eq_getElem h0⟩
  have hspot : spot = none := by simpa [Addr.add] using World.cell?_spot (hcell 0 x0 hx0)
  subst hspot
  refine ⟨b, o, rfl, World.block_lt_of_cell? _ _ (hcell 0 x0 hx0), fun j x hx => ?_⟩
  have := hcell j x hx
  rwa [Addr.add_lit] at this
set_option maxHeartbeats 8000000 in
theorem dg.spec_ImageDigest (A0 : Option Addr) (c0 : Nat) (l0 : List ByteArray) (w : World) (hr0 : Kd.C Kd.string w A0 l0.length l0) (hc0 : l0.length ≤ c0) : Calls Tryd.prog 11 #[.slice A0 l0.length c0] w fun e w' => e = .returned (.string (dg.imgd l0)) ∧ Below w.heap.size w w' := by
  have HR := Aside0.mk hr0
  have HC := Aside0.mk hc0
  obtain ⟨k1, hk1⟩ := Pure.specImage l0
  have HK1 := Aside0.mk (hk1 k1 (Nat.le_refl _))
  clear hr0 hc0 hk1
  go_enter Tryd.func11, Tryd.ntmps11
  by_cases h : Pure.imageM l0 = true
  · obtain ⟨k2, hk2⟩ := Pure.specJoin l0 h
    have HK2 := Aside0.mk (hk2 k2 (Nat.le_refl _))
    have HI := Aside0.mk h
    rw [h] at HK1
    clear hk2 h
    go_wp2_with (first
      | (go_at_call 27; (with_reducible refine (spec_ImageRight.calls k1 A0 c0 l0 _ _ HR.out HC.out HK1.out).mono ?_); rintro e w2 ⟨rfl, hd⟩; have HB := Aside0.mk (Drawn0.below hd); clear hd)
      | (go_at_call 33; (with_reducible refine (spec_l07Join.calls k2 A0 c0 l0 _ _ (Kd.C_below HR.out HB.out) HC.out HK2.out).mono ?_); rintro e w3 ⟨rfl, hd⟩; have HB2 := Aside0.mk (below_step HB.out (Drawn0.below hd)); clear hd)
      | (go_at_call 7; (with_reducible refine (dg.spec_Digest _ _).mono ?_); rintro e w4 ⟨rfl, hb⟩; have HB3 := Aside0.mk (below_step HB2.out hb); clear hb))
    go_ret
    exact ⟨by rw [dg.imgd, if_pos HI.out]; rfl, HB3.out⟩
  · have HI := Aside0.mk h
    have hf : Pure.imageM l0 = false := by simpa using h
    rw [hf] at HK1
    clear h hf
    go_wp2_with (go_at_call 27; (with_reducible refine (spec_ImageRight.calls k1 A0 c0 l0 _ _ HR.out HC.out HK1.out).mono ?_); rintro e w2 ⟨rfl, hd⟩; have HB := Aside0.mk (Drawn0.below hd); clear hd)
    go_ret
    exact ⟨by rw [dg.imgd, if_neg HI.out]; rfl, HB.out⟩
set_option maxHeartbeats 8000000 in
theorem dg.impl_imageDigest (A0 : Option Addr) (c0 : Nat) (l0 : List ByteArray) (w : World) (hG : dg.G w) (hI : Pure.imageM l0 = true) (hr0 : Kd.C Kd.string w A0 l0.length l0) (hc0 : l0.length ≤ c0) : Calls Tryd.prog 35 #[.slice A0 l0.length c0] w fun e w' => e = .returned (.string (dg.digest (Pure.cat l0))) ∧ Below w.heap.size w w' := by
  obtain ⟨hne, h8, hs⟩ := Pure.imageM_sizes hI
  obtain ⟨b, o, rfl, hb, hcells⟩ := dg.str_rows hr0 hne
  have hz := Pure.cat_size hs
  have HG := Aside0.mk hG
  have HJ := Aside0.mk (show Calls Tryd.prog 62 #[.slice (some ⟨b, o, none⟩) l0.length c0, .string ⟨#[]⟩] w fun e w' => e = .returned (.string (Pure.cat l0)) ∧ Below w.heap.size w w' from by
    have h := Tryd.strings_Join b o c0 l0 ⟨#[]⟩ w hcells hb (by omega) hc0 (by
      have e := Pure.cat_join l0
      have := congrArg ByteArray.size e
      rw [hz] at this
      have z : ∀ xs : List UInt8, (⟨xs.toArray⟩ : ByteArray).size = xs.length := fun xs => by simp [ByteArray.size]
      rw [z] at this
      omega)
    rw [Pure.cat_join] at h
    exact h)
  have HD := Aside0.mk (dg.digest_f (Pure.cat l0) (by omega))
  clear hG hI hr0 hc0 hne h8 hs hcells hb hz
  go_enter Tryd.func35, Tryd.ntmps35
  go_wp2_with (first
    | (go_at_call 62; (with_reducible refine HJ.out.mono ?_); rintro e w2 ⟨rfl, hb⟩; have HB := Aside0.mk hb; clear hb)
    | (go_at_call 29; (with_reducible refine (impl_digest.calls _ _ _ (dg.G_below HG.out HB.out) HD.out).mono ?_); rintro e w3 ⟨rfl, hb⟩; have HB2 := Aside0.mk (below_step HB.out hb); clear hb))
  go_ret
  exact ⟨rfl, HB2.out⟩
set_option maxHeartbeats 8000000 in
theorem dg.impl_ImageDigest (A0 : Option Addr) (c0 : Nat) (l0 : List ByteArray) (w : World) (hG : dg.G w) (hr0 : Kd.C Kd.string w A0 l0.length l0) (hc0 : l0.length ≤ c0) (hl : l0.length ≤ 1048576) : Calls Tryd.prog 13 #[.slice A0 l0.length c0] w fun e w' => e = .returned (.string (dg.imgd l0)) ∧ Below w.heap.size w w' := by
  have HR := Aside0.mk hr0
  have HC := Aside0.mk hc0
  have HG := Aside0.mk hG
  have HK1 := Aside0.mk (Pure.implImage l0 (by omega))
  clear hr0 hc0 hG
  go_enter Tryd.func13, Tryd.ntmps13
  by_cases h : Pure.imageM l0 = true
  · have HI := Aside0.mk h
    rw [h] at HK1
    clear h
    go_wp2_with (first
      | (go_at_call 34; (with_reducible refine (impl_isImage.calls A0 c0 l0 _ _ HR.out HC.out HK1.out).mono ?_); rintro e w2 ⟨rfl, hd⟩; have HB := Aside0.mk (Drawn0.below hd); clear hd)
      | (go_at_call 35; (with_reducible refine (dg.impl_imageDigest A0 c0 l0 _ (dg.G_below HG.out HB.out) HI.out (Kd.C_below HR.out HB.out) HC.out).mono ?_); rintro e w4 ⟨rfl, hb⟩; have HB3 := Aside0.mk (below_step HB.out hb); clear hb))
    go_ret
    exact ⟨by rw [dg.imgd, if_pos HI.out]; rfl, HB3.out⟩
  · have HI := Aside0.mk h
    have hf : Pure.imageM l0 = false := by simpa using h
    rw [hf] at HK1
    clear h hf
    go_wp2_with (go_at_call 34; (with_reducible refine (impl_isImage.calls A0 c0 l0 _ _ HR.out HC.out HK1.out).mono ?_); rintro e w2 ⟨rfl, hd⟩; have HB := Aside0.mk (Drawn0.below hd); clear hd)
    go_ret
    exact ⟨by rw [dg.imgd, if_neg HI.out]; rfl, HB.out⟩
def impl_ImageDigest.f (l : List ByteArray) : Option ByteArray := if l.length ≤ 1048576 then some (dg.imgd l) else none
def spec_ImageDigest.f (l : List ByteArray) : Option ByteArray := some (dg.imgd l)
theorem impl_ImageDigest.calls (A0 : Option Addr) (c0 : Nat) (l0 : List ByteArray) (r : ByteArray) (w : World) (hG : dg.G w) (hr0 : Kd.C Kd.string w A0 l0.length l0) (hc0 : l0.length ≤ c0) (h : impl_ImageDigest.f l0 = some r) : Calls Tryd.prog 13 #[.slice A0 l0.length c0] w fun e w' => e = .returned (.string r) ∧ Below w.heap.size w w' := by
  unfold impl_ImageDigest.f at h
  by_cases hl : l0.length ≤ 1048576
  · rw [if_pos hl] at h
    obtain rfl := Option.some.inj h
    exact dg.impl_ImageDigest A0 c0 l0 w hG hr0 hc0 hl
  · rw [if_neg hl] at h; cases h
theorem spec_ImageDigest.calls (A0 : Option Addr) (c0 : Nat) (l0 : List ByteArray) (r : ByteArray) (w : World) (hr0 : Kd.C Kd.string w A0 l0.length l0) (hc0 : l0.length ≤ c0) (h : spec_ImageDigest.f l0 = some r) : Calls Tryd.prog 11 #[.slice A0 l0.length c0] w fun e w' => e = .returned (.string r) ∧ Below w.heap.size w w' := by
  obtain rfl := Option.some.inj h
  exact dg.spec_ImageDigest A0 c0 l0 w hr0 hc0
end Go.Proofs.YtldhjbjbjoomcaaDoor.Q
namespace Go.Proofs.YtldhjbjbjoomcaaDoor.Q
open Go.RowKit Go.Proofs.YtldhjbjbjoomcaaDoorW.PrintWords Go.Proofs.YtldhjbjbjoomcaaDoorW.PrintLast Go.Proofs.YtldhjbjbjoomcaaDoorW.PrintMore
attribute [local go_sem] max2_int min2_int max_two min_two max_three min_three max_four min_four Instr.field asAgg
set_option linter.unusedVariables false
set_option linter.unusedSimpArgs false
set_option maxHeartbeats 8000000
set_option maxRecDepth 100000
mutual
def laws_FnImage.j0 : Nat → List Int → List Int → Bool → Option (Bool)
 | 0, _, _, _ => none
 | k + 1, x0, x1, x23 => if x23 = true then (some true) else ((spec_DrawImageApply.f k x0).bind fun bt609 => ((impl_ImageApply.f k bt609.1 bt609.2).bind fun bt615 => ((spec_DrawXored.f k x1).bind fun bt620 => ((spec_DrawMadeBy.f k x1).bind fun bt622 => ((spec_DrawImageDigest.f k x1).bind fun t630 => ((spec_ImageApply.f k bt609.1 bt609.2).bind fun bt633 => ((laws_lwImage.f k bt615.1 bt615.2 bt633.1 bt633.2).bind fun t637 => (if t637 = true then ((impl_Xored.f bt620.1 bt620.2).bind fun t638 => ((spec_Xored.f k bt620.1 bt620.2).bind fun t639 => (if t638.toList = t639.toList then ((impl_MadeBy.f k bt622.1 bt622.2.1 bt622.2.2.1 bt622.2.2.2.1 bt622.2.2.2.2).bind fun t640 => ((spec_MadeBy.f k bt622.1 bt622.2.1 bt622.2.2.1 bt622.2.2.2.1 bt622.2.2.2.2).bind fun t641 => (if t640.toList = t641.toList then ((impl_ImageDigest.f t630).bind fun t642 => ((spec_ImageDigest.f t630).bind fun t643 => (if t642.toList = t643.toList then ((impl_ImageRight.f bt609.1).bind fun t644 => ((spec_ImageRight.f k bt609.1).bind fun t645 => (if (t644 != t645) = true then (none) else (if (bt620.1.size : Int) = 8 then (if (bt620.2.size : Int) = 8 then ((impl_Xored.f bt620.1 bt620.2).bind fun t654 => ((impl_Xored.f t654 bt620.2).bind fun t655 => (laws_FnImage.j1 k bt609.1 bt609.2 (t655.toList != bt620.1.toList) bt615.1 bt615.2))) else (laws_FnImage.j1 k bt609.1 bt609.2 false bt615.1 bt615.2)) else (laws_FnImage.j1 k bt609.1 bt609.2 false bt615.1 bt615.2))))) else (none)))) else (none)))) else (none)))) else (none)))))))))
def laws_FnImage.j1 : Nat → List ByteArray → List (S42) → Bool → List ByteArray → Int → Option (Bool)
 | 0, _, _, _, _, _ => none
 | k + 1, x5, x6, x98, x620000, x620001 => if x98 = true then (none) else (if x620001 = 0 then (if (x620000.length : Int) = (x5.length : Int) then (laws_FnImage.l0 k x5 x6 0 x620000 x620001) else (none)) else (some true))
def laws_FnImage.l0 : Nat → List ByteArray → List (S42) → Int → List ByteArray → Int → Option (Bool)
 | 0, _, _, _, _, _ => none
 | k + 1, x5, x6, x13, x620000, x620001 => if x13 < (x5.length : Int) then (if 0 ≤ x13 then (laws_FnImage.l1 k x5 x6 x13 (rdOf ByteArray.empty x5 x13) 0 x620000 x620001) else (none)) else (some true)
def laws_FnImage.l1 : Nat → List ByteArray → List (S42) → Int → ByteArray → Int → List ByteArray → Int → Option (Bool)
 | 0, _, _, _, _, _, _, _ => none
 | k + 1, x5, x6, x13, x14, x15, x620000, x620001 => if x15 < (x6.length : Int) then (if 0 ≤ x15 then (if ((rd_T42 x6 x15).f0) = 5 then (laws_FnImage.l1 k x5 x6 x13 x14 (wrap64 (x15 + 1)) x620000 x620001) else (if ((rd_T42 x6 x15).f1) = x13 then ((spec_MadeBy.f k x5 ((rd_T42 x6 x15).f0) ((rd_T42 x6 x15).f1) ((rd_T42 x6 x15).f2) ((rd_T42 x6 x15).f3)).bind fun t660 => (laws_FnImage.l1 k x5 x6 x13 t660 (wrap64 (x15 + 1)) x620000 x620001)) else (laws_FnImage.l1 k x5 x6 x13 x14 (wrap64 (x15 + 1)) x620000 x620001))) else (none)) else (if 0 ≤ x13 then (if x13 < (x620000.length : Int) then (if (rdOf ByteArray.empty x620000 x13).toList = x14.toList then (laws_FnImage.l0 k x5 x6 (wrap64 (x13 + 1)) x620000 x620001) else (none)) else (none)) else (none))
end
def laws_FnImage.f (k : Nat) (l0 : List Int) (l1 : List Int) : Option (Bool) := if (l0.length : Int) > 1048576 then (laws_FnImage.j0 k l0 l1 true) else (laws_FnImage.j0 k l0 l1 (decide ((l1.length : Int) > 1048576)))
def laws_FnImage.T8 : Bool × List (List Nat × List Nat) := (true, [([], []), ([], []), ([], []), ([1, 2], [1, 2]), ([0, 3, 3], [0, 3]), ([4], [4]), ([5, 4], [5]), ([6], [6]), ([6], [6]), ([7, 8, 6, 6], [6, 7, 8]), ([6], [6]), ([6], [6]), ([10, 11, 9, 6], [6, 10, 11]), ([9, 12, 6], [6, 9, 12]), ([6, 13], [6, 13]), ([14, 12], [14]), ([15], [15]), ([15], [15]), ([16, 17, 15, 15], [15, 16, 17]), ([15], [15]), ([15], [15]), ([19, 20, 18, 15], [15, 19, 20]), ([18, 21, 15], [15, 18, 21]), ([15, 22], [15, 22]), ([23, 21], [23]), ([24], [24]), ([25, 24, 24], [24, 25]), ([24], [24]), ([27, 26, 24], [24, 27]), ([26, 28, 24], [24, 26, 28]), ([24, 29], [24, 29]), ([30, 28], [30]), ([31], [31]), ([32, 31, 31], [31, 32]), ([31], [31]), ([34, 33, 31], [31, 34]), ([33, 35, 31], [31, 33, 35]), ([31, 36], [31, 36])])
def laws_FnImage.B8 : List Nat := [0, 0, 0, 6, 15, 31, 63, 127, 127, 511, 127, 127, 4095, 8191, 16383, 32767, 65535, 65535, 262143, 65535, 65535, 2097151, 4194303, 8388607, 16777215, 33554431, 67108863, 33554431, 268435455, 536870911, 1073741823, 2147483647, 4294967295, 8589934591, 4294967295, 34359738367, 68719476735, 137438953471]
theorem laws_FnImage.tab8 : rtab .any (opsOf Tryd.f6 8) = laws_FnImage.T8 := by kernel_rfl
theorem laws_FnImage.bits8 : waitsOk laws_FnImage.T8.2 laws_FnImage.B8 = true := by kernel_rfl
theorem laws_FnImage.calls (k : Nat) (A0 : Option Addr) (c0 : Nat) (l0 : List Int) (A1 : Option Addr) (c1 : Nat) (l1 : List Int) (r : Bool) (w : World) (hG : dg.G w) (hr0 : Kd.C (Kd.int .u8) w A0 l0.length l0) (hc0 : l0.length ≤ c0) (hr1 : Kd.C (Kd.int .u8) w A1 l1.length l1) (hc1 : l1.length ≤ c1) (h : laws_FnImage.f k l0 l1 = some r) :
 Calls Tryd.prog 6 #[.slice A0 l0.length c0, .slice A1 l1.length c1] w fun e w' => e = .returned (.bool r) ∧ Below w.heap.size w w' := by
 have hu37 := Tryd.underlying37
 have hu42 := Tryd.underlying42
 have HG := zA_ hG
 clear hG
 have HR0 := zA_ hr0
 have HC0 := zA_ hc0
 clear hr0 hc0
 have HR1 := zA_ hr1
 have HC1 := zA_ hc1
 clear hr1 hc1
 have HB := zA_ (Below.refl w.heap.size w)
 have H : (if (l0.length : Int) > 1048576 then (laws_FnImage.j0 k l0 l1 true) else (laws_FnImage.j0 k l0 l1 (decide ((l1.length : Int) > 1048576)))) = some r := h
 clear h
 have HC3 := zA_ H
 clear H
 go_enter Tryd.func6, Tryd.ntmps6
 go_upto_region 1 with (fail)
 go_cut [23] (fun v23 wc => ∃ (kq : Nat) (x23_2 : Bool), v23 = .bool x23_2 ∧ Aside0 (laws_FnImage.j0 kq l0 l1 x23_2 = some r) ∧ Aside0 (kq ≤ k) ∧ Aside0 (Below w.heap.size w wc))
 case first =>
  have H := HC3.out
  clear HC3
  by_cases c4 : (l0.length : Int) > 1048576
  · rw [if_pos c4] at H
    have c4b0 : decide (1048576 < (l0.length : Int)) = true := decide_eq_true c4
    have c4b1 : decide (1048576 < l0.length) = true := decide_eq_true (by omega)
    clear c4
    (first | rw [c4b0] | (simp only [i64_w, i32_w]; rw [c4b0]) | skip)
    have H' := zA_ H
    clear H
    go_wp2
    go_meet
    case rel => exact ⟨_, (true), βya, H', ⟨βBa⟩, ⟨zh_ HB.out⟩⟩
  · rw [if_neg c4] at H
    have c4b0 : decide (1048576 < (l0.length : Int)) = false := decide_eq_false c4
    have c4b1 : decide (1048576 < l0.length) = false := decide_eq_false (by omega)
    clear c4
    (first | rw [c4b0] | (simp only [i64_w, i32_w]; rw [c4b0]) | skip)
    have H' := zA_ H
    clear H
    go_wp2
    go_meet
    case rel => exact ⟨_, (decide ((l1.length : Int) > 1048576)), βya, H', ⟨βBa⟩, ⟨zh_ HB.out⟩⟩
 case rest =>
  clear HC3
  try clear c1
  try clear p2
  try clear c4
  try clear c4b0
  try clear c4b1
  obtain ⟨kq, x23_2, rfl, HA, HJ2, HB⟩ := hcut
  cases kq with
  | zero => exact absurd HA.out (by simp [laws_FnImage.j0])
  | succ kj2 =>
   have H := HA.out
   clear HA
   simp only [laws_FnImage.j0] at H
   by_cases c5 : x23_2 = true
   · subst c5
     have H1 : (some true) = some r := by rw [if_pos rfl] at H; exact H
     clear H
     have H := H1
     clear H1
     obtain rfl := Option.some.inj H
     go_wp2
     go_ret
     exact ⟨βsa, βoa⟩
   · replace c5 := Bool.eq_false_iff.mpr c5
     subst c5
     have H1 : ((spec_DrawImageApply.f kj2 l0).bind fun bt609 => ((impl_ImageApply.f kj2 bt609.1 bt609.2).bind fun bt615 => ((spec_DrawXored.f kj2 l1).bind fun bt620 => ((spec_DrawMadeBy.f kj2 l1).bind fun bt622 => ((spec_DrawImageDigest.f kj2 l1).bind fun t630 => ((spec_ImageApply.f kj2 bt609.1 bt609.2).bind fun bt633 => ((laws_lwImage.f kj2 bt615.1 bt615.2 bt633.1 bt633.2).bind fun t637 => (if t637 = true then ((impl_Xored.f bt620.1 bt620.2).bind fun t638 => ((spec_Xored.f kj2 bt620.1 bt620.2).bind fun t639 => (if t638.toList = t639.toList then ((impl_MadeBy.f kj2 bt622.1 bt622.2.1 bt622.2.2.1 bt622.2.2.2.1 bt622.2.2.2.2).bind fun t640 => ((spec_MadeBy.f kj2 bt622.1 bt622.2.1 bt622.2.2.1 bt622.2.2.2.1 bt622.2.2.2.2).bind fun t641 => (if t640.toList = t641.toList then ((impl_ImageDigest.f t630).bind fun t642 => ((spec_ImageDigest.f t630).bind fun t643 => (if t642.toList = t643.toList then ((impl_ImageRight.f bt609.1).bind fun t644 => ((spec_ImageRight.f kj2 bt609.1).bind fun t645 => (if (t644 != t645) = true then (none) else (if (bt620.1.size : Int) = 8 then (if (bt620.2.size : Int) = 8 then ((impl_Xored.f bt620.1 bt620.2).bind fun t654 => ((impl_Xored.f t654 bt620.2).bind fun t655 => (laws_FnImage.j1 kj2 bt609.1 bt609.2 (t655.toList != bt620.1.toList) bt615.1 bt615.2))) else (laws_FnImage.j1 kj2 bt609.1 bt609.2 false bt615.1 bt615.2)) else (laws_FnImage.j1 kj2 bt609.1 bt609.2 false bt615.1 bt615.2))))) else (none)))) else (none)))) else (none)))) else (none))))))))) = some r := by rw [if_neg (show ¬ (false = true) by decide)] at H; exact H
     clear H
     have H := H1
     clear H1
     replace H := Option.bind_eq_some_iff.mp H
     obtain ⟨⟨t609, t610⟩, A60, H⟩ := H
     replace H : ((impl_ImageApply.f kj2 t609 t610).bind fun bt615 => ((spec_DrawXored.f kj2 l1).bind fun bt620 => ((spec_DrawMadeBy.f kj2 l1).bind fun bt622 => ((spec_DrawImageDigest.f kj2 l1).bind fun t630 => ((spec_ImageApply.f kj2 t609 t610).bind fun bt633 => ((laws_lwImage.f kj2 bt615.1 bt615.2 bt633.1 bt633.2).bind fun t637 => (if t637 = true then ((impl_Xored.f bt620.1 bt620.2).bind fun t638 => ((spec_Xored.f kj2 bt620.1 bt620.2).bind fun t639 => (if t638.toList = t639.toList then ((impl_MadeBy.f kj2 bt622.1 bt622.2.1 bt622.2.2.1 bt622.2.2.2.1 bt622.2.2.2.2).bind fun t640 => ((spec_MadeBy.f kj2 bt622.1 bt622.2.1 bt622.2.2.1 bt622.2.2.2.1 bt622.2.2.2.2).bind fun t641 => (if t640.toList = t641.toList then ((impl_ImageDigest.f t630).bind fun t642 => ((spec_ImageDigest.f t630).bind fun t643 => (if t642.toList = t643.toList then ((impl_ImageRight.f t609).bind fun t644 => ((spec_ImageRight.f kj2 t609).bind fun t645 => (if (t644 != t645) = true then (none) else (if (bt620.1.size : Int) = 8 then (if (bt620.2.size : Int) = 8 then ((impl_Xored.f bt620.1 bt620.2).bind fun t654 => ((impl_Xored.f t654 bt620.2).bind fun t655 => (laws_FnImage.j1 kj2 t609 t610 (t655.toList != bt620.1.toList) bt615.1 bt615.2))) else (laws_FnImage.j1 kj2 t609 t610 false bt615.1 bt615.2)) else (laws_FnImage.j1 kj2 t609 t610 false bt615.1 bt615.2))))) else (none)))) else (none)))) else (none)))) else (none)))))))) = some r := H
     have A6 := zA_ A60
     clear A60
     replace H := Option.bind_eq_some_iff.mp H
     obtain ⟨⟨t615, t618⟩, A70, H⟩ := H
     replace H : ((spec_DrawXored.f kj2 l1).bind fun bt620 => ((spec_DrawMadeBy.f kj2 l1).bind fun bt622 => ((spec_DrawImageDigest.f kj2 l1).bind fun t630 => ((spec_ImageApply.f kj2 t609 t610).bind fun bt633 => ((laws_lwImage.f kj2 t615 t618 bt633.1 bt633.2).bind fun t637 => (if t637 = true then ((impl_Xored.f bt620.1 bt620.2).bind fun t638 => ((spec_Xored.f kj2 bt620.1 bt620.2).bind fun t639 => (if t638.toList = t639.toList then ((impl_MadeBy.f kj2 bt622.1 bt622.2.1 bt622.2.2.1 bt622.2.2.2.1 bt622.2.2.2.2).bind fun t640 => ((spec_MadeBy.f kj2 bt622.1 bt622.2.1 bt622.2.2.1 bt622.2.2.2.1 bt622.2.2.2.2).bind fun t641 => (if t640.toList = t641.toList then ((impl_ImageDigest.f t630).bind fun t642 => ((spec_ImageDigest.f t630).bind fun t643 => (if t642.toList = t643.toList then ((impl_ImageRight.f t609).bind fun t644 => ((spec_ImageRight.f kj2 t609).bind fun t645 => (if (t644 != t645) = true then (none) else (if (bt620.1.size : Int) = 8 then (if (bt620.2.size : Int) = 8 then ((impl_Xored.f bt620.1 bt620.2).bind fun t654 => ((impl_Xored.f t654 bt620.2).bind fun t655 => (laws_FnImage.j1 kj2 t609 t610 (t655.toList != bt620.1.toList) t615 t618))) else (laws_FnImage.j1 kj2 t609 t610 false t615 t618)) else (laws_FnImage.j1 kj2 t609 t610 false t615 t618))))) else (none)))) else (none)))) else (none)))) else (none))))))) = some r := H
     have A7 := zA_ A70
     clear A70
     replace H := Option.bind_eq_some_iff.mp H
     obtain ⟨⟨t620, t621⟩, A80, H⟩ := H
     replace H : ((spec_DrawMadeBy.f kj2 l1).bind fun bt622 => ((spec_DrawImageDigest.f kj2 l1).bind fun t630 => ((spec_ImageApply.f kj2 t609 t610).bind fun bt633 => ((laws_lwImage.f kj2 t615 t618 bt633.1 bt633.2).bind fun t637 => (if t637 = true then ((impl_Xored.f t620 t621).bind fun t638 => ((spec_Xored.f kj2 t620 t621).bind fun t639 => (if t638.toList = t639.toList then ((impl_MadeBy.f kj2 bt622.1 bt622.2.1 bt622.2.2.1 bt622.2.2.2.1 bt622.2.2.2.2).bind fun t640 => ((spec_MadeBy.f kj2 bt622.1 bt622.2.1 bt622.2.2.1 bt622.2.2.2.1 bt622.2.2.2.2).bind fun t641 => (if t640.toList = t641.toList then ((impl_ImageDigest.f t630).bind fun t642 => ((spec_ImageDigest.f t630).bind fun t643 => (if t642.toList = t643.toList then ((impl_ImageRight.f t609).bind fun t644 => ((spec_ImageRight.f kj2 t609).bind fun t645 => (if (t644 != t645) = true then (none) else (if (t620.size : Int) = 8 then (if (t621.size : Int) = 8 then ((impl_Xored.f t620 t621).bind fun t654 => ((impl_Xored.f t654 t621).bind fun t655 => (laws_FnImage.j1 kj2 t609 t610 (t655.toList != t620.toList) t615 t618))) else (laws_FnImage.j1 kj2 t609 t610 false t615 t618)) else (laws_FnImage.j1 kj2 t609 t610 false t615 t618))))) else (none)))) else (none)))) else (none)))) else (none)))))) = some r := H
     have A8 := zA_ A80
     clear A80
     replace H := Option.bind_eq_some_iff.mp H
     obtain ⟨⟨t622, t625, t626, t627, t628⟩, A90, H⟩ := H
     replace H : ((spec_DrawImageDigest.f kj2 l1).bind fun t630 => ((spec_ImageApply.f kj2 t609 t610).bind fun bt633 => ((laws_lwImage.f kj2 t615 t618 bt633.1 bt633.2).bind fun t637 => (if t637 = true then ((impl_Xored.f t620 t621).bind fun t638 => ((spec_Xored.f kj2 t620 t621).bind fun t639 => (if t638.toList = t639.toList then ((impl_MadeBy.f kj2 t622 t625 t626 t627 t628).bind fun t640 => ((spec_MadeBy.f kj2 t622 t625 t626 t627 t628).bind fun t641 => (if t640.toList = t641.toList then ((impl_ImageDigest.f t630).bind fun t642 => ((spec_ImageDigest.f t630).bind fun t643 => (if t642.toList = t643.toList then ((impl_ImageRight.f t609).bind fun t644 => ((spec_ImageRight.f kj2 t609).bind fun t645 => (if (t644 != t645) = true then (none) else (if (t620.size : Int) = 8 then (if (t621.size : Int) = 8 then ((impl_Xored.f t620 t621).bind fun t654 => ((impl_Xored.f t654 t621).bind fun t655 => (laws_FnImage.j1 kj2 t609 t610 (t655.toList != t620.toList) t615 t618))) else (laws_FnImage.j1 kj2 t609 t610 false t615 t618)) else (laws_FnImage.j1 kj2 t609 t610 false t615 t618))))) else (none)))) else (none)))) else (none)))) else (none))))) = some r := H
     have A9 := zA_ A90
     clear A90
     replace H := Option.bind_eq_some_iff.mp H
     obtain ⟨t630, A100, H⟩ := H
     replace H : ((spec_ImageApply.f kj2 t609 t610).bind fun bt633 => ((laws_lwImage.f kj2 t615 t618 bt633.1 bt633.2).bind fun t637 => (if t637 = true then ((impl_Xored.f t620 t621).bind fun t638 => ((spec_Xored.f kj2 t620 t621).bind fun t639 => (if t638.toList = t639.toList then ((impl_MadeBy.f kj2 t622 t625 t626 t627 t628).bind fun t640 => ((spec_MadeBy.f kj2 t622 t625 t626 t627 t628).bind fun t641 => (if t640.toList = t641.toList then ((impl_ImageDigest.f t630).bind fun t642 => ((spec_ImageDigest.f t630).bind fun t643 => (if t642.toList = t643.toList then ((impl_ImageRight.f t609).bind fun t644 => ((spec_ImageRight.f kj2 t609).bind fun t645 => (if (t644 != t645) = true then (none) else (if (t620.size : Int) = 8 then (if (t621.size : Int) = 8 then ((impl_Xored.f t620 t621).bind fun t654 => ((impl_Xored.f t654 t621).bind fun t655 => (laws_FnImage.j1 kj2 t609 t610 (t655.toList != t620.toList) t615 t618))) else (laws_FnImage.j1 kj2 t609 t610 false t615 t618)) else (laws_FnImage.j1 kj2 t609 t610 false t615 t618))))) else (none)))) else (none)))) else (none)))) else (none)))) = some r := H
     have A10 := zA_ A100
     clear A100
     replace H := Option.bind_eq_some_iff.mp H
     obtain ⟨⟨t633, t636⟩, A110, H⟩ := H
     replace H : ((laws_lwImage.f kj2 t615 t618 t633 t636).bind fun t637 => (if t637 = true then ((impl_Xored.f t620 t621).bind fun t638 => ((spec_Xored.f kj2 t620 t621).bind fun t639 => (if t638.toList = t639.toList then ((impl_MadeBy.f kj2 t622 t625 t626 t627 t628).bind fun t640 => ((spec_MadeBy.f kj2 t622 t625 t626 t627 t628).bind fun t641 => (if t640.toList = t641.toList then ((impl_ImageDigest.f t630).bind fun t642 => ((spec_ImageDigest.f t630).bind fun t643 => (if t642.toList = t643.toList then ((impl_ImageRight.f t609).bind fun t644 => ((spec_ImageRight.f kj2 t609).bind fun t645 => (if (t644 != t645) = true then (none) else (if (t620.size : Int) = 8 then (if (t621.size : Int) = 8 then ((impl_Xored.f t620 t621).bind fun t654 => ((impl_Xored.f t654 t621).bind fun t655 => (laws_FnImage.j1 kj2 t609 t610 (t655.toList != t620.toList) t615 t618))) else (laws_FnImage.j1 kj2 t609 t610 false t615 t618)) else (laws_FnImage.j1 kj2 t609 t610 false t615 t618))))) else (none)))) else (none)))) else (none)))) else (none))) = some r := H
     have A11 := zA_ A110
     clear A110
     replace H := Option.bind_eq_some_iff.mp H
     obtain ⟨t637, A120, H⟩ := H
     replace H : (if t637 = true then ((impl_Xored.f t620 t621).bind fun t638 => ((spec_Xored.f kj2 t620 t621).bind fun t639 => (if t638.toList = t639.toList then ((impl_MadeBy.f kj2 t622 t625 t626 t627 t628).bind fun t640 => ((spec_MadeBy.f kj2 t622 t625 t626 t627 t628).bind fun t641 => (if t640.toList = t641.toList then ((impl_ImageDigest.f t630).bind fun t642 => ((spec_ImageDigest.f t630).bind fun t643 => (if t642.toList = t643.toList then ((impl_ImageRight.f t609).bind fun t644 => ((spec_ImageRight.f kj2 t609).bind fun t645 => (if (t644 != t645) = true then (none) else (if (t620.size : Int) = 8 then (if (t621.size : Int) = 8 then ((impl_Xored.f t620 t621).bind fun t654 => ((impl_Xored.f t654 t621).bind fun t655 => (laws_FnImage.j1 kj2 t609 t610 (t655.toList != t620.toList) t615 t618))) else (laws_FnImage.j1 kj2 t609 t610 false t615 t618)) else (laws_FnImage.j1 kj2 t609 t610 false t615 t618))))) else (none)))) else (none)))) else (none)))) else (none)) = some r := H
     have A12 := zA_ A120
     clear A120
     by_cases c13 : t637 = true
     · subst c13
       have H1 : ((impl_Xored.f t620 t621).bind fun t638 => ((spec_Xored.f kj2 t620 t621).bind fun t639 => (if t638.toList = t639.toList then ((impl_MadeBy.f kj2 t622 t625 t626 t627 t628).bind fun t640 => ((spec_MadeBy.f kj2 t622 t625 t626 t627 t628).bind fun t641 => (if t640.toList = t641.toList then ((impl_ImageDigest.f t630).bind fun t642 => ((spec_ImageDigest.f t630).bind fun t643 => (if t642.toList = t643.toList then ((impl_ImageRight.f t609).bind fun t644 => ((spec_ImageRight.f kj2 t609).bind fun t645 => (if (t644 != t645) = true then (none) else (if (t620.size : Int) = 8 then (if (t621.size : Int) = 8 then ((impl_Xored.f t620 t621).bind fun t654 => ((impl_Xored.f t654 t621).bind fun t655 => (laws_FnImage.j1 kj2 t609 t610 (t655.toList != t620.toList) t615 t618))) else (laws_FnImage.j1 kj2 t609 t610 false t615 t618)) else (laws_FnImage.j1 kj2 t609 t610 false t615 t618))))) else (none)))) else (none)))) else (none)))) = some r := by rw [if_pos rfl] at H; exact H
       clear H
       have H := H1
       clear H1
       replace H := Option.bind_eq_some_iff.mp H
       obtain ⟨t638, A140, H⟩ := H
       replace H : ((spec_Xored.f kj2 t620 t621).bind fun t639 => (if t638.toList = t639.toList then ((impl_MadeBy.f kj2 t622 t625 t626 t627 t628).bind fun t640 => ((spec_MadeBy.f kj2 t622 t625 t626 t627 t628).bind fun t641 => (if t640.toList = t641.toList then ((impl_ImageDigest.f t630).bind fun t642 => ((spec_ImageDigest.f t630).bind fun t643 => (if t642.toList = t643.toList then ((impl_ImageRight.f t609).bind fun t644 => ((spec_ImageRight.f kj2 t609).bind fun t645 => (if (t644 != t645) = true then (none) else (if (t620.size : Int) = 8 then (if (t621.size : Int) = 8 then ((impl_Xored.f t620 t621).bind fun t654 => ((impl_Xored.f t654 t621).bind fun t655 => (laws_FnImage.j1 kj2 t609 t610 (t655.toList != t620.toList) t615 t618))) else (laws_FnImage.j1 kj2 t609 t610 false t615 t618)) else (laws_FnImage.j1 kj2 t609 t610 false t615 t618))))) else (none)))) else (none)))) else (none))) = some r := H
       have A14 := zA_ A140
       clear A140
       replace H := Option.bind_eq_some_iff.mp H
       obtain ⟨t639, A150, H⟩ := H
       replace H : (if t638.toList = t639.toList then ((impl_MadeBy.f kj2 t622 t625 t626 t627 t628).bind fun t640 => ((spec_MadeBy.f kj2 t622 t625 t626 t627 t628).bind fun t641 => (if t640.toList = t641.toList then ((impl_ImageDigest.f t630).bind fun t642 => ((spec_ImageDigest.f t630).bind fun t643 => (if t642.toList = t643.toList then ((impl_ImageRight.f t609).bind fun t644 => ((spec_ImageRight.f kj2 t609).bind fun t645 => (if (t644 != t645) = true then (none) else (if (t620.size : Int) = 8 then (if (t621.size : Int) = 8 then ((impl_Xored.f t620 t621).bind fun t654 => ((impl_Xored.f t654 t621).bind fun t655 => (laws_FnImage.j1 kj2 t609 t610 (t655.toList != t620.toList) t615 t618))) else (laws_FnImage.j1 kj2 t609 t610 false t615 t618)) else (laws_FnImage.j1 kj2 t609 t610 false t615 t618))))) else (none)))) else (none)))) else (none)) = some r := H
       have A15 := zA_ A150
       clear A150
       by_cases c16 : t638.toList = t639.toList
       · rw [if_pos c16] at H
         have c16b0 : (t638.toList == t639.toList) = true := beq_iff_eq.mpr c16
         have c16b1 : (t638.toList != t639.toList) = false := bne_eq_false_iff_eq.mpr c16
         clear c16
         replace H := Option.bind_eq_some_iff.mp H
         obtain ⟨t640, A170, H⟩ := H
         replace H : ((spec_MadeBy.f kj2 t622 t625 t626 t627 t628).bind fun t641 => (if t640.toList = t641.toList then ((impl_ImageDigest.f t630).bind fun t642 => ((spec_ImageDigest.f t630).bind fun t643 => (if t642.toList = t643.toList then ((impl_ImageRight.f t609).bind fun t644 => ((spec_ImageRight.f kj2 t609).bind fun t645 => (if (t644 != t645) = true then (none) else (if (t620.size : Int) = 8 then (if (t621.size : Int) = 8 then ((impl_Xored.f t620 t621).bind fun t654 => ((impl_Xored.f t654 t621).bind fun t655 => (laws_FnImage.j1 kj2 t609 t610 (t655.toList != t620.toList) t615 t618))) else (laws_FnImage.j1 kj2 t609 t610 false t615 t618)) else (laws_FnImage.j1 kj2 t609 t610 false t615 t618))))) else (none)))) else (none))) = some r := H
         have A17 := zA_ A170
         clear A170
         replace H := Option.bind_eq_some_iff.mp H
         obtain ⟨t641, A180, H⟩ := H
         replace H : (if t640.toList = t641.toList then ((impl_ImageDigest.f t630).bind fun t642 => ((spec_ImageDigest.f t630).bind fun t643 => (if t642.toList = t643.toList then ((impl_ImageRight.f t609).bind fun t644 => ((spec_ImageRight.f kj2 t609).bind fun t645 => (if (t644 != t645) = true then (none) else (if (t620.size : Int) = 8 then (if (t621.size : Int) = 8 then ((impl_Xored.f t620 t621).bind fun t654 => ((impl_Xored.f t654 t621).bind fun t655 => (laws_FnImage.j1 kj2 t609 t610 (t655.toList != t620.toList) t615 t618))) else (laws_FnImage.j1 kj2 t609 t610 false t615 t618)) else (laws_FnImage.j1 kj2 t609 t610 false t615 t618))))) else (none)))) else (none)) = some r := H
         have A18 := zA_ A180
         clear A180
         by_cases c19 : t640.toList = t641.toList
         · rw [if_pos c19] at H
           have c19b0 : (t640.toList == t641.toList) = true := beq_iff_eq.mpr c19
           have c19b1 : (t640.toList != t641.toList) = false := bne_eq_false_iff_eq.mpr c19
           clear c19
           replace H := Option.bind_eq_some_iff.mp H
           obtain ⟨t642, A200, H⟩ := H
           replace H : ((spec_ImageDigest.f t630).bind fun t643 => (if t642.toList = t643.toList then ((impl_ImageRight.f t609).bind fun t644 => ((spec_ImageRight.f kj2 t609).bind fun t645 => (if (t644 != t645) = true then (none) else (if (t620.size : Int) = 8 then (if (t621.size : Int) = 8 then ((impl_Xored.f t620 t621).bind fun t654 => ((impl_Xored.f t654 t621).bind fun t655 => (laws_FnImage.j1 kj2 t609 t610 (t655.toList != t620.toList) t615 t618))) else (laws_FnImage.j1 kj2 t609 t610 false t615 t618)) else (laws_FnImage.j1 kj2 t609 t610 false t615 t618))))) else (none))) = some r := H
           have A20 := zA_ A200
           clear A200
           replace H := Option.bind_eq_some_iff.mp H
           obtain ⟨t643, A210, H⟩ := H
           replace H : (if t642.toList = t643.toList then ((impl_ImageRight.f t609).bind fun t644 => ((spec_ImageRight.f kj2 t609).bind fun t645 => (if (t644 != t645) = true then (none) else (if (t620.size : Int) = 8 then (if (t621.size : Int) = 8 then ((impl_Xored.f t620 t621).bind fun t654 => ((impl_Xored.f t654 t621).bind fun t655 => (laws_FnImage.j1 kj2 t609 t610 (t655.toList != t620.toList) t615 t618))) else (laws_FnImage.j1 kj2 t609 t610 false t615 t618)) else (laws_FnImage.j1 kj2 t609 t610 false t615 t618))))) else (none)) = some r := H
           have A21 := zA_ A210
           clear A210
           by_cases c22 : t642.toList = t643.toList
           · rw [if_pos c22] at H
             have c22b0 : (t642.toList == t643.toList) = true := beq_iff_eq.mpr c22
             have c22b1 : (t642.toList != t643.toList) = false := bne_eq_false_iff_eq.mpr c22
             clear c22
             replace H := Option.bind_eq_some_iff.mp H
             obtain ⟨t644, A230, H⟩ := H
             replace H : ((spec_ImageRight.f kj2 t609).bind fun t645 => (if (t644 != t645) = true then (none) else (if (t620.size : Int) = 8 then (if (t621.size : Int) = 8 then ((impl_Xored.f t620 t621).bind fun t654 => ((impl_Xored.f t654 t621).bind fun t655 => (laws_FnImage.j1 kj2 t609 t610 (t655.toList != t620.toList) t615 t618))) else (laws_FnImage.j1 kj2 t609 t610 false t615 t618)) else (laws_FnImage.j1 kj2 t609 t610 false t615 t618)))) = some r := H
             have A23 := zA_ A230
             clear A230
             replace H := Option.bind_eq_some_iff.mp H
             obtain ⟨t645, A240, H⟩ := H
             replace H : (if (t644 != t645) = true then (none) else (if (t620.size : Int) = 8 then (if (t621.size : Int) = 8 then ((impl_Xored.f t620 t621).bind fun t654 => ((impl_Xored.f t654 t621).bind fun t655 => (laws_FnImage.j1 kj2 t609 t610 (t655.toList != t620.toList) t615 t618))) else (laws_FnImage.j1 kj2 t609 t610 false t615 t618)) else (laws_FnImage.j1 kj2 t609 t610 false t615 t618))) = some r := H
             have A24 := zA_ A240
             clear A240
             by_cases c25 : (t644 != t645) = true
             · rw [if_pos c25] at H
               exact absurd H (by simp)
             · rw [if_neg c25] at H
               have c25b0 : (t644 != t645) = false := by simpa using c25
               (try (have c25b1 : decide (t644 = t645) = true := by simpa using c25))
               (try (have c25b2 : (t644 == t645) = true := by simpa using c25))
               clear c25
               have HC26 := zA_ H
               clear H
               try go_wp2_with (first | ((with_reducible refine gate_callee (f := 15) rfl ?_); refine goesL_ (some 26) rfl rfl Tryd.func15 βDa rfl #[.slice A0 l0.length c0] rfl zs_ ?_; (with_reducible refine (spec_DrawImageApply.calls kj2 _ _ l0 t609 t610 _ ?side1 ?side2 A6.out).mono ?_); (case side1 => exact zc_ (Kd.C_below HR0.out HB.out)); (case side2 => exact HC0.out); rintro e w27 ⟨v611, v613, rfl, ho0, ho1, hb⟩; refine ⟨_, rfl, ?_⟩; have n0_ := zA_ (Kd.R_lower ho0 (below_size (zh_ HB.out))); have n1_ := zA_ (Kd.R_lower ho1 (below_size (zh_ HB.out))); have n2_ := zA_ (below_step (zh_ HB.out) hb); clear HB; have HO612 := n0_; have HO614 := n1_; have HB := n2_; clear n0_ n1_ n2_; (try clear hb); (try clear hb2); (try clear hk); (try clear hi); (try clear ho0); (try clear ho1); obtain ⟨Ao28, co28, eo28⟩ := Kd.R_slice HO612.out; subst eo28; obtain ⟨Ao29, co29, eo29⟩ := Kd.R_slice HO614.out; subst eo29) | ((with_reducible refine gate_callee (f := 16) rfl ?_); refine goesL_ (some 31) rfl rfl Tryd.func16 βDa rfl #[.slice Ao28 t609.length co28, .slice Ao29 t610.length co29] rfl zs_ ?_; (with_reducible refine (impl_ImageApply.calls kj2 _ _ t609 _ _ t610 t615 t618 _ ?side1 ?side2 ?side3 ?side4 A7.out).mono ?_); (case side1 => exact zc_ (Kd.R_reads' HO612.out).2.2); (case side2 => exact (Kd.R_reads' HO612.out).2.1); (case side3 => exact zc_ (Kd.R_reads' HO614.out).2.2); (case side4 => exact (Kd.R_reads' HO614.out).2.1); rintro e w30 ⟨v616, rfl, ho0, hb⟩; refine ⟨_, rfl, ?_⟩; have n0_ := zA_ (Kd.R_elder' (zr_ HO612.out) (Kd.R_base ho0) hb); have n1_ := zA_ (Kd.R_below (zr_ HO614.out) hb); have n2_ := zA_ (Kd.R_lower (Kd.R_new' ho0 (Kd.R_lt (zr_ HO612.out))) (below_size (zh_ HB.out))); have n3_ := zA_ (below_step (zh_ HB.out) hb); clear HO612 HO614 HB; have HO612 := n0_; have HO614 := n1_; have HO617 := n2_; have HB := n3_; clear n0_ n1_ n2_ n3_; (try clear hb); (try clear hb2); (try clear hk); (try clear hi); (try clear ho0)) | ((with_reducible refine gate_dst (N := 7) rfl ?_); (try (refine gate_guard (by rfl) ?_; dsimp only)); refine box_event ?hg (N := 7) ?hd (cs := #[.slice none 0 0, .int .i64 0]) (t := 37) ?hr ?_; (case hd => exact (by rfl)); (case hg => exact (by rfl)); (case hr => exact βAa); intro gb619 hg w31 hbox hb; have n0_ := zA_ (Kd.R_below (zr_ HO612.out) hb); have n1_ := zA_ (Kd.R_below (zr_ HO614.out) hb); have n2_ := zA_ (Kd.R_below (zr_ HO617.out) hb); have n3_ := zA_ (below_step (zh_ HB.out) hb); have n4_ := zA_ (hbox); have n5_ := zA_ ((by rw [hg]; exact (below_size (zh_ HB.out)) : w.heap.size ≤ gb619)); have n6_ := zA_ ((by rw [hg]; exact (below_size (zh_ HB.out)) : w.heap.size ≤ gb619)); clear HO612 HO614 HO617 HB; have HO612 := n0_; have HO614 := n1_; have HO617 := n2_; have HB := n3_; have BK619 := n4_; have GW619 := n5_; have GE619 := n6_; clear n0_ n1_ n2_ n3_ n4_ n5_ n6_; clear hb hbox hg; obtain ⟨Ao32, co32, eo32⟩ := Kd.R_slice HO617.out; subst eo32; have hcz33_0 := cz_ BK619.out 0 (.slice none 0 0) rfl; have hcz33_1 := cz_ BK619.out 1 (.int .i64 0) rfl; have hfz33_0 := blk_frozen BK619.out 0; have hfz33_1 := blk_frozen BK619.out 1) | ((with_reducible refine gate_callee (f := 17) rfl ?_); refine goesL_ (some 34) rfl rfl Tryd.func17 βDa rfl #[.slice A1 l1.length c1] rfl zs_ ?_; (with_reducible refine (spec_DrawXored.calls kj2 _ _ l1 t620 t621 _ ?side1 ?side2 A8.out).mono ?_); (case side1 => exact Kd.C_below HR1.out (zg1_ HB.out GE619.out)); (case side2 => exact HC1.out); rintro e w34 ⟨rfl, hb⟩; refine ⟨_, rfl, ?_⟩; have n0_ := zA_ (Kd.R_below (by (with_reducible repeat (first | apply Kd.R_alloc | apply Kd.R_drewN | apply Kd.R_drew)); exact (Kd.R_mono (Kd.R_far (p := ⟨gb619, 1, none⟩) (Kd.R_far (p := ⟨gb619, 0, none⟩) (Kd.R_types HO612.out BK619.out (by decide)) (fun _ hk => hk.2) (.slice Ao32 t615.length co32)) (fun _ hk => hk.2) (.int .i64 t618)) (fun _ h_ => h_.1))) hb); have n1_ := zA_ (Kd.R_below (by (with_reducible repeat (first | apply Kd.R_alloc | apply Kd.R_drewN | apply Kd.R_drew)); exact (Kd.R_mono (Kd.R_far (p := ⟨gb619, 1, none⟩) (Kd.R_far (p := ⟨gb619, 0, none⟩) (Kd.R_types HO614.out BK619.out (by decide)) (fun _ hk => hk.2) (.slice Ao32 t615.length co32)) (fun _ hk => hk.2) (.int .i64 t618)) (fun _ h_ => h_.1))) hb); have n2_ := zA_ (Kd.R_below (by (with_reducible repeat (first | apply Kd.R_alloc | apply Kd.R_drewN | apply Kd.R_drew)); exact (Kd.R_mono (Kd.R_far (p := ⟨gb619, 1, none⟩) (Kd.R_far (p := ⟨gb619, 0, none⟩) (Kd.R_types HO617.out BK619.out (by decide)) (fun _ hk => hk.2) (.slice Ao32 t615.length co32)) (fun _ hk => hk.2) (.int .i64 t618)) (fun _ h_ => h_.1))) hb); have n3_ := zA_ (blk_below (g := gb619) (o := .cells #[.slice Ao32 t615.length co32, .int .i64 t618] 37 (0, 0)) (by (with_reducible repeat (first | refine blk_drewN ?_ _ | refine blk_drew ?_ | refine blk_alloc ?_ _)); refine blk_put (cs := #[.slice Ao32 t615.length co32, .int .i64 0]) ?_ 1 _ rfl; (with_reducible repeat (first | refine blk_drewN ?_ _ | refine blk_drew ?_ | refine blk_alloc ?_ _)); refine blk_put (cs := #[.slice none 0 0, .int .i64 0]) ?_ 0 _ rfl; (with_reducible repeat (first | refine blk_drewN ?_ _ | refine blk_drew ?_ | refine blk_alloc ?_ _)); exact BK619.out) hb); have n4_ := zA_ (below_step (zg1_ HB.out GE619.out) hb); clear HO612 HO614 HO617 BK619 HB; have HO612 := n0_; have HO614 := n1_; have HO617 := n2_; have BK619 := n3_; have HB := n4_; clear n0_ n1_ n2_ n3_ n4_; (try clear hb); (try clear hb2); (try clear hk); (try clear hi)) | ((with_reducible refine gate_callee (f := 18) rfl ?_); refine goesL_ (some 39) rfl rfl Tryd.func18 βDa rfl #[.slice A1 l1.length c1] rfl zs_ ?_; (with_reducible refine (spec_DrawMadeBy.calls kj2 _ _ l1 t622 t625 t626 t627 t628 _ ?side1 ?side2 A9.out).mono ?_); (case side1 => exact zc_ (Kd.C_below HR1.out HB.out)); (case side2 => exact HC1.out); rintro e w35 ⟨v623, rfl, ho0, hb⟩; refine ⟨_, rfl, ?_⟩; have n0_ := zA_ (Kd.R_elder' (zr_ HO612.out) (Kd.R_base ho0) hb); have n1_ := zA_ (Kd.R_below (zr_ HO614.out) hb); have n2_ := zA_ (Kd.R_elder' (zr_ HO617.out) (Kd.R_base ho0) hb); have n3_ := zA_ (Kd.R_lower (Kd.R_new' (Kd.R_new' ho0 (Kd.R_lt (zr_ HO612.out))) (Kd.R_lt (zr_ HO617.out))) (below_size (zg1_ HB.out GE619.out))); have n4_ := zA_ (blk_below (g := gb619) (o := .cells #[.slice Ao32 t615.length co32, .int .i64 t618] 37 (0, 0)) (zb_ BK619.out) hb); have n5_ := zA_ (below_step (zg1_ HB.out GE619.out) hb); clear HO612 HO614 HO617 BK619 HB; have HO612 := n0_; have HO614 := n1_; have HO617 := n2_; have HO624 := n3_; have BK619 := n4_; have HB := n5_; clear n0_ n1_ n2_ n3_ n4_ n5_; (try clear hb); (try clear hb2); (try clear hk); (try clear hi); (try clear ho0)) | ((with_reducible refine gate_dst (N := 11) rfl ?_); (try (refine gate_guard (by rfl) ?_; dsimp only)); refine box_event ?hg (N := 11) ?hd (cs := #[.int .i64 0, .int .i64 0, .int .i64 0, .string (⟨#[]⟩ : ByteArray)]) (t := 42) ?hr ?_; (case hd => exact (by rfl)); (case hg => exact (by rfl)); (case hr => exact βAa); intro gb629 hg w36 hbox hb; have n0_ := zA_ (Kd.R_below (zr_ HO612.out) hb); have n1_ := zA_ (Kd.R_below (Kd.R_elderB (zr_ HO614.out) gb629 (Nat.le_of_eq hg.symm)) hb); have n2_ := zA_ (Kd.R_below (zr_ HO617.out) hb); have n3_ := zA_ (Kd.R_below (zr_ HO624.out) hb); have n4_ := zA_ (blk_below (g := gb619) (o := .cells #[.slice Ao32 t615.length co32, .int .i64 t618] 37 (0, 0)) (zb_ BK619.out) hb); have n5_ := zA_ (below_step (zg1_ HB.out GE619.out) hb); have n6_ := zA_ (hbox); have n7_ := zA_ ((by rw [hg]; exact (below_size (zg1_ HB.out GE619.out)) : w.heap.size ≤ gb629)); have n8_ := zA_ ((by rw [hg]; exact (below_size (zg1_ HB.out GE619.out)) : w.heap.size ≤ gb629)); have n9_ := zA_ ((by rw [hg]; exact Nat.ne_of_lt (blk_lt (g := gb619) (o := .cells #[.slice Ao32 t615.length co32, .int .i64 t618] 37 (0, 0)) (zb_ BK619.out)) : gb619 ≠ gb629)); have n10_ := zA_ ((by rw [hg]; exact Nat.ne_of_gt (blk_lt (g := gb619) (o := .cells #[.slice Ao32 t615.length co32, .int .i64 t618] 37 (0, 0)) (zb_ BK619.out)) : gb629 ≠ gb619)); clear HO612 HO614 HO617 HO624 BK619 HB; have HO612 := n0_; have HO614 := n1_; have HO617 := n2_; have HO624 := n3_; have BK619 := n4_; have HB := n5_; have BK629 := n6_; have GW629 := n7_; have GE629 := n8_; have NB619_629 := n9_; have NB629_619 := n10_; clear n0_ n1_ n2_ n3_ n4_ n5_ n6_ n7_ n8_ n9_ n10_; clear hb hbox hg; have hnb37 := NB629_619.out; have hnc37 := NB619_629.out; have hcz38_0 := cz_ BK629.out 0 (.int .i64 0) rfl; have hcz38_1 := cz_ BK629.out 1 (.int .i64 0) rfl; have hcz38_2 := cz_ BK629.out 2 (.int .i64 0) rfl; have hcz38_3 := cz_ BK629.out 3 (.string (⟨#[]⟩ : ByteArray)) rfl; have hfz38_0 := blk_frozen BK629.out 0; have hfz38_1 := blk_frozen BK629.out 1; have hfz38_2 := blk_frozen BK629.out 2; have hfz38_3 := blk_frozen BK629.out 3) | ((with_reducible refine gate_callee (f := 19) rfl ?_); refine goesL_ (some 43) rfl rfl Tryd.func19 βDa rfl #[.slice A1 l1.length c1] rfl zs_ ?_; (with_reducible refine (spec_DrawImageDigest.calls kj2 _ _ l1 t630 _ ?side1 ?side2 A10.out).mono ?_); (case side1 => exact Kd.C_below HR1.out (zg2_ HB.out GE619.out GE629.out)); (case side2 => exact HC1.out); rintro e w39 ⟨v631, rfl, ho0, hb⟩; refine ⟨_, rfl, ?_⟩; have n0_ := zA_ (Kd.R_elder' βe (Kd.R_base ho0) hb); have n1_ := zA_ (Kd.R_below (by (with_reducible repeat (first | apply Kd.R_alloc | apply Kd.R_drewN | apply Kd.R_drew)); exact (Kd.R_mono (Kd.R_far (p := ⟨gb629, 3, none⟩) (Kd.R_far (p := ⟨gb629, 2, none⟩) (Kd.R_far (p := ⟨gb629, 1, none⟩) (Kd.R_far (p := ⟨gb629, 0, none⟩) (Kd.R_mono HO614.out (fun k_ hk => (⟨hk, hk.2⟩ : _ ∧ k_ ≠ gb629))) (fun _ hk => hk.2) (.int .i64 t625)) (fun _ hk => hk.2) (.int .i64 t626)) (fun _ hk => hk.2) (.int .i64 t627)) (fun _ hk => hk.2) (.string t628)) (fun _ h_ => h_.1))) hb); have n2_ := zA_ (Kd.R_elder' βf (Kd.R_base ho0) hb); have n3_ := zA_ (Kd.R_elder' βg (Kd.R_base ho0) hb); have n4_ := zA_ (Kd.R_lower (Kd.R_new' (Kd.R_new' (Kd.R_new' ho0 (Kd.R_lt βe)) (Kd.R_lt βf)) (Kd.R_lt βg)) (below_size (zg2_ HB.out GE619.out GE629.out))); have n5_ := zA_ (blk_below (g := gb619) (o := .cells #[.slice Ao32 t615.length co32, .int .i64 t618] 37 (0, 0)) (zf4_ NB619_629.out NB619_629.out NB619_629.out NB619_629.out BK619.out) hb); have n6_ := zA_ (blk_below (g := gb629) (o := .cells #[.int .i64 t625, .int .i64 t626, .int .i64 t627, .string t628] 42 (0, 0)) (by (with_reducible repeat (first | refine blk_drewN ?_ _ | refine blk_drew ?_ | refine blk_alloc ?_ _)); refine blk_put (cs := #[.int .i64 t625, .int .i64 t626, .int .i64 t627, .string (⟨#[]⟩ : ByteArray)]) ?_ 3 _ rfl; (with_reducible repeat (first | refine blk_drewN ?_ _ | refine blk_drew ?_ | refine blk_alloc ?_ _)); refine blk_put (cs := #[.int .i64 t625, .int .i64 t626, .int .i64 0, .string (⟨#[]⟩ : ByteArray)]) ?_ 2 _ rfl; (with_reducible repeat (first | refine blk_drewN ?_ _ | refine blk_drew ?_ | refine blk_alloc ?_ _)); refine blk_put (cs := #[.int .i64 t625, .int .i64 0, .int .i64 0, .string (⟨#[]⟩ : ByteArray)]) ?_ 1 _ rfl; (with_reducible repeat (first | refine blk_drewN ?_ _ | refine blk_drew ?_ | refine blk_alloc ?_ _)); refine blk_put (cs := #[.int .i64 0, .int .i64 0, .int .i64 0, .string (⟨#[]⟩ : ByteArray)]) ?_ 0 _ rfl; (with_reducible repeat (first | refine blk_drewN ?_ _ | refine blk_drew ?_ | refine blk_alloc ?_ _)); exact BK629.out) hb); have n7_ := zA_ (below_step (zg2_ HB.out GE619.out GE629.out) hb); clear HO612 HO614 HO617 HO624 BK619 BK629 HB; have HO612 := n0_; have HO614 := n1_; have HO617 := n2_; have HO624 := n3_; have HO632 := n4_; have BK619 := n5_; have BK629 := n6_; have HB := n7_; clear n0_ n1_ n2_ n3_ n4_ n5_ n6_ n7_; (try clear hb); (try clear hb2); (try clear hk); (try clear hi); (try clear ho0)))
               have n0_ := zA_ (Kd.R_drew HO612.out)
               have n1_ := zA_ (Kd.R_drew HO614.out)
               have n2_ := zA_ (Kd.R_drew HO617.out)
               have n3_ := zA_ (Kd.R_drew HO624.out)
               have n4_ := zA_ (Kd.R_drew HO632.out)
               have n5_ := zA_ (blk_drew BK619.out)
               have n6_ := zA_ (blk_drew BK629.out)
               have n7_ := zA_ (below_drew1 HB.out)
               clear HO612 HO614 HO617 HO624 HO632 BK619 BK629 HB
               have HO612 := n0_
               have HO614 := n1_
               have HO617 := n2_
               have HO624 := n3_
               have HO632 := n4_
               have BK619 := n5_
               have BK629 := n6_
               have HB := n7_
               clear n0_ n1_ n2_ n3_ n4_ n5_ n6_ n7_
               refine start_ (n := 38) (S := fun w' => w'.cell? ⟨gb619, 0, none⟩ = some (.slice Ao32 t615.length co32) ∧ w'.cell? ⟨gb619, 1, none⟩ = some (.int .i64 t618) ∧ w'.cell? ⟨gb629, 0, none⟩ = some (.int .i64 t625) ∧ w'.cell? ⟨gb629, 1, none⟩ = some (.int .i64 t626) ∧ w'.cell? ⟨gb629, 2, none⟩ = some (.int .i64 t627) ∧ w'.cell? ⟨gb629, 3, none⟩ = some (.string t628)) (ds := []) (mr_ [0, 38]) βDa rfl rfl ⟨cy_ BK619.out 0, cy_ BK619.out 1, cy_ BK629.out 0, cy_ BK629.out 1, cy_ BK629.out 2, cy_ BK629.out 3⟩ (fun hHeld => ?_); refine with_tabW laws_FnImage.tab8 laws_FnImage.bits8 (fun HT_ HW_ => ?_)
               generalize w39.drew = w40 at HO612 HO614 HO617 HO624 HO632 BK619 BK629 HB hHeld ⊢
               refine pure_ (i := 1) (N := some 45) (v := ?_) (a' := ?_) (mr_ [0, 1, 1, 36]) rfl rfl (any_of HT_.out βDa) (fun _ _ _ h => h) (Or.inl ⟨(by rfl), ?_⟩) ?_ ?_
               rotate_left; exact pv_; rotate_left; exact pp_
               refine pure_ (i := 2) (N := some 46) (v := ?_) (a' := ?_) (mr_ [0, 1, 2, 35]) rfl rfl (any_of HT_.out βDa) (fun _ _ _ h => h) (Or.inl ⟨(by rfl), ?_⟩) ?_ ?_
               rotate_left; exact pv_; rotate_left; exact pp_
               refine take_ (i := 0) (N := some 44) (v := ?_) (a' := ?_) (mr_ [3, 35]) rfl rfl (take_ofW HT_.out HW_.out βDa) (fun _ _ _ h => h) (Or.inl ⟨(by rfl), ?_⟩) hHeld ?_ ?_
               rotate_left
               · rintro w' ⟨s0, s1, s2, s3, s4, s5⟩
                 go_simp
                 with_reducible rfl
               rotate_left
               exact pp_
               refine one_ (i := 3) (N := some 47) (mr_ [4, 34]) rfl rfl (one_of HT_.out βDa) (by decide) (fun K hK => ?_)
               refine goes_ Tryd.func21 βDa rfl #[.slice Ao28 t609.length co28, .slice Ao29 t610.length co29] (by rfl) rfl rfl zs_ ?_
               with_reducible refine (spec_ImageApply.calls kj2 _ _ t609 _ _ t610 t633 t636 _ ?side1 ?side2 ?side3 ?side4 A11.out).mono ?_
               (case side1 => exact zc_ (Kd.R_reads' HO612.out).2.2)
               (case side2 => exact (Kd.R_reads' HO612.out).2.1)
               (case side3 => exact zc_ (Kd.R_reads' HO614.out).2.2)
               (case side4 => exact (Kd.R_reads' HO614.out).2.1)
               rintro e w41 ⟨v634, rfl, ho0, hb⟩
               refine ⟨_, rfl, ?_⟩
               have n0_ := zA_ (Kd.R_elder' (zr_ HO612.out) (Kd.R_base ho0) hb)
               have n1_ := zA_ (Kd.R_below (zr_ HO614.out) hb)
               have n2_ := zA_ (Kd.R_elder' (zr_ HO617.out) (Kd.R_base ho0) hb)
               have n3_ := zA_ (Kd.R_elder' (zr_ HO624.out) (Kd.R_base ho0) hb)
               have n4_ := zA_ (Kd.R_elder' (zr_ HO632.out) (Kd.R_base ho0) hb)
               have n5_ := zA_ (Kd.R_lower (Kd.R_new' (Kd.R_new' (Kd.R_new' (Kd.R_new' ho0 (Kd.R_lt (zr_ HO612.out))) (Kd.R_lt (zr_ HO617.out))) (Kd.R_lt (zr_ HO624.out))) (Kd.R_lt (zr_ HO632.out))) (below_size (zg2_ HB.out GE619.out GE629.out)))
               have n6_ := zA_ (blk_below (g := gb619) (o := .cells #[.slice Ao32 t615.length co32, .int .i64 t618] 37 (0, 0)) (zb_ BK619.out) hb)
               have n7_ := zA_ (blk_below (g := gb629) (o := .cells #[.int .i64 t625, .int .i64 t626, .int .i64 t627, .string t628] 42 (0, 0)) (zb_ BK629.out) hb)
               have n8_ := zA_ (below_step (zg2_ HB.out GE619.out GE629.out) hb)
               clear HO612 HO614 HO617 HO624 HO632 BK619 BK629 HB
               have HO612 := n0_
               have HO614 := n1_
               have HO617 := n2_
               have HO624 := n3_
               have HO632 := n4_
               have HO635 := n5_
               have BK619 := n6_
               have BK629 := n7_
               have HB := n8_
               clear n0_ n1_ n2_ n3_ n4_ n5_ n6_ n7_ n8_
               (try clear hb)
               (try clear hb2)
               (try clear hk)
               (try clear hi)
               (try clear ho0)
               obtain ⟨Ao42, co42, eo42⟩ := Kd.R_slice HO635.out
               (first | subst eo42 | (injection eo42 with f1_ f2_ f3_; have f4_ := f1_.symm; have f5_ := f3_.symm; clear f1_ f2_ f3_; subst f4_; subst f5_))
               refine hK.out _ _ ⟨cy_ BK619.out 0, cy_ BK619.out 1, cy_ BK629.out 0, cy_ BK629.out 1, cy_ BK629.out 2, cy_ BK629.out 3⟩ (fun hHeld => ?_)
               clear hK K
               refine norm_ (a' := ?_) ?_ ?_
               rotate_left
               · show Act.put _ (some 47) _ = _
                 simp only [Act.put, List.setIfInBounds_toArray, List.set_cons_zero, List.set_cons_succ, i64_w, i32_w]
                 rfl
               refine one_ (i := 4) (N := some 48) (mr_ [5, 33]) rfl rfl (one_of HT_.out βDa) (by decide) (fun K hK => ?_)
               refine goes_ Tryd.func20 βDa rfl #[.agg #[.slice Ao32 t615.length co32, .int .i64 t618], .agg #[.slice Ao42 t633.length co42, .int .i64 t636]] (by rfl) rfl rfl zs_ ?_
               with_reducible refine (laws_lwImage.calls kj2 _ _ t615 t618 _ _ t633 t636 true _ ?side1 ?side2 ?side3 ?side4 A12.out).mono ?_
               (case side1 => exact zc_ (Kd.R_reads' HO617.out).2.2)
               (case side2 => exact (Kd.R_reads' HO617.out).2.1)
               (case side3 => exact zc_ (Kd.R_reads' HO635.out).2.2)
               (case side4 => exact (Kd.R_reads' HO635.out).2.1)
               rintro e w43 ⟨rfl, hb⟩
               refine ⟨_, rfl, ?_⟩
               have n0_ := zA_ (Kd.R_below (zr_ HO612.out) hb)
               have n1_ := zA_ (Kd.R_below (zr_ HO614.out) hb)
               have n2_ := zA_ (Kd.R_below (zr_ HO617.out) hb)
               have n3_ := zA_ (Kd.R_below (zr_ HO624.out) hb)
               have n4_ := zA_ (Kd.R_below (zr_ HO632.out) hb)
               have n5_ := zA_ (Kd.R_below (zr_ HO635.out) hb)
               have n6_ := zA_ (blk_below (g := gb619) (o := .cells #[.slice Ao32 t615.length co32, .int .i64 t618] 37 (0, 0)) (zb_ BK619.out) hb)
               have n7_ := zA_ (blk_below (g := gb629) (o := .cells #[.int .i64 t625, .int .i64 t626, .int .i64 t627, .string t628] 42 (0, 0)) (zb_ BK629.out) hb)
               have n8_ := zA_ (below_step (zg2_ HB.out GE619.out GE629.out) hb)
               clear HO612 HO614 HO617 HO624 HO632 HO635 BK619 BK629 HB
               have HO612 := n0_
               have HO614 := n1_
               have HO617 := n2_
               have HO624 := n3_
               have HO632 := n4_
               have HO635 := n5_
               have BK619 := n6_
               have BK629 := n7_
               have HB := n8_
               clear n0_ n1_ n2_ n3_ n4_ n5_ n6_ n7_ n8_
               (try clear hb)
               (try clear hb2)
               (try clear hk)
               (try clear hi)
               refine hK.out _ _ ⟨cy_ BK619.out 0, cy_ BK619.out 1, cy_ BK629.out 0, cy_ BK629.out 1, cy_ BK629.out 2, cy_ BK629.out 3⟩ (fun hHeld => ?_)
               clear hK K
               refine norm_ (a' := ?_) ?_ ?_
               rotate_left
               · show Act.put _ (some 48) _ = _
                 simp only [Act.put, List.setIfInBounds_toArray, List.set_cons_zero, List.set_cons_succ, i64_w, i32_w]
                 rfl
               refine pure_ (i := 5) (N := some 49) (v := ?_) (a' := ?_) (mr_ [6, 32]) rfl rfl (any_of HT_.out βDa) (fun _ _ _ h => h) (Or.inl ⟨(by rfl), ?_⟩) ?_ ?_
               rotate_left; exact pv_; rotate_left; exact pp_
               refine pure_ (i := 6) (N := some 50) (v := ?_) (a' := ?_) (mr_ [7, 31]) rfl rfl (any_of HT_.out βDa) (fun _ _ _ h => h) (Or.inl ⟨(by rfl), ?_⟩) ?_ ?_
               rotate_left; exact pv_; rotate_left; exact pp_
               refine pure_ (i := 7) (N := some 51) (v := ?_) (a' := ?_) (mr_ [8, 30]) rfl rfl (any_of HT_.out βDa) (fun _ _ _ h => h) (Or.inl ⟨(by rfl), ?_⟩) ?_ ?_
               rotate_left; exact pv_; rotate_left; exact pp_
               refine pure_ (i := 8) (N := some 52) (v := ?_) (a' := ?_) (mr_ [9, 29]) rfl rfl (any_of HT_.out βDa) (fun _ _ _ h => h) (Or.inl ⟨(by rfl), ?_⟩) ?_ ?_
               rotate_left; exact pv_; rotate_left; exact pp_
               refine pure_ (i := 10) (N := some 54) (v := ?_) (a' := ?_) (mr_ [9, 1, 1, 27]) rfl rfl (any_of HT_.out βDa) (fun _ _ _ h => h) (Or.inl ⟨(by rfl), ?_⟩) ?_ ?_
               rotate_left; exact pv_; rotate_left; exact pp_
               refine pure_ (i := 11) (N := some 55) (v := ?_) (a' := ?_) (mr_ [9, 1, 2, 26]) rfl rfl (any_of HT_.out βDa) (fun _ _ _ h => h) (Or.inl ⟨(by rfl), ?_⟩) ?_ ?_
               rotate_left; exact pv_; rotate_left; exact pp_
               refine one_ (i := 9) (N := some 53) (mr_ [12, 26]) rfl rfl (one_of HT_.out βDa) (by decide) (fun K hK => ?_)
               refine goes_ Tryd.func22 βDa rfl #[.string t620, .string t621] (by rfl) rfl rfl zs_ ?_
               with_reducible refine (impl_Xored.calls t620 t621 t638 _ A14.out).mono ?_
               rintro e w44 ⟨rfl, hb⟩
               refine ⟨_, rfl, ?_⟩
               have n0_ := zA_ (Kd.R_below (zr_ HO612.out) hb)
               have n1_ := zA_ (Kd.R_below (zr_ HO614.out) hb)
               have n2_ := zA_ (Kd.R_below (zr_ HO617.out) hb)
               have n3_ := zA_ (Kd.R_below (zr_ HO624.out) hb)
               have n4_ := zA_ (Kd.R_below (zr_ HO632.out) hb)
               have n5_ := zA_ (Kd.R_below (zr_ HO635.out) hb)
               have n6_ := zA_ (blk_below (g := gb619) (o := .cells #[.slice Ao32 t615.length co32, .int .i64 t618] 37 (0, 0)) (zb_ BK619.out) hb)
               have n7_ := zA_ (blk_below (g := gb629) (o := .cells #[.int .i64 t625, .int .i64 t626, .int .i64 t627, .string t628] 42 (0, 0)) (zb_ BK629.out) hb)
               have n8_ := zA_ (below_step (zg2_ HB.out GE619.out GE629.out) hb)
               clear HO612 HO614 HO617 HO624 HO632 HO635 BK619 BK629 HB
               have HO612 := n0_
               have HO614 := n1_
               have HO617 := n2_
               have HO624 := n3_
               have HO632 := n4_
               have HO635 := n5_
               have BK619 := n6_
               have BK629 := n7_
               have HB := n8_
               clear n0_ n1_ n2_ n3_ n4_ n5_ n6_ n7_ n8_
               (try clear hb)
               (try clear hb2)
               (try clear hk)
               (try clear hi)
               refine hK.out _ _ ⟨cy_ BK619.out 0, cy_ BK619.out 1, cy_ BK629.out 0, cy_ BK629.out 1, cy_ BK629.out 2, cy_ BK629.out 3⟩ (fun hHeld => ?_)
               clear hK K
               refine norm_ (a' := ?_) ?_ ?_
               rotate_left
               · show Act.put _ (some 53) _ = _
                 simp only [Act.put, List.setIfInBounds_toArray, List.set_cons_zero, List.set_cons_succ, i64_w, i32_w]
                 rfl
               refine one_ (i := 12) (N := some 56) (mr_ [13, 25]) rfl rfl (one_of HT_.out βDa) (by decide) (fun K hK => ?_)
               refine goes_ Tryd.func23 βDa rfl #[.string t620, .string t621] (by rfl) rfl rfl zs_ ?_
               with_reducible refine (spec_Xored.calls kj2 t620 t621 t639 _ A15.out).mono ?_
               rintro e w45 ⟨rfl, hb⟩
               refine ⟨_, rfl, ?_⟩
               have n0_ := zA_ (Kd.R_below (zr_ HO612.out) hb)
               have n1_ := zA_ (Kd.R_below (zr_ HO614.out) hb)
               have n2_ := zA_ (Kd.R_below (zr_ HO617.out) hb)
               have n3_ := zA_ (Kd.R_below (zr_ HO624.out) hb)
               have n4_ := zA_ (Kd.R_below (zr_ HO632.out) hb)
               have n5_ := zA_ (Kd.R_below (zr_ HO635.out) hb)
               have n6_ := zA_ (blk_below (g := gb619) (o := .cells #[.slice Ao32 t615.length co32, .int .i64 t618] 37 (0, 0)) (zb_ BK619.out) hb)
               have n7_ := zA_ (blk_below (g := gb629) (o := .cells #[.int .i64 t625, .int .i64 t626, .int .i64 t627, .string t628] 42 (0, 0)) (zb_ BK629.out) hb)
               have n8_ := zA_ (below_step (zg2_ HB.out GE619.out GE629.out) hb)
               clear HO612 HO614 HO617 HO624 HO632 HO635 BK619 BK629 HB
               have HO612 := n0_
               have HO614 := n1_
               have HO617 := n2_
               have HO624 := n3_
               have HO632 := n4_
               have HO635 := n5_
               have BK619 := n6_
               have BK629 := n7_
               have HB := n8_
               clear n0_ n1_ n2_ n3_ n4_ n5_ n6_ n7_ n8_
               (try clear hb)
               (try clear hb2)
               (try clear hk)
               (try clear hi)
               obtain ⟨Ao46, co46, eo46⟩ := Kd.R_slice HO624.out
               (first | subst eo46 | (injection eo46 with f1_ f2_ f3_; have f4_ := f1_.symm; have f5_ := f3_.symm; clear f1_ f2_ f3_; subst f4_; subst f5_))
               refine hK.out _ _ ⟨cy_ BK619.out 0, cy_ BK619.out 1, cy_ BK629.out 0, cy_ BK629.out 1, cy_ BK629.out 2, cy_ BK629.out 3⟩ (fun hHeld => ?_)
               clear hK K
               refine norm_ (a' := ?_) ?_ ?_
               rotate_left
               · show Act.put _ (some 56) _ = _
                 simp only [Act.put, List.setIfInBounds_toArray, List.set_cons_zero, List.set_cons_succ, i64_w, i32_w]
                 rfl
               refine pure_ (i := 13) (N := some 57) (v := ?_) (a' := ?_) (mr_ [14, 24]) rfl rfl (any_of HT_.out βDa) (fun _ _ _ h => h) (Or.inl ⟨(by rfl), ?_⟩) ?_ ?_
               rotate_left; exact pv_; rotate_left; exact pp_
               refine pure_ (i := 14) (N := some 58) (v := ?_) (a' := ?_) (mr_ [15, 23]) rfl rfl (any_of HT_.out βDa) (fun _ _ _ h => h) (Or.inl ⟨(by rfl), ?_⟩) ?_ ?_
               rotate_left; exact pv_; rotate_left; exact pp_
               refine pure_ (i := 15) (N := some 59) (v := ?_) (a' := ?_) (mr_ [16, 22]) rfl rfl (any_of HT_.out βDa) (fun _ _ _ h => h) (Or.inl ⟨(by rfl), ?_⟩) ?_ ?_
               rotate_left; exact pv_; rotate_left; exact pp_
               refine pure_ (i := 16) (N := some 60) (v := ?_) (a' := ?_) (mr_ [17, 21]) rfl rfl (any_of HT_.out βDa) (fun _ _ _ h => h) (Or.inl ⟨(by rfl), ?_⟩) ?_ ?_
               rotate_left; exact pv_; rotate_left; exact pp_
               refine pure_ (i := 19) (N := some 63) (v := ?_) (a' := ?_) (mr_ [17, 2, 1, 18]) rfl rfl (any_of HT_.out βDa) (fun _ _ _ h => h) (Or.inl ⟨(by rfl), ?_⟩) ?_ ?_
               rotate_left; exact pv_; rotate_left; exact pp_
               refine take_ (i := 17) (N := some 61) (v := ?_) (a' := ?_) (mr_ [18, 1, 1, 18]) rfl rfl (take_ofW HT_.out HW_.out βDa) (fun _ _ _ h => h) (Or.inl ⟨(by rfl), ?_⟩) hHeld ?_ ?_
               rotate_left
               · rintro w' ⟨s0, s1, s2, s3, s4, s5⟩
                 go_simp
                 with_reducible rfl
               rotate_left
               exact pp_
               refine take_ (i := 20) (N := some 64) (v := ?_) (a' := ?_) (mr_ [18, 1, 2, 17]) rfl rfl (take_ofW HT_.out HW_.out βDa) (fun _ _ _ h => h) (Or.inl ⟨(by rfl), ?_⟩) hHeld ?_ ?_
               rotate_left
               · rintro w' ⟨s0, s1, s2, s3, s4, s5⟩
                 go_simp
                 with_reducible rfl
               rotate_left
               exact pp_
               refine one_ (i := 18) (N := some 62) (mr_ [21, 17]) rfl rfl (one_of HT_.out βDa) (by decide) (fun K hK => ?_)
               refine goes_ Tryd.func24 βDa rfl #[.slice Ao46 t622.length co46, .agg #[.int .i64 t625, .int .i64 t626, .int .i64 t627, .string t628]] (by rfl) rfl rfl zs_ ?_
               with_reducible refine (impl_MadeBy.calls kj2 _ _ t622 t625 t626 t627 t628 t640 _ ?side1 ?side2 A17.out).mono ?_
               (case side1 => exact zc_ (Kd.R_reads' HO624.out).2.2)
               (case side2 => exact (Kd.R_reads' HO624.out).2.1)
               rintro e w47 ⟨rfl, hb⟩
               refine ⟨_, rfl, ?_⟩
               have n0_ := zA_ (Kd.R_below (zr_ HO612.out) hb)
               have n1_ := zA_ (Kd.R_below (zr_ HO614.out) hb)
               have n2_ := zA_ (Kd.R_below (zr_ HO617.out) hb)
               have n3_ := zA_ (Kd.R_below (zr_ HO624.out) hb)
               have n4_ := zA_ (Kd.R_below (zr_ HO632.out) hb)
               have n5_ := zA_ (Kd.R_below (zr_ HO635.out) hb)
               have n6_ := zA_ (blk_below (g := gb619) (o := .cells #[.slice Ao32 t615.length co32, .int .i64 t618] 37 (0, 0)) (zb_ BK619.out) hb)
               have n7_ := zA_ (blk_below (g := gb629) (o := .cells #[.int .i64 t625, .int .i64 t626, .int .i64 t627, .string t628] 42 (0, 0)) (zb_ BK629.out) hb)
               have n8_ := zA_ (below_step (zg2_ HB.out GE619.out GE629.out) hb)
               clear HO612 HO614 HO617 HO624 HO632 HO635 BK619 BK629 HB
               have HO612 := n0_
               have HO614 := n1_
               have HO617 := n2_
               have HO624 := n3_
               have HO632 := n4_
               have HO635 := n5_
               have BK619 := n6_
               have BK629 := n7_
               have HB := n8_
               clear n0_ n1_ n2_ n3_ n4_ n5_ n6_ n7_ n8_
               (try clear hb)
               (try clear hb2)
               (try clear hk)
               (try clear hi)
               refine hK.out _ _ ⟨cy_ BK619.out 0, cy_ BK619.out 1, cy_ BK629.out 0, cy_ BK629.out 1, cy_ BK629.out 2, cy_ BK629.out 3⟩ (fun hHeld => ?_)
               clear hK K
               refine norm_ (a' := ?_) ?_ ?_
               rotate_left
               · show Act.put _ (some 62) _ = _
                 simp only [Act.put, List.setIfInBounds_toArray, List.set_cons_zero, List.set_cons_succ, i64_w, i32_w]
                 rfl
               refine one_ (i := 21) (N := some 65) (mr_ [22, 16]) rfl rfl (one_of HT_.out βDa) (by decide) (fun K hK => ?_)
               refine goes_ Tryd.func25 βDa rfl #[.slice Ao46 t622.length co46, .agg #[.int .i64 t625, .int .i64 t626, .int .i64 t627, .string t628]] (by rfl) rfl rfl zs_ ?_
               with_reducible refine (spec_MadeBy.calls kj2 _ _ t622 t625 t626 t627 t628 t641 _ ?side1 ?side2 A18.out).mono ?_
               (case side1 => exact zc_ (Kd.R_reads' HO624.out).2.2)
               (case side2 => exact (Kd.R_reads' HO624.out).2.1)
               rintro e w48 ⟨rfl, hb⟩
               refine ⟨_, rfl, ?_⟩
               have n0_ := zA_ (Kd.R_below (zr_ HO612.out) hb)
               have n1_ := zA_ (Kd.R_below (zr_ HO614.out) hb)
               have n2_ := zA_ (Kd.R_below (zr_ HO617.out) hb)
               have n3_ := zA_ (Kd.R_below (zr_ HO624.out) hb)
               have n4_ := zA_ (Kd.R_below (zr_ HO632.out) hb)
               have n5_ := zA_ (Kd.R_below (zr_ HO635.out) hb)
               have n6_ := zA_ (blk_below (g := gb619) (o := .cells #[.slice Ao32 t615.length co32, .int .i64 t618] 37 (0, 0)) (zb_ BK619.out) hb)
               have n7_ := zA_ (blk_below (g := gb629) (o := .cells #[.int .i64 t625, .int .i64 t626, .int .i64 t627, .string t628] 42 (0, 0)) (zb_ BK629.out) hb)
               have n8_ := zA_ (below_step (zg2_ HB.out GE619.out GE629.out) hb)
               clear HO612 HO614 HO617 HO624 HO632 HO635 BK619 BK629 HB
               have HO612 := n0_
               have HO614 := n1_
               have HO617 := n2_
               have HO624 := n3_
               have HO632 := n4_
               have HO635 := n5_
               have BK619 := n6_
               have BK629 := n7_
               have HB := n8_
               clear n0_ n1_ n2_ n3_ n4_ n5_ n6_ n7_ n8_
               (try clear hb)
               (try clear hb2)
               (try clear hk)
               (try clear hi)
               obtain ⟨Ao49, co49, eo49⟩ := Kd.R_slice HO632.out
               (first | subst eo49 | (injection eo49 with f1_ f2_ f3_; have f4_ := f1_.symm; have f5_ := f3_.symm; clear f1_ f2_ f3_; subst f4_; subst f5_))
               refine hK.out _ _ ⟨cy_ BK619.out 0, cy_ BK619.out 1, cy_ BK629.out 0, cy_ BK629.out 1, cy_ BK629.out 2, cy_ BK629.out 3⟩ (fun hHeld => ?_)
               clear hK K
               refine norm_ (a' := ?_) ?_ ?_
               rotate_left
               · show Act.put _ (some 65) _ = _
                 simp only [Act.put, List.setIfInBounds_toArray, List.set_cons_zero, List.set_cons_succ, i64_w, i32_w]
                 rfl
               refine pure_ (i := 22) (N := some 66) (v := ?_) (a' := ?_) (mr_ [23, 15]) rfl rfl (any_of HT_.out βDa) (fun _ _ _ h => h) (Or.inl ⟨(by rfl), ?_⟩) ?_ ?_
               rotate_left; exact pv_; rotate_left; exact pp_
               refine pure_ (i := 23) (N := some 67) (v := ?_) (a' := ?_) (mr_ [24, 14]) rfl rfl (any_of HT_.out βDa) (fun _ _ _ h => h) (Or.inl ⟨(by rfl), ?_⟩) ?_ ?_
               rotate_left; exact pv_; rotate_left; exact pp_
               refine pure_ (i := 24) (N := some 68) (v := ?_) (a' := ?_) (mr_ [25, 13]) rfl rfl (any_of HT_.out βDa) (fun _ _ _ h => h) (Or.inl ⟨(by rfl), ?_⟩) ?_ ?_
               rotate_left; exact pv_; rotate_left; exact pp_
               refine pure_ (i := 25) (N := some 69) (v := ?_) (a' := ?_) (mr_ [26, 12]) rfl rfl (any_of HT_.out βDa) (fun _ _ _ h => h) (Or.inl ⟨(by rfl), ?_⟩) ?_ ?_
               rotate_left; exact pv_; rotate_left; exact pp_
               refine pure_ (i := 27) (N := some 71) (v := ?_) (a' := ?_) (mr_ [26, 1, 1, 10]) rfl rfl (any_of HT_.out βDa) (fun _ _ _ h => h) (Or.inl ⟨(by rfl), ?_⟩) ?_ ?_
               rotate_left; exact pv_; rotate_left; exact pp_
               refine one_ (i := 26) (N := some 70) (mr_ [28, 10]) rfl rfl (one_of HT_.out βDa) (by decide) (fun K hK => ?_)
               refine goes_ Tryd.func13 βDa rfl #[.slice Ao49 t630.length co49] (by rfl) rfl rfl zs_ ?_
               with_reducible refine (impl_ImageDigest.calls _ _ t630 t642 _ (dg.G_below HG.out (zg2_ HB.out GE619.out GE629.out)) ?side1 ?side2 A20.out).mono ?_
               (case side1 => exact zc_ (Kd.R_reads' HO632.out).2.2)
               (case side2 => exact (Kd.R_reads' HO632.out).2.1)
               rintro e w50 ⟨rfl, hb⟩
               refine ⟨_, rfl, ?_⟩
               have n0_ := zA_ (Kd.R_below (zr_ HO612.out) hb)
               have n1_ := zA_ (Kd.R_below (zr_ HO614.out) hb)
               have n2_ := zA_ (Kd.R_below (zr_ HO617.out) hb)
               have n3_ := zA_ (Kd.R_below (zr_ HO624.out) hb)
               have n4_ := zA_ (Kd.R_below (zr_ HO632.out) hb)
               have n5_ := zA_ (Kd.R_below (zr_ HO635.out) hb)
               have n6_ := zA_ (blk_below (g := gb619) (o := .cells #[.slice Ao32 t615.length co32, .int .i64 t618] 37 (0, 0)) (zb_ BK619.out) hb)
               have n7_ := zA_ (blk_below (g := gb629) (o := .cells #[.int .i64 t625, .int .i64 t626, .int .i64 t627, .string t628] 42 (0, 0)) (zb_ BK629.out) hb)
               have n8_ := zA_ (below_step (zg2_ HB.out GE619.out GE629.out) hb)
               clear HO612 HO614 HO617 HO624 HO632 HO635 BK619 BK629 HB
               have HO612 := n0_
               have HO614 := n1_
               have HO617 := n2_
               have HO624 := n3_
               have HO632 := n4_
               have HO635 := n5_
               have BK619 := n6_
               have BK629 := n7_
               have HB := n8_
               clear n0_ n1_ n2_ n3_ n4_ n5_ n6_ n7_ n8_
               (try clear hb)
               (try clear hb2)
               (try clear hk)
               (try clear hi)
               refine hK.out _ _ ⟨cy_ BK619.out 0, cy_ BK619.out 1, cy_ BK629.out 0, cy_ BK629.out 1, cy_ BK629.out 2, cy_ BK629.out 3⟩ (fun hHeld => ?_)
               clear hK K
               refine norm_ (a' := ?_) ?_ ?_
               rotate_left
               · show Act.put _ (some 70) _ = _
                 simp only [Act.put, List.setIfInBounds_toArray, List.set_cons_zero, List.set_cons_succ, i64_w, i32_w]
                 rfl
               refine one_ (i := 28) (N := some 72) (mr_ [29, 9]) rfl rfl (one_of HT_.out βDa) (by decide) (fun K hK => ?_)
               refine goes_ Tryd.func11 βDa rfl #[.slice Ao49 t630.length co49] (by rfl) rfl rfl zs_ ?_
               with_reducible refine (spec_ImageDigest.calls _ _ t630 t643 _ ?side1 ?side2 A21.out).mono ?_
               (case side1 => exact zc_ (Kd.R_reads' HO632.out).2.2)
               (case side2 => exact (Kd.R_reads' HO632.out).2.1)
               rintro e w51 ⟨rfl, hb⟩
               refine ⟨_, rfl, ?_⟩
               have n0_ := zA_ (Kd.R_below (zr_ HO612.out) hb)
               have n1_ := zA_ (Kd.R_below (zr_ HO614.out) hb)
               have n2_ := zA_ (Kd.R_below (zr_ HO617.out) hb)
               have n3_ := zA_ (Kd.R_below (zr_ HO624.out) hb)
               have n4_ := zA_ (Kd.R_below (zr_ HO632.out) hb)
               have n5_ := zA_ (Kd.R_below (zr_ HO635.out) hb)
               have n6_ := zA_ (blk_below (g := gb619) (o := .cells #[.slice Ao32 t615.length co32, .int .i64 t618] 37 (0, 0)) (zb_ BK619.out) hb)
               have n7_ := zA_ (blk_below (g := gb629) (o := .cells #[.int .i64 t625, .int .i64 t626, .int .i64 t627, .string t628] 42 (0, 0)) (zb_ BK629.out) hb)
               have n8_ := zA_ (below_step (zg2_ HB.out GE619.out GE629.out) hb)
               clear HO612 HO614 HO617 HO624 HO632 HO635 BK619 BK629 HB
               have HO612 := n0_
               have HO614 := n1_
               have HO617 := n2_
               have HO624 := n3_
               have HO632 := n4_
               have HO635 := n5_
               have BK619 := n6_
               have BK629 := n7_
               have HB := n8_
               clear n0_ n1_ n2_ n3_ n4_ n5_ n6_ n7_ n8_
               (try clear hb)
               (try clear hb2)
               (try clear hk)
               (try clear hi)
               refine hK.out _ _ ⟨cy_ BK619.out 0, cy_ BK619.out 1, cy_ BK629.out 0, cy_ BK629.out 1, cy_ BK629.out 2, cy_ BK629.out 3⟩ (fun hHeld => ?_)
               clear hK K
               refine norm_ (a' := ?_) ?_ ?_
               rotate_left
               · show Act.put _ (some 72) _ = _
                 simp only [Act.put, List.setIfInBounds_toArray, List.set_cons_zero, List.set_cons_succ, i64_w, i32_w]
                 rfl
               refine pure_ (i := 29) (N := some 73) (v := ?_) (a' := ?_) (mr_ [30, 8]) rfl rfl (any_of HT_.out βDa) (fun _ _ _ h => h) (Or.inl ⟨(by rfl), ?_⟩) ?_ ?_
               rotate_left; exact pv_; rotate_left; exact pp_
               refine pure_ (i := 30) (N := some 74) (v := ?_) (a' := ?_) (mr_ [31, 7]) rfl rfl (any_of HT_.out βDa) (fun _ _ _ h => h) (Or.inl ⟨(by rfl), ?_⟩) ?_ ?_
               rotate_left; exact pv_; rotate_left; exact pp_
               refine pure_ (i := 31) (N := some 75) (v := ?_) (a' := ?_) (mr_ [32, 6]) rfl rfl (any_of HT_.out βDa) (fun _ _ _ h => h) (Or.inl ⟨(by rfl), ?_⟩) ?_ ?_
               rotate_left; exact pv_; rotate_left; exact pp_
               refine pure_ (i := 32) (N := some 76) (v := ?_) (a' := ?_) (mr_ [33, 5]) rfl rfl (any_of HT_.out βDa) (fun _ _ _ h => h) (Or.inl ⟨(by rfl), ?_⟩) ?_ ?_
               rotate_left; exact pv_; rotate_left; exact pp_
               refine pure_ (i := 34) (N := some 78) (v := ?_) (a' := ?_) (mr_ [33, 1, 1, 3]) rfl rfl (any_of HT_.out βDa) (fun _ _ _ h => h) (Or.inl ⟨(by rfl), ?_⟩) ?_ ?_
               rotate_left; exact pv_; rotate_left; exact pp_
               refine one_ (i := 33) (N := some 77) (mr_ [35, 3]) rfl rfl (one_of HT_.out βDa) (by decide) (fun K hK => ?_)
               refine goes_ Tryd.func26 βDa rfl #[.slice Ao28 t609.length co28] (by rfl) rfl rfl zs_ ?_
               with_reducible refine (impl_ImageRight.calls _ _ t609 t644 _ ?side1 ?side2 A23.out).mono ?_
               (case side1 => exact zc_ (Kd.R_reads' HO612.out).2.2)
               (case side2 => exact (Kd.R_reads' HO612.out).2.1)
               rintro e w' ⟨rfl, ⟨nd, rfl⟩⟩
               refine ⟨_, rfl, ?_⟩
               refine hK.out _ _ ⟨cy_ BK619.out 0, cy_ BK619.out 1, cy_ BK629.out 0, cy_ BK629.out 1, cy_ BK629.out 2, cy_ BK629.out 3⟩ (fun hHeld => ?_)
               clear hK K
               refine norm_ (a' := ?_) ?_ ?_
               rotate_left
               · show Act.put _ (some 77) _ = _
                 simp only [Act.put, List.setIfInBounds_toArray, List.set_cons_zero, List.set_cons_succ, i64_w, i32_w]
                 rfl
               refine one_ (i := 35) (N := some 79) (mr_ [36, 2]) rfl rfl (one_of HT_.out βDa) (by decide) (fun K hK => ?_)
               refine goes_ Tryd.func27 βDa rfl #[.slice Ao28 t609.length co28] (by rfl) rfl rfl zs_ ?_
               with_reducible refine (spec_ImageRight.calls kj2 _ _ t609 t645 _ ?side1 ?side2 A24.out).mono ?_
               (case side1 => exact zc_ (Kd.R_reads' HO612.out).2.2)
               (case side2 => exact (Kd.R_reads' HO612.out).2.1)
               rintro e w' ⟨rfl, ⟨nd, rfl⟩⟩
               refine ⟨_, rfl, ?_⟩
               refine hK.out _ _ ⟨cy_ BK619.out 0, cy_ BK619.out 1, cy_ BK629.out 0, cy_ BK629.out 1, cy_ BK629.out 2, cy_ BK629.out 3⟩ (fun hHeld => ?_)
               clear hK K
               refine norm_ (a' := ?_) ?_ ?_
               rotate_left
               · show Act.put _ (some 79) _ = _
                 simp only [Act.put, List.setIfInBounds_toArray, List.set_cons_zero, List.set_cons_succ, i64_w, i32_w]
                 rfl
               refine pure_ (i := 36) (N := some 80) (v := ?_) (a' := ?_) (mr_ [37, 1]) rfl rfl (any_of HT_.out βDa) (fun _ _ _ h => h) (Or.inl ⟨(by rfl), ?_⟩) ?_ ?_
               rotate_left; exact pv_; rotate_left; exact pp_
               refine pure_ (i := 37) (N := some 81) (v := ?_) (a' := ?_) (mr_ [38]) rfl rfl (any_of HT_.out βDa) (fun _ _ _ h => h) (Or.inl ⟨(by rfl), ?_⟩) ?_ ?_
               rotate_left; exact pv_; rotate_left; exact pp_
               refine done_ (done_of HT_.out βDa) ?_
               go_upto_region 10 with (fail)
               go_cut [98] (fun v98 wc => ∃ (kq : Nat) (x98_25 : Bool), v98 = .bool x98_25 ∧ Aside0 (laws_FnImage.j1 kq t609 t610 x98_25 t615 t618 = some r) ∧ Aside0 (kq ≤ kj2) ∧ Aside0 (Kd.R Kd.string 9 wc w.heap.size (fun k_ => some k_ ≠ ((.slice Ao32 t615.length co32) : Value).ownBlock) (.slice Ao28 t609.length co28) t609) ∧ Aside0 (Kd.R k42 42 wc w.heap.size (fun k_ => k_ ≠ gb629) (.slice Ao29 t610.length co29) t610) ∧ Aside0 (Kd.R Kd.string 9 wc w.heap.size (fun k_ => some k_ ≠ ((.slice Ao28 t609.length co28) : Value).ownBlock) (.slice Ao32 t615.length co32) t615) ∧ Aside0 (wc.heap[gb619]? = some (.cells #[(.slice Ao32 t615.length co32), .int .i64 t618] 37 (0, 0))) ∧ Aside0 (wc.heap[gb629]? = some (.cells #[.int .i64 t625, .int .i64 t626, .int .i64 t627, .string t628] 42 (0, 0))) ∧ Aside0 (Below w.heap.size w wc))
               case first =>
                have H := HC26.out
                clear HC26
                by_cases c52 : (t620.size : Int) = 8
                · rw [if_pos c52] at H
                  have c52b0 : ((t620.size : Int) == 8) = true := beq_iff_eq.mpr c52
                  have c52b1 : ((t620.size : Int) != 8) = false := bne_eq_false_iff_eq.mpr c52
                  clear c52
                  (first | rw [c52b0] | (simp only [i64_w, i32_w]; rw [c52b0]) | skip)
                  by_cases c53 : (t621.size : Int) = 8
                  · rw [if_pos c53] at H
                    have c53b0 : ((t621.size : Int) == 8) = true := beq_iff_eq.mpr c53
                    have c53b1 : ((t621.size : Int) != 8) = false := bne_eq_false_iff_eq.mpr c53
                    clear c53
                    replace H := Option.bind_eq_some_iff.mp H
                    obtain ⟨t654, A540, H⟩ := H
                    replace H : ((impl_Xored.f t654 t621).bind fun t655 => (laws_FnImage.j1 kj2 t609 t610 (t655.toList != t620.toList) t615 t618)) = some r := H
                    have A54 := zA_ A540
                    clear A540
                    replace H := Option.bind_eq_some_iff.mp H
                    obtain ⟨t655, A550, H⟩ := H
                    replace H : (laws_FnImage.j1 kj2 t609 t610 (t655.toList != t620.toList) t615 t618) = some r := H
                    have A55 := zA_ A550
                    clear A550
                    have H' := zA_ H
                    clear H
                    go_wp2_with (first | (go_at_call 22; (with_reducible refine (impl_Xored.calls t620 t621 t654 _ A54.out).mono ?_); rintro e w56 ⟨rfl, hb⟩; have n0_ := zA_ (Kd.R_below (zr_ HO612.out) hb); have n1_ := zA_ (Kd.R_below (zr_ HO614.out) hb); have n2_ := zA_ (Kd.R_below (zr_ HO617.out) hb); have n3_ := zA_ (Kd.R_below (zr_ HO624.out) hb); have n4_ := zA_ (Kd.R_below (zr_ HO632.out) hb); have n5_ := zA_ (Kd.R_below (zr_ HO635.out) hb); have n6_ := zA_ (blk_below (g := gb619) (o := .cells #[.slice Ao32 t615.length co32, .int .i64 t618] 37 (0, 0)) (zb_ BK619.out) hb); have n7_ := zA_ (blk_below (g := gb629) (o := .cells #[.int .i64 t625, .int .i64 t626, .int .i64 t627, .string t628] 42 (0, 0)) (zb_ BK629.out) hb); have n8_ := zA_ (below_step (zg2_ HB.out GE619.out GE629.out) hb); clear HO612 HO614 HO617 HO624 HO632 HO635 BK619 BK629 HB; have HO612 := n0_; have HO614 := n1_; have HO617 := n2_; have HO624 := n3_; have HO632 := n4_; have HO635 := n5_; have BK619 := n6_; have BK629 := n7_; have HB := n8_; clear n0_ n1_ n2_ n3_ n4_ n5_ n6_ n7_ n8_; (try clear hb); (try clear hb2); (try clear hk); (try clear hi)) | (go_at_call 22; (with_reducible refine (impl_Xored.calls t654 t621 t655 _ A55.out).mono ?_); rintro e w57 ⟨rfl, hb⟩; have n0_ := zA_ (Kd.R_below (zr_ HO612.out) hb); have n1_ := zA_ (Kd.R_below (zr_ HO614.out) hb); have n2_ := zA_ (Kd.R_below (zr_ HO617.out) hb); have n3_ := zA_ (Kd.R_below (zr_ HO624.out) hb); have n4_ := zA_ (Kd.R_below (zr_ HO632.out) hb); have n5_ := zA_ (Kd.R_below (zr_ HO635.out) hb); have n6_ := zA_ (blk_below (g := gb619) (o := .cells #[.slice Ao32 t615.length co32, .int .i64 t618] 37 (0, 0)) (zb_ BK619.out) hb); have n7_ := zA_ (blk_below (g := gb629) (o := .cells #[.int .i64 t625, .int .i64 t626, .int .i64 t627, .string t628] 42 (0, 0)) (zb_ BK629.out) hb); have n8_ := zA_ (below_step (zg2_ HB.out GE619.out GE629.out) hb); clear HO612 HO614 HO617 HO624 HO632 HO635 BK619 BK629 HB; have HO612 := n0_; have HO614 := n1_; have HO617 := n2_; have HO624 := n3_; have HO632 := n4_; have HO635 := n5_; have BK619 := n6_; have BK629 := n7_; have HB := n8_; clear n0_ n1_ n2_ n3_ n4_ n5_ n6_ n7_ n8_; (try clear hb); (try clear hb2); (try clear hk); (try clear hi)))
                    go_meet
                    case rel => exact ⟨_, ((t655.toList != t620.toList)), βya, H', ⟨(by have := HJ2.out; first | omega | exact Nat.le_refl _)⟩, ⟨βla⟩, ⟨βna⟩, ⟨βma⟩, ⟨zb_ BK619.out⟩, ⟨zb_ BK629.out⟩, ⟨zg2_ HB.out GE619.out GE629.out⟩⟩
                  · rw [if_neg c53] at H
                    have c53b0 : ((t621.size : Int) == 8) = false := beq_eq_false_iff_ne.mpr c53
                    have c53b1 : ((t621.size : Int) != 8) = true := bne_iff_ne.mpr c53
                    have H' := zA_ H
                    clear H
                    go_wp2
                    go_meet
                    case rel => exact ⟨_, (false), βya, H', ⟨(by have := HJ2.out; first | omega | exact Nat.le_refl _)⟩, ⟨βla⟩, ⟨βna⟩, ⟨βma⟩, ⟨zb_ BK619.out⟩, ⟨zb_ BK629.out⟩, ⟨zg2_ HB.out GE619.out GE629.out⟩⟩
                · rw [if_neg c52] at H
                  have c52b0 : ((t620.size : Int) == 8) = false := beq_eq_false_iff_ne.mpr c52
                  have c52b1 : ((t620.size : Int) != 8) = true := bne_iff_ne.mpr c52
                  (first | rw [c52b0] | (simp only [i64_w, i32_w]; rw [c52b0]) | skip)
                  have H' := zA_ H
                  clear H
                  go_wp2
                  go_meet
                  case rel => exact ⟨_, (false), βya, H', ⟨(by have := HJ2.out; first | omega | exact Nat.le_refl _)⟩, ⟨βla⟩, ⟨βna⟩, ⟨βma⟩, ⟨zb_ BK619.out⟩, ⟨zb_ BK629.out⟩, ⟨zg2_ HB.out GE619.out GE629.out⟩⟩
               case rest =>
                clear HC26
                try clear c1
                try clear c2
                try clear p2
                try clear c5
                try clear c11
                try clear c13
                try clear c22
                try clear c23
                try clear c24
                try clear c25
                try clear c26
                try clear c27
                try clear c52
                try clear c52b0
                try clear c52b1
                try clear c53
                try clear c53b0
                try clear c53b1
                obtain ⟨kq, x98_25, rfl, HA, HJ25, HO_5, HO_6, HO_620000, BK619, BK629, HB⟩ := hcut
                cases kq with
                | zero => exact absurd HA.out (by simp [laws_FnImage.j1])
                | succ kj25 =>
                 have H := HA.out
                 clear HA
                 simp only [laws_FnImage.j1] at H
                 by_cases c58 : x98_25 = true
                 · subst c58
                   have H1 : (none) = some r := by rw [if_pos rfl] at H; exact H
                   clear H
                   have H := H1
                   clear H1
                   exact absurd H (by simp)
                 · replace c58 := Bool.eq_false_iff.mpr c58
                   subst c58
                   have H1 : (if t618 = 0 then (if (t615.length : Int) = (t609.length : Int) then (laws_FnImage.l0 kj25 t609 t610 0 t615 t618) else (none)) else (some true)) = some r := by rw [if_neg (show ¬ (false = true) by decide)] at H; exact H
                   clear H
                   have H := H1
                   clear H1
                   by_cases c59 : t618 = 0
                   · rw [if_pos c59] at H
                     have c59b0 : (t618 == 0) = true := beq_iff_eq.mpr c59
                     have c59b1 : (t618 != 0) = false := bne_eq_false_iff_eq.mpr c59
                     clear c59
                     by_cases c60 : (t615.length : Int) = (t609.length : Int)
                     · rw [if_pos c60] at H
                       have c60b0 : ((t615.length : Int) == (t609.length : Int)) = true := beq_iff_eq.mpr c60
                       have c60b1 : ((t615.length : Int) != (t609.length : Int)) = false := bne_eq_false_iff_eq.mpr c60
                       have c60b2 : (t615.length == t609.length) = true := by first | simpa using c60 | (simp at c60 ⊢; omega)
                       clear c60
                       have H' := zA_ H
                       clear H
                       have hnb61 := NB619_629.out
                       have hnc61 := NB629_619.out
                       have hcz62_0 := cz_ BK619.out 0 (.slice Ao32 t615.length co32) rfl
                       have hcz62_1 := cz_ BK619.out 1 (.int .i64 t618) rfl
                       have hfz62_0 := blk_frozen BK619.out 0
                       have hfz62_1 := blk_frozen BK619.out 1
                       go_wp2
                       go_loopg [13] kj25 (fun kq v13 w' => ∃ (x13_3 : Int), v13 = .int .i64 x13_3 ∧ Aside0 (laws_FnImage.l0 kq t609 t610 x13_3 t615 t618 = some r) ∧ Aside0 (kq ≤ kj25) ∧ Aside0 (Kd.R Kd.string 9 w' w.heap.size (fun k_ => some k_ ≠ ((.slice Ao32 t615.length co32) : Value).ownBlock) (.slice Ao28 t609.length co28) t609) ∧ Aside0 (Kd.R k42 42 w' w.heap.size (fun k_ => k_ ≠ gb629) (.slice Ao29 t610.length co29) t610) ∧ Aside0 (Kd.R Kd.string 9 w' w.heap.size (fun k_ => some k_ ≠ ((.slice Ao28 t609.length co28) : Value).ownBlock) (.slice Ao32 t615.length co32) t615) ∧ Aside0 (w'.heap[gb619]? = some (.cells #[(.slice Ao32 t615.length co32), .int .i64 t618] 37 (0, 0))) ∧ Aside0 (w'.heap[gb629]? = some (.cells #[.int .i64 t625, .int .i64 t626, .int .i64 t627, .string t628] 42 (0, 0))) ∧ Aside0 (Below w.heap.size w w'))
                       case atStart => exact ⟨(0), βya, H', ⟨Nat.le_refl _⟩, ⟨zr_ HO_5.out⟩, ⟨zr_ HO_6.out⟩, ⟨zr_ HO_620000.out⟩, ⟨zb_ BK619.out⟩, ⟨zb_ BK629.out⟩, ⟨zg2_ HB.out GE619.out GE629.out⟩⟩
                       case round =>
                        clear H'
                        try clear c1
                        try clear c2
                        try clear p2
                        try clear c5
                        try clear c6
                        try clear c11
                        try clear c13
                        try clear c22
                        try clear c23
                        try clear c24
                        try clear c25
                        try clear c26
                        try clear c27
                        try clear c52
                        try clear c52b0
                        try clear c52b1
                        try clear c53
                        try clear c53b0
                        try clear c53b1
                        try clear c58
                        try clear c59
                        try clear c59b0
                        try clear c59b1
                        try clear c60
                        try clear c60b0
                        try clear c60b1
                        try clear c60b2
                        try clear c61
                        try clear hcz62_0
                        try clear hcz62_1
                        try clear hfz62_0
                        try clear hfz62_1
                        try clear p2
                        obtain ⟨x13_3, rfl, HA, HK3, HO_5, HO_6, HO_620000, BK619, BK629, HB⟩ := hrel
                        cases gk with
                        | zero => exact absurd HA.out (by simp [laws_FnImage.l0])
                        | succ k3 =>
                         have H := HA.out
                         clear HA
                         simp only [laws_FnImage.l0] at H
                         by_cases c63 : x13_3 < (t609.length : Int)
                         · rw [if_pos c63] at H
                           have c63b0 : decide (x13_3 < (t609.length : Int)) = true := decide_eq_true c63
                           clear c63
                           by_cases c64 : 0 ≤ x13_3
                           · rw [if_pos c64] at H
                             have c64b0 : decide (0 ≤ x13_3) = true := decide_eq_true c64
                             clear c64
                             have H' := zA_ H
                             clear H
                             have p656 : 0 ≤ (x13_3 : Int) := of_decide_eq_true βxa
                             have q656 : x13_3 < (t609.length : Int) := of_decide_eq_true βxa
                             obtain ⟨ad656, e656, hx656_0⟩ := Kd.at_string (Kd.R_reads' HO_5.out).2.2 x13_3 p656 q656
                             cases e656
                             replace p656 := eq_true p656
                             replace q656 := eq_true q656
                             go_wp2
                             go_loopg [14, 15] k3 (fun kq v14 v15 w' => ∃ (x14_4 : ByteArray) (x15_4 : Int), v14 = .string x14_4 ∧ v15 = .int .i64 x15_4 ∧ Aside0 (laws_FnImage.l1 kq t609 t610 x13_3 x14_4 x15_4 t615 t618 = some r) ∧ Aside0 (kq ≤ k3) ∧ Aside0 (Kd.R Kd.string 9 w' w.heap.size (fun k_ => some k_ ≠ ((.slice Ao32 t615.length co32) : Value).ownBlock) (.slice (some ad656) t609.length co28) t609) ∧ Aside0 (Kd.R k42 42 w' w.heap.size (fun k_ => k_ ≠ gb629) (.slice Ao29 t610.length co29) t610) ∧ Aside0 (Kd.R Kd.string 9 w' w.heap.size (fun k_ => some k_ ≠ ((.slice (some ad656) t609.length co28) : Value).ownBlock) (.slice Ao32 t615.length co32) t615) ∧ Aside0 (w'.heap[gb619]? = some (.cells #[(.slice Ao32 t615.length co32), .int .i64 t618] 37 (0, 0))) ∧ Aside0 (w'.heap[gb629]? = some (.cells #[.int .i64 t625, .int .i64 t626, .int .i64 t627, .string t628] 42 (0, 0))) ∧ Aside0 (Below w.heap.size w w'))
                             case atStart => exact ⟨(rdOf ByteArray.empty t609 x13_3), (0), βya, βya, H', ⟨Nat.le_refl _⟩, ⟨zr_ HO_5.out⟩, ⟨zr_ HO_6.out⟩, ⟨zr_ HO_620000.out⟩, ⟨zb_ BK619.out⟩, ⟨zb_ BK629.out⟩, ⟨zg2_ HB.out GE619.out GE629.out⟩⟩
                             case round =>
                              clear H'
                              try clear c1
                              try clear c2
                              try clear p2
                              try clear c5
                              try clear c6
                              try clear p6
                              try clear q6
                              try clear hx6
                              try clear c11
                              try clear c13
                              try clear c22
                              try clear c23
                              try clear c24
                              try clear c25
                              try clear c26
                              try clear c27
                              try clear c52
                              try clear c52b0
                              try clear c52b1
                              try clear c53
                              try clear c53b0
                              try clear c53b1
                              try clear c58
                              try clear c59
                              try clear c59b0
                              try clear c59b1
                              try clear c60
                              try clear c60b0
                              try clear c60b1
                              try clear c60b2
                              try clear c61
                              try clear c63
                              try clear c63b0
                              try clear c64
                              try clear c64b0
                              try clear hcz62_0
                              try clear hcz62_1
                              try clear hfz62_0
                              try clear hfz62_1
                              try clear hx656_0
                              try clear p2
                              try clear p656
                              try clear q656
                              obtain ⟨x14_4, x15_4, rfl, rfl, HA, HK4, HO_5, HO_6, HO_620000, BK619, BK629, HB⟩ := hrel
                              cases gk with
                              | zero => exact absurd HA.out (by simp [laws_FnImage.l1])
                              | succ k4 =>
                               have H := HA.out
                               clear HA
                               simp only [laws_FnImage.l1] at H
                               by_cases c65 : x15_4 < (t610.length : Int)
                               · rw [if_pos c65] at H
                                 have c65b0 : decide (x15_4 < (t610.length : Int)) = true := decide_eq_true c65
                                 clear c65
                                 by_cases c66 : 0 ≤ x15_4
                                 · rw [if_pos c66] at H
                                   have c66b0 : decide (0 ≤ x15_4) = true := decide_eq_true c66
                                   clear c66
                                   by_cases c67 : ((rd_T42 t610 x15_4).f0) = 5
                                   · rw [if_pos c67] at H
                                     have c67b0 : (((rd_T42 t610 x15_4).f0) == 5) = true := beq_iff_eq.mpr c67
                                     have c67b1 : (((rd_T42 t610 x15_4).f0) != 5) = false := bne_eq_false_iff_eq.mpr c67
                                     clear c67
                                     have H' := zA_ H
                                     clear H
                                     have p657 : 0 ≤ (x15_4 : Int) := of_decide_eq_true βxa
                                     have q657 : x15_4 < (t610.length : Int) := of_decide_eq_true βxa
                                     obtain ⟨ad657, e657, hx657_0, hx657_1, hx657_2, hx657_3⟩ := at_T42 (Kd.R_reads' HO_6.out).2.2 x15_4 p657 q657
                                     cases e657
                                     replace p657 := eq_true p657
                                     replace q657 := eq_true q657
                                     go_wp2
                                     go_roundg k4
                                     case measure => have := HJ2.out; have := HJ25.out; have := HK3.out; have := HK4.out; omega
                                     case rel => exact ⟨(x14_4), (wrap64 (x15_4 + 1)), βya, βya, H', ⟨βua⟩, ⟨zr_ HO_5.out⟩, ⟨zr_ HO_6.out⟩, ⟨zr_ HO_620000.out⟩, ⟨zb_ BK619.out⟩, ⟨zb_ BK629.out⟩, ⟨zg2_ HB.out GE619.out GE629.out⟩⟩
                                   · rw [if_neg c67] at H
                                     have c67b0 : (((rd_T42 t610 x15_4).f0) == 5) = false := beq_eq_false_iff_ne.mpr c67
                                     have c67b1 : (((rd_T42 t610 x15_4).f0) != 5) = true := bne_iff_ne.mpr c67
                                     by_cases c68 : ((rd_T42 t610 x15_4).f1) = x13_3
                                     · rw [if_pos c68] at H
                                       have c68b0 : (((rd_T42 t610 x15_4).f1) == x13_3) = true := beq_iff_eq.mpr c68
                                       have c68b1 : (((rd_T42 t610 x15_4).f1) != x13_3) = false := bne_eq_false_iff_eq.mpr c68
                                       clear c68
                                       replace H := Option.bind_eq_some_iff.mp H
                                       obtain ⟨t660, A690, H⟩ := H
                                       replace H : (laws_FnImage.l1 k4 t609 t610 x13_3 t660 (wrap64 (x15_4 + 1)) t615 t618) = some r := H
                                       have A69 := zA_ A690
                                       clear A690
                                       have H' := zA_ H
                                       clear H
                                       have p657 : 0 ≤ (x15_4 : Int) := of_decide_eq_true βxa
                                       have q657 : x15_4 < (t610.length : Int) := of_decide_eq_true βxa
                                       obtain ⟨ad657, e657, hx657_0, hx657_1, hx657_2, hx657_3⟩ := at_T42 (Kd.R_reads' HO_6.out).2.2 x15_4 p657 q657
                                       cases e657
                                       replace p657 := eq_true p657
                                       replace q657 := eq_true q657
                                       have p658 : 0 ≤ (x15_4 : Int) := of_decide_eq_true βxa
                                       have q658 : x15_4 < (t610.length : Int) := of_decide_eq_true βxa
                                       obtain ⟨ad658, e658, hx658_0, hx658_1, hx658_2, hx658_3⟩ := at_T42 (Kd.R_reads' HO_6.out).2.2 x15_4 p658 q658
                                       obtain rfl : ad657 = ad658 := (by injection e658)
                                       replace p658 := eq_true p658
                                       replace q658 := eq_true q658
                                       have p659 : 0 ≤ (x15_4 : Int) := of_decide_eq_true βxa
                                       have q659 : x15_4 < (t610.length : Int) := of_decide_eq_true βxa
                                       obtain ⟨ad659, e659, hx659_0, hx659_1, hx659_2, hx659_3⟩ := at_T42 (Kd.R_reads' HO_6.out).2.2 x15_4 p659 q659
                                       obtain rfl : ad657 = ad659 := (by injection e659)
                                       replace p659 := eq_true p659
                                       replace q659 := eq_true q659
                                       go_wp2_with (first | ((with_reducible refine gate_callee (f := 25) rfl ?_); refine goesL_ (some 144) rfl rfl Tryd.func25 βDa rfl #[.slice (some ad656) t609.length co28, .agg #[.int .i64 ((rd_T42 t610 x15_4).f0), .int .i64 ((rd_T42 t610 x15_4).f1), .int .i64 ((rd_T42 t610 x15_4).f2), .string ((rd_T42 t610 x15_4).f3)]] rfl zs_ ?_; (with_reducible refine (spec_MadeBy.calls k4 _ _ t609 ((rd_T42 t610 x15_4).f0) ((rd_T42 t610 x15_4).f1) ((rd_T42 t610 x15_4).f2) ((rd_T42 t610 x15_4).f3) t660 _ ?side1 ?side2 A69.out).mono ?_); (case side1 => exact zc_ (Kd.R_reads' HO_5.out).2.2); (case side2 => exact (Kd.R_reads' HO_5.out).2.1); rintro e w70 ⟨rfl, hb⟩; refine ⟨_, rfl, ?_⟩; have n0_ := zA_ (Kd.R_below (zr_ HO_5.out) hb); have n1_ := zA_ (Kd.R_below (zr_ HO_6.out) hb); have n2_ := zA_ (Kd.R_below (zr_ HO_620000.out) hb); have n3_ := zA_ (blk_below (g := gb619) (o := .cells #[.slice Ao32 t615.length co32, .int .i64 t618] 37 (0, 0)) (zb_ BK619.out) hb); have n4_ := zA_ (blk_below (g := gb629) (o := .cells #[.int .i64 t625, .int .i64 t626, .int .i64 t627, .string t628] 42 (0, 0)) (zb_ BK629.out) hb); have n5_ := zA_ (below_step (zg2_ HB.out GE619.out GE629.out) hb); clear HO_5 HO_6 HO_620000 BK619 BK629 HB; have HO_5 := n0_; have HO_6 := n1_; have HO_620000 := n2_; have BK619 := n3_; have BK629 := n4_; have HB := n5_; clear n0_ n1_ n2_ n3_ n4_ n5_; (try clear hb); (try clear hb2); (try clear hk); (try clear hi)))
                                       go_roundg k4
                                       case measure => have := HJ2.out; have := HJ25.out; have := HK3.out; have := HK4.out; omega
                                       case rel => exact ⟨(t660), (wrap64 (x15_4 + 1)), βya, βya, H', ⟨βua⟩, ⟨zr_ HO_5.out⟩, ⟨zr_ HO_6.out⟩, ⟨zr_ HO_620000.out⟩, ⟨zb_ BK619.out⟩, ⟨zb_ BK629.out⟩, ⟨zg2_ HB.out GE619.out GE629.out⟩⟩
                                     · rw [if_neg c68] at H
                                       have c68b0 : (((rd_T42 t610 x15_4).f1) == x13_3) = false := beq_eq_false_iff_ne.mpr c68
                                       have c68b1 : (((rd_T42 t610 x15_4).f1) != x13_3) = true := bne_iff_ne.mpr c68
                                       have H' := zA_ H
                                       clear H
                                       have p657 : 0 ≤ (x15_4 : Int) := of_decide_eq_true βxa
                                       have q657 : x15_4 < (t610.length : Int) := of_decide_eq_true βxa
                                       obtain ⟨ad657, e657, hx657_0, hx657_1, hx657_2, hx657_3⟩ := at_T42 (Kd.R_reads' HO_6.out).2.2 x15_4 p657 q657
                                       cases e657
                                       replace p657 := eq_true p657
                                       replace q657 := eq_true q657
                                       have p658 : 0 ≤ (x15_4 : Int) := of_decide_eq_true βxa
                                       have q658 : x15_4 < (t610.length : Int) := of_decide_eq_true βxa
                                       obtain ⟨ad658, e658, hx658_0, hx658_1, hx658_2, hx658_3⟩ := at_T42 (Kd.R_reads' HO_6.out).2.2 x15_4 p658 q658
                                       obtain rfl : ad657 = ad658 := (by injection e658)
                                       replace p658 := eq_true p658
                                       replace q658 := eq_true q658
                                       go_wp2
                                       go_roundg k4
                                       case measure => have := HJ2.out; have := HJ25.out; have := HK3.out; have := HK4.out; omega
                                       case rel => exact ⟨(x14_4), (wrap64 (x15_4 + 1)), βya, βya, H', ⟨βua⟩, ⟨zr_ HO_5.out⟩, ⟨zr_ HO_6.out⟩, ⟨zr_ HO_620000.out⟩, ⟨zb_ BK619.out⟩, ⟨zb_ BK629.out⟩, ⟨zg2_ HB.out GE619.out GE629.out⟩⟩
                                 · rw [if_neg c66] at H
                                   exact absurd H (by simp)
                               · rw [if_neg c65] at H
                                 have c65b0 : decide (x15_4 < (t610.length : Int)) = false := decide_eq_false c65
                                 clear c65
                                 by_cases c71 : 0 ≤ x13_3
                                 · rw [if_pos c71] at H
                                   have c71b0 : decide (0 ≤ x13_3) = true := decide_eq_true c71
                                   clear c71
                                   by_cases c72 : x13_3 < (t615.length : Int)
                                   · rw [if_pos c72] at H
                                     have c72b0 : decide (x13_3 < (t615.length : Int)) = true := decide_eq_true c72
                                     clear c72
                                     by_cases c73 : (rdOf ByteArray.empty t615 x13_3).toList = x14_4.toList
                                     · rw [if_pos c73] at H
                                       have c73b0 : ((rdOf ByteArray.empty t615 x13_3).toList == x14_4.toList) = true := beq_iff_eq.mpr c73
                                       have c73b1 : ((rdOf ByteArray.empty t615 x13_3).toList != x14_4.toList) = false := bne_eq_false_iff_eq.mpr c73
                                       clear c73
                                       have H' := zA_ H
                                       clear H
                                       have hnb74 := NB619_629.out
                                       have hnc74 := NB629_619.out
                                       have hcz75_0 := cz_ BK619.out 0 (.slice Ao32 t615.length co32) rfl
                                       have hcz75_1 := cz_ BK619.out 1 (.int .i64 t618) rfl
                                       have hfz75_0 := blk_frozen BK619.out 0
                                       have hfz75_1 := blk_frozen BK619.out 1
                                       have p661 : 0 ≤ (x13_3 : Int) := of_decide_eq_true βxa
                                       have q661 : x13_3 < (t615.length : Int) := of_decide_eq_true βxa
                                       obtain ⟨ad661, e661, hx661_0⟩ := Kd.at_string (Kd.R_reads' HO_620000.out).2.2 x13_3 p661 q661
                                       cases e661
                                       replace p661 := eq_true p661
                                       replace q661 := eq_true q661
                                       go_wp2
                                       go_roundg k4
                                       case measure => have := HJ2.out; have := HJ25.out; have := HK3.out; have := HK4.out; omega
                                       case rel => exact ⟨(wrap64 (x13_3 + 1)), βya, H', ⟨βua⟩, ⟨zr_ HO_5.out⟩, ⟨zr_ HO_6.out⟩, ⟨zr_ HO_620000.out⟩, ⟨zb_ BK619.out⟩, ⟨zb_ BK629.out⟩, ⟨zg2_ HB.out GE619.out GE629.out⟩⟩
                                     · rw [if_neg c73] at H
                                       exact absurd H (by simp)
                                   · rw [if_neg c72] at H
                                     exact absurd H (by simp)
                                 · rw [if_neg c71] at H
                                   exact absurd H (by simp)
                           · rw [if_neg c64] at H
                             exact absurd H (by simp)
                         · rw [if_neg c63] at H
                           have c63b0 : decide (x13_3 < (t609.length : Int)) = false := decide_eq_false c63
                           clear c63
                           obtain rfl := Option.some.inj H
                           go_wp2
                           go_ret
                           exact ⟨βsa, βx⟩
                     · rw [if_neg c60] at H
                       exact absurd H (by simp)
                   · rw [if_neg c59] at H
                     have c59b0 : (t618 == 0) = false := beq_eq_false_iff_ne.mpr c59
                     have c59b1 : (t618 != 0) = true := bne_iff_ne.mpr c59
                     obtain rfl := Option.some.inj H
                     have hnb76 := NB619_629.out
                     have hnc76 := NB629_619.out
                     have hcz77_0 := cz_ BK619.out 0 (.slice Ao32 t615.length co32) rfl
                     have hcz77_1 := cz_ BK619.out 1 (.int .i64 t618) rfl
                     have hfz77_0 := blk_frozen BK619.out 0
                     have hfz77_1 := blk_frozen BK619.out 1
                     go_wp2
                     go_ret
                     exact ⟨βsa, βx⟩
           · rw [if_neg c22] at H
             exact absurd H (by simp)
         · rw [if_neg c19] at H
           exact absurd H (by simp)
       · rw [if_neg c16] at H
         exact absurd H (by simp)
     · replace c13 := Bool.eq_false_iff.mpr c13
       subst c13
       have H1 : (none) = some r := by rw [if_neg (show ¬ (false = true) by decide)] at H; exact H
       clear H
       have H := H1
       clear H1
       exact absurd H (by simp)
end Go.Proofs.YtldhjbjbjoomcaaDoor.Q
namespace Go.Proofs.YtldhjbjbjoomcaaDoor.Pure
set_option linter.unusedVariables false
set_option linter.unusedSimpArgs false
open Go Go.RowKit Go.Proofs.YtldhjbjbjoomcaaDoor.Q Go.Proofs.YtldhjbjbjoomcaaDoorW.PrintWords Go.Proofs.YtldhjbjbjoomcaaDoorW.PrintLast Go.Proofs.YtldhjbjbjoomcaaDoorW.PrintMore
theorem zeroF : spec_l07Zero.f = some zero8 := by
  unfold spec_l07Zero.f; rw [if_pos (by decide)]; rfl
theorem lwTexts_l0 (N : Nat) (hN : N < 9223372036854775807) (r : List ByteArray) : ∀ p : List ByteArray, p.length + r.length = N → Ev (fun k => laws_lwTexts.l0 k (p ++ r) (p ++ r) (p.length : Int)) true := by
  induction r with
  | nil => intro p h; exact Ev.step (fun k => by rw [laws_lwTexts.l0, if_neg (not_lt_end p)]) (Ev.now _)
  | cons a r ih =>
    intro p h
    simp only [List.length_cons] at h
    refine Ev.step (fun k => by rw [laws_lwTexts.l0, if_pos (lt_mid p a r), if_pos (by omega), if_pos (lt_mid p a r), if_pos rfl, next64 (by omega)]) ?_
    have := ih (p ++ [a]) (by simp; omega)
    rw [← snoc_app, lenS_snoc] at this
    exact this
theorem lwImage_same (l : List ByteArray) (c : Int) (h : l.length < 9223372036854775807) : Ev (fun k => laws_lwImage.f k l c l c) true := by
  unfold laws_lwImage.f
  simp only [if_true]
  refine Ev.bind ?_ (Ev.now _)
  unfold laws_lwTexts.f
  simp only [if_true]
  exact lwTexts_l0 l.length h l [] (by simp)
def xoredF (a b : ByteArray) : ByteArray := if a.size = 8 ∧ b.size = 8 then xorM a b else ⟨#[]⟩
theorem implXoredF (a b : ByteArray) : impl_Xored.f a b = some (xoredF a b) := by
  unfold impl_Xored.f xoredF
  by_cases h1 : a.size = 8
  · by_cases h2 : b.size = 8
    · rw [if_pos (by omega), if_pos (by omega), if_pos ⟨h1, h2⟩, implXored a b h1 h2]; rfl
    · rw [if_pos (by omega), if_neg (by omega), if_neg (fun h => h2 h.2)]
  · rw [if_neg (by omega), if_neg (fun h => h1 h.1)]
def wantGo (im : List ByteArray) (i : Nat) : List Stp → ByteArray → ByteArray
  | [], w => w
  | x :: r, w => wantGo im i r (if x.f0 = 5 then w else if x.f1 = (i : Int) then makeM x.f0 x.f3 (rdOf ByteArray.empty im x.f2) else w)
theorem want_apply (im : List ByteArray) (i : Nat) : ∀ (r : List Stp) (out : List ByteArray), i < out.length → (∀ x ∈ r, ¬ x.f0 = 5 → 0 ≤ x.f1) →
    rdOf ByteArray.empty (applyGo im out r) (i : Int) = wantGo im i r (rdOf ByteArray.empty out (i : Int)) := by
  intro r
  induction r with
  | nil => intro out _ _; rfl
  | cons x r ih =>
    intro out hi hx
    have hr := fun y hy => hx y (List.mem_cons_of_mem x hy)
    rw [applyGo, wantGo]
    by_cases h : x.f0 = 5
    · rw [if_pos h, if_pos h]; exact ih out hi hr
    · rw [if_neg h, if_neg h, ih _ (by rw [List.length_set]; exact hi) hr]
      have h0 := hx x (by simp) h
      congr 1
      by_cases e : x.f1 = (i : Int)
      · rw [if_pos e, e]; simp [rdOf, hi]
      · rw [if_neg e]
        have hne : x.f1.toNat ≠ i := by omega
        simp [rdOf, List.getElem?_set, hne]
theorem wants (im : List ByteArray) (l : List Stp) (out : List ByteArray) (i : Nat) (hi : imageM im = true) (hs : ∀ x ∈ l, stepM x.f0 x.f1 x.f2 x.f3 im.length = true) (hl : l.length ≤ 20) (him : i < im.length) (hout : i < out.length)
    (W : ByteArray) (hW : rdOf ByteArray.empty out (i : Int) = W) (hC : Ev (fun k => laws_FnImage.l0 k im l ((i + 1 : Nat) : Int) out 0) true) (r : List Stp) : ∀ (p : List Stp) (w : ByteArray), p ++ r = l → wantGo im i r w = W →
    Ev (fun k => laws_FnImage.l1 k im l (i : Int) w (p.length : Int) out 0) true := by
  induction r with
  | nil =>
    intro p w hp hw
    rw [List.append_nil] at hp
    subst hp
    rw [wantGo] at hw
    subst hw
    have hb := image_len hi
    refine Ev.step (fun k => by rw [laws_FnImage.l1, if_neg (by omega), if_pos (by omega), if_pos (by omega), if_pos (by rw [hW]), next64 (by omega)]) hC
  | cons x r ih =>
    intro p w hp hw
    have hlen : p.length + (r.length + 1) = l.length := by rw [← hp]; simp
    have hrd : rd_T42 l (p.length : Int) = x := by rw [← hp]; exact rdSt_mid p x r
    have hx := hs x (by rw [← hp]; simp)
    have step : ∀ w', wantGo im i r w' = W → Ev (fun k => laws_FnImage.l1 k im l (i : Int) w' ((p.length + 1 : Nat) : Int) out 0) true := by
      intro w' hw'
      have := ih (p ++ [x]) w' (by rw [← hp]; simp) hw'
      rw [lenS_snoc] at this
      exact this
    rw [wantGo] at hw
    by_cases h : x.f0 = 5
    · rw [if_pos h] at hw
      exact Ev.step (fun k => by rw [laws_FnImage.l1, if_pos (by omega), if_pos (by omega), hrd, if_pos h, next64 (by omega)]) (step w hw)
    · rw [if_neg h] at hw
      by_cases e : x.f1 = (i : Int)
      · rw [if_pos e] at hw
        have hm := specMade im x.f0 x.f1 x.f2 x.f3 zeroF
        rw [madeM, if_pos ⟨⟨hi, hx⟩, h⟩] at hm
        refine Ev.step (fun k => by rw [laws_FnImage.l1, if_pos (by omega), if_pos (by omega), hrd, if_neg h, if_pos e, next64 (by omega)]) (Ev.bind hm (step _ hw))
      · rw [if_neg e] at hw
        exact Ev.step (fun k => by rw [laws_FnImage.l1, if_pos (by omega), if_pos (by omega), hrd, if_neg h, if_neg e, next64 (by omega)]) (step w hw)
theorem blocks (im : List ByteArray) (l : List Stp) (hi : imageM im = true) (hs : ∀ x ∈ l, stepM x.f0 x.f1 x.f2 x.f3 im.length = true) (hl : l.length ≤ 20) (d : Nat) : ∀ i : Nat, i + d = im.length → Ev (fun k => laws_FnImage.l0 k im l (i : Int) (applyGo im im l) 0) true := by
  have hb := image_len hi
  induction d with
  | zero => intro i h; exact Ev.step (fun k => by rw [laws_FnImage.l0, if_neg (by omega)]) (Ev.now _)
  | succ d ih =>
    intro i h
    refine Ev.step (fun k => by rw [laws_FnImage.l0, if_pos (by omega), if_pos (by omega)]) ?_
    have hpos : ∀ x ∈ l, ¬ x.f0 = 5 → 0 ≤ x.f1 := fun x hx h5 => (step_to (hs x hx) h5).1
    exact wants im l (applyGo im im l) i hi hs hl (by omega) (by rw [applyGo_length]; omega) _ rfl (ih (i + 1) (by omega)) l [] _ rfl (want_apply im i l im (by omega) hpos).symm
theorem FnImage (l0 l1 : List Int) : ∃ k, laws_FnImage.f k l0 l1 = some true := by
  refine Ev.rounds ?_
  unfold laws_FnImage.f
  by_cases g0 : (l0.length : Int) > 1048576
  · simp only [if_pos g0]
    exact Ev.step (fun k => by rw [laws_FnImage.j0, if_pos rfl]) (Ev.now _)
  simp only [if_neg g0]
  by_cases g1 : (l1.length : Int) > 1048576
  · rw [decide_eq_true g1]
    exact Ev.step (fun k => by rw [laws_FnImage.j0, if_pos rfl]) (Ev.now _)
  rw [decide_eq_false g1]
  obtain ⟨im, st, e1, hm1, hs1⟩ := draw_Apply l0 (by omega)
  obtain ⟨a, b, e2⟩ := draw_Xored l1 (by omega)
  obtain ⟨mi, mk, mt, mf, md, e3, hm3⟩ := draw_MadeBy l1 (by omega)
  obtain ⟨di, e4, hm4⟩ := draw_IDigest l1 (by omega)
  have hA := applyM_length im st
  have hX : Ev (fun k => spec_Xored.f k a b) (xoredF a b) := specXored a b
  refine Ev.step (fun k => by rw [laws_FnImage.j0, if_neg (by decide)]) ?_
  refine Ev.bind e1 (Ev.bind (implImageApply im st (by omega) (by omega)) (Ev.bind e2 (Ev.bind e3 (Ev.bind e4 (Ev.bind (specImageApply im st zeroF) (Ev.bind (lwImage_same (applyM im st).1 (applyM im st).2 (by omega)) ?_))))))
  simp only [if_true]
  refine Ev.bind1 (implXoredF a b) (Ev.bind hX ?_)
  simp only [if_true]
  refine Ev.bind (implMade mi mk mt mf md (by omega)) (Ev.bind (specMade mi mk mt mf md zeroF) ?_)
  simp only [if_true]
  refine Ev.bind1 (show impl_ImageDigest.f di = some (dg.imgd di) by unfold impl_ImageDigest.f; rw [if_pos (by omega)]) (Ev.bind1 (show spec_ImageDigest.f di = some (dg.imgd di) from rfl) ?_)
  simp only [if_true]
  refine Ev.bind1 (show impl_ImageRight.f im = some (imageM im) by unfold impl_ImageRight.f; rw [implImage im (by omega)]; rfl) (Ev.bind (specImage im) ?_)
  simp only [show (imageM im != imageM im) = false by simp, if_neg (show ¬ (false = true) by decide)]
  have hj : Ev (fun k => laws_FnImage.j1 k im st false (applyM im st).1 (applyM im st).2) true := by
    refine Ev.step (fun k => by rw [laws_FnImage.j1, if_neg (by decide)]) ?_
    by_cases c : (applyM im st).2 = 0
    · have hc := c
      unfold applyM at hc
      by_cases b1 : (im.length : Int) > 400 ∨ (st.length : Int) > 400
      · rw [if_pos b1] at hc; exact absurd hc (by decide)
      rw [if_neg b1] at hc
      by_cases b2 : imageM im = true
      rotate_left
      · rw [if_neg b2] at hc; exact absurd hc (by decide)
      rw [if_pos b2] at hc
      by_cases b3 : codeM st im.length = 0
      rotate_left
      · rw [if_neg b3] at hc; exact absurd hc b3
      have hv : applyM im st = (applyGo im im st, 0) := by unfold applyM; rw [if_neg b1, if_pos b2, if_pos b3]
      obtain ⟨c1, c2⟩ := code_steps b3
      rw [hv]
      simp only [if_true, if_pos (show ((applyGo im im st).length : Int) = (im.length : Int) by rw [applyGo_length])]
      exact blocks im st b2 c2 (by omega) im.length 0 (Nat.zero_add _)
    · simp only [if_neg c]; exact Ev.now _
  by_cases h1 : (a.size : Int) = 8
  · simp only [if_pos h1]
    by_cases h2 : (b.size : Int) = 8
    · simp only [if_pos h2]
      have hx : xoredF a b = xorM a b := by unfold xoredF; rw [if_pos ⟨by omega, by omega⟩]
      have hx2 : xoredF (xorM a b) b = a := by unfold xoredF; rw [if_pos ⟨xorM_size a b, by omega⟩, xor_right a b (by omega)]
      have i1 := implXoredF a b
      rw [hx] at i1
      have i2 := implXoredF (xorM a b) b
      rw [hx2] at i2
      refine Ev.bind1 i1 (Ev.bind1 i2 ?_)
      rw [show (a.toList != a.toList) = false by simp]
      exact hj
    · simp only [if_neg h2]; exact hj
  · simp only [if_neg h1]; exact hj
end Go.Proofs.YtldhjbjbjoomcaaDoor.Pure
namespace Go.Proofs.YtldhjbjbjoomcaaDoor.DgRow
open Go.ChangeShapes Go.WideShapes Go.ChangeAt Go.RowKit Go.Proofs.YtldhjbjbjoomcaaDoor.Q Go.Proofs.YtldhjbjbjoomcaaDoorW.PrintWords
open Go.ChangeMaps (open_string shut_string)
set_option linter.unusedVariables false
set_option maxRecDepth 100000
def IsRowM (k : IntKind) (w : World) (a : Option Addr) (len cap : Nat) (zs : List Int) : Prop :=
  (a = none ∧ len = 0 ∧ cap = 0 ∧ zs = []) ∨
  ∃ x, a = some x ∧ len ≤ cap ∧ cap ≤ maxLen ∧ zs.length = cap ∧ (∀ i, i < zs.length → w.cell? (x.add i) = some (.int k (zs.getD i 0))) ∧ ∀ n ∈ zs, (Lit.int k n).wf = true
theorem walkM (a0 : Option Addr) (len0 cap0 : Nat) (z0 : List Int) (a1 : Option Addr) (len1 cap1 : Nat) (z1 : List Int) (w : World) (hG : dg.G w) (w0 : IsRowM .u8 w a0 len0 cap0 z0) (w1 : IsRowM .u8 w a1 len1 cap1 z1) :
    Calls Tryd.prog 6 #[.slice a0 len0 cap0, .slice a1 len1 cap1] w fun e w' => e = .returned (.bool true) ∧ Below w.heap.size w w' := by
  obtain ⟨l0, rfl, hr0, hm0, hw0, hc0⟩ := ReadsInt.ofRowC w0
  obtain ⟨l1, rfl, hr1, hm1, hw1, hc1⟩ := ReadsInt.ofRowC w1
  obtain ⟨k, h⟩ := Pure.FnImage l0 l1
  exact laws_FnImage.calls k _ _ l0 _ _ l1 true w hG (Kd.C_of_reads (d := (0 : Int)) (h1 := fun _ => rfl) hr0) hc0 (Kd.C_of_reads (d := (0 : Int)) (h1 := fun _ => rfl) hr1) hc1 h
theorem rowM {H : Type} {enc : TypeId × Value → H} {W : World} {a0 : Option Addr} {len0 cap0 : Nat} {d0 : DataW H} {p0 : List MemPlace} (h0 : ∃ fuel, DataW.trod enc Tryd.prog W 0 (fun _ => true) true fuel 24 [.slice a0 len0 cap0] = some (d0, p0)) : ∃ zs, IsRowM .u8 W a0 len0 cap0 zs := by
  obtain ⟨fuel, hf⟩ := h0
  rcases open_ints Tryd.underlying24 Tryd.underlying5 (by kernel_rfl) hf with ⟨hcs, _⟩ | ⟨x, l, c, zs, hcs, _, hl, hm, hz, _, hcell, hwz⟩
  · simp [Value.cells] at hcs
    obtain ⟨rfl, rfl, rfl⟩ := hcs
    exact ⟨[], .inl ⟨rfl, rfl, rfl, rfl⟩⟩
  · simp [Value.cells] at hcs
    obtain ⟨rfl, rfl, rfl⟩ := hcs
    exact ⟨zs, .inr ⟨_, rfl, hl, hm, by simpa using hz, hcell, hwz⟩⟩
theorem liftedM (os : Os) (started : os.Started) (H : Type) (enc : TypeId × Value → H) :
    ReturnsInHanded {} Tryd.checked os 6 .any (fun w args => (Rows.fnImageSpec.pre enc Tryd.prog Tryd.f6 [] false w args ∧ laidMetH Tryd.prog laidL w) ∧ sizedMet enc Tryd.prog Tryd.f6 (OpenSpec.ofChange Rows.fnImageSpec) false w args)
      (Rows.fnImageSpec.post enc Tryd.prog Tryd.f6 false true false false) := by
  refine returnsInHanded_of_change_and (C := Tryd.checked) (X := fun w _ => laidMetH Tryd.prog laidL w) (fun _ _ _ hh h => h.of_heap hh) own started (by kernel_rfl) Tryd.func6
    (ChangeSpec.witness_at (enc := enc) (C := Tryd.checked) (os := os) (X := fun w _ => laidMetH Tryd.prog laidL w) false (laidWorld os) #[.slice none 0 0, .slice none 0 0] 8 rfl (by kernel_rfl) (by kernel_rfl) (by kernel_rfl) (by kernel_rfl) (by kernel_rfl) (laid_met os _)) ?_
  intro W base args ds gs before hval0 hW _ _ hL _
  have hval : ∀ (j : Nat) t v, Tryd.f6.params[j]? = some t → args[j]? = some v → Value.okWide Tryd.prog W .any base t v := hval0
  have hW' := hW
  obtain ⟨p, q, hA0, hV0, rfl, hfz, hnd⟩ := hW
  have hA : DataW.TrodAll enc Tryd.prog W 0 (fun _ => true) true Tryd.f6.params.toList args.toList ds p := hA0
  have hV : DataW.TrodVars enc Tryd.prog W (fun _ => true) ["loop.example/g00668/impl.digestStart", "loop.example/g00668/impl.digestRounds"] gs q := hV0
  rw [Tryd.params6] at hA hval
  obtain ⟨v0, vs0, d0, ds0, p0, q0, hargs, rfl, rfl, h0, r0⟩ := trodAll_cons hA
  obtain ⟨v1, vs1, d1, ds1, p1, q1, rfl, rfl, rfl, h1, r1⟩ := trodAll_cons r0
  obtain ⟨rfl, rfl, rfl⟩ := trodAll_nil r1
  obtain rfl : args = #[v0, v1] := by cases args; simp_all
  obtain ⟨a0, len0, cap0, rfl⟩ := okWide_slice Tryd.underlying24 (hval 0 24 v0 rfl rfl)
  have k0 := h0
  have lt0 : ∀ x ∈ p0, x.block < W.heap.size := by obtain ⟨m, hm⟩ := k0; exact DataW.trod_lt m _ _ _ hm
  obtain ⟨a1, len1, cap1, rfl⟩ := okWide_slice Tryd.underlying24 (hval 1 24 v1 rfl rfl)
  have k1 := h1
  have lt1 : ∀ x ∈ p1, x.block < W.heap.size := by obtain ⟨m, hm⟩ := k1; exact DataW.trod_lt m _ _ _ hm
  obtain ⟨z0, w0⟩ := rowM h0
  obtain ⟨z1, w1⟩ := rowM h1
  refine (walkM a0 len0 cap0 z0 a1 len1 cap1 z1 W (of_laid hL) w0 w1).mono fun e W' ⟨he, bel⟩ => ?_
  subst he
  obtain ⟨e0, e1, q', rfl, hq⟩ := vars_after g0 g1 bel hV
  exact ⟨_, rfl, _, _, _, [], _, q', hW', trodAll_mk1 (shut_bool Tryd.underlying4 _), (trodAll_cons_mk (Below.trod laidOut (by kernel_rfl) (of_decide_eq_true (by kernel_rfl)) k0 bel lt0) (trodAll_cons_mk (Below.trod laidOut (by kernel_rfl) (of_decide_eq_true (by kernel_rfl)) k1 bel lt1) trodAll_mk0)), hq, bel.frame _, fun h => by cases h⟩
theorem overM : Rows.FnImageSaid :=
  OpenClaim.holds_of_wide 6 Tryd.f6 rfl rfl rfl rfl rfl rfl rfl ⟨rfl, rfl, rfl, rfl, rfl⟩ rfl rfl rfl rfl rfl (by kernel_rfl) Tryd.func6 (by kernel_rfl)
    (of_decide_eq_true (by kernel_rfl)) (by unfold Func.isWrapper; first | (rw [if_pos (by decide +kernel)]; kernel_rfl) | (rw [if_neg (by decide +kernel)]; exact ⟨rfl, rfl⟩))
    (fun os started H enc _ => liftedM os started H enc)
end Go.Proofs.YtldhjbjbjoomcaaDoor.DgRow
