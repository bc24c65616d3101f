import Derived.Lib.Bytealg
import Derived.Test.YtldhjbjbjoomcaaDoorQx0
import Derived.Test.YtldhjbjbjoomcaaDoorQx3
namespace Go.Proofs.YtldhjbjbjoomcaaDoor.Q
open Go.RowKit Go.Proofs.YtldhjbjbjoomcaaDoorW.PrintWords Go.Proofs.YtldhjbjbjoomcaaDoorW.PrintLast Go.Proofs.YtldhjbjbjoomcaaDoorW.PrintMore
attribute [local go_sem] max2_int min2_int max_two min_two max_three min_three max_four min_four Instr.field asAgg   -- for this text's walks alone
set_option linter.unusedVariables false
set_option linter.unusedSimpArgs false
/-- A word turned to the right. -/
def dg.tn (x : Int) (k : Nat) : Int := Go.bits .or .u32 (x * 2 ^ (32 - k) % 4294967296) (x / 2 ^ k)
/-- Row of whole numbers of 32 bits as a block's cells. -/
def dg.cells (xs : List Int) : Array Value := (xs.map (fun x => Value.int .u32 x)).toArray
theorem dg.cells_get (xs : List Int) (i : Nat) (h : i < xs.length) : (dg.cells xs)[i]? = some (.int .u32 (rd xs (i : Int))) := by
  simp [dg.cells, rd, h]
theorem dg.cells_set (xs : List Int) (i : Nat) (x : Int) : (dg.cells xs).setIfInBounds i (.int .u32 x) = dg.cells (xs.set i x) := by
  simp [dg.cells, List.map_set]
theorem dg.blk_read {w : World} {g : Nat} {t : TypeId} {xs : List Int} (h : w.heap[g]? = some (.cells (dg.cells xs) t (0, 0))) (i : Nat) (hi : i < xs.length) : w.cell? ⟨g, i, none⟩ = some (.int .u32 (rd xs (i : Int))) := (blk_cell h i).trans (dg.cells_get xs i hi)
theorem dg.blk_write {w : World} {g : Nat} {t : TypeId} {xs : List Int} (h : w.heap[g]? = some (.cells (dg.cells xs) t (0, 0))) (i : Nat) (x : Int) : (w.setCell ⟨g, i, none⟩ (.int .u32 x)).heap[g]? = some (.cells (dg.cells (xs.set i x)) t (0, 0)) := blk_put h i _ (dg.cells_set xs i x)
theorem dg.amt : ∀ k : Fin 32, 0 < k.val → Go.bits .and .u64 (IntKind.u64.wrap (wrap64 (-(k.val : Int)))) 31 = 32 - (k.val : Int) := by decide +kernel
theorem dg.turned (x : Int) (k : Nat) (K : Int) (hK : (k : Int) = K) (h0 : 0 < k) (h1 : k < 32) (w : World) : Calls Tryd.prog 84 #[.int .u32 x, .int .i64 K] w fun e w' => e = .returned (.int .u32 (dg.tn x k)) ∧ w' = w := by
  subst hK
  have ha := dg.amt ⟨k, h1⟩ h0
  have hn : IntKind.i64.wrap (-(k : Int)) = wrap64 (-(k : Int)) := i64_w _
  have hs : (0 : Int) ≤ 32 - (k : Int) := by omega
  have e : IntKind.u64.wrap (32 - (32 - (k : Int))) = (k : Int) := by simp [IntKind.wrap, IntKind.bits, IntKind.signed]; omega
  have hk : (0 : Int) ≤ (k : Int) := by omega
  go_enter Tryd.func84, Tryd.ntmps84
  go_wp2
  go_ret
  exact ⟨rfl, rfl⟩
/-- The word of four bytes. -/
def dg.w4 (s : ByteArray) : Int := Go.bits .or .u32 (Go.bits .or .u32 (Go.bits .or .u32 ((((bt s 0) % 4294967296) * 16777216) % 4294967296) ((((bt s 1) % 4294967296) * 65536) % 4294967296)) ((((bt s 2) % 4294967296) * 256) % 4294967296)) ((bt s 3) % 4294967296)
theorem dg.word (s : ByteArray) (h : 4 ≤ s.size) : impl_bigWord.f s = some (dg.w4 s) := by
  unfold impl_bigWord.f
  rw [if_pos (by omega), if_pos (by omega), if_pos (by omega), if_pos (by omega)]; rfl
/-- The next word of the row. -/
def dg.nxt (L : List Int) (i : Nat) : Int :=
  (rd L ((i - 16 : Nat) : Int) + Go.bits .xor .u32 (Go.bits .xor .u32 (dg.tn (rd L ((i - 15 : Nat) : Int)) 7) (dg.tn (rd L ((i - 15 : Nat) : Int)) 18)) (rd L ((i - 15 : Nat) : Int) / 8) + rd L ((i - 7 : Nat) : Int) + Go.bits .xor .u32 (Go.bits .xor .u32 (dg.tn (rd L ((i - 2 : Nat) : Int)) 17) (dg.tn (rd L ((i - 2 : Nat) : Int)) 19)) (rd L ((i - 2 : Nat) : Int) / 1024)) % 4294967296
/-- The row of words behind i rounds. -/
def dg.W (b : ByteArray) : Nat → List Int
  | 0 => List.replicate 64 0
  | i + 1 => (dg.W b i).set i (if i < 16 then dg.w4 (b.extract (4 * i) 64) else dg.nxt (dg.W b i) i)
theorem dg.W_length (b : ByteArray) : ∀ i, (dg.W b i).length = 64
  | 0 => List.length_replicate
  | i + 1 => by rw [dg.W, List.length_set]; exact dg.W_length b i
theorem dg.at_ {P : Program} {c : Code} {Q : Exit → Act → World → Prop} {a : Act} {W : World} (h : ∀ W1, W = W1 → Code.wp P c Q a W1) : Code.wp P c Q a W := h W rfl
theorem dg.still {P : Program} {id : Nat} {Q : Exit → Act → World → Prop} {a : Act} {w : World} {l : List Oper} (n : Nat) (hm : P.follows .mixedOrders = true) (hB : Region.lexTailB .any l.toArray n = true)
    (h : wpStill P l.toArray w.drew (fun a' => wpList P l.toArray Q (l.drop n) a' w.drew) (l.take n) a) : (Code.region id l.toArray true).wp P Q a w := wp_region_still_tail n hm hB h
/-- The eight numbers of a round. -/
structure dg.St where
  a : Int
  b : Int
  c : Int
  d : Int
  e : Int
  f : Int
  g : Int
  h : Int
def dg.t1 (s : dg.St) (kx wx : Int) : Int := (s.h + Go.bits .xor .u32 (Go.bits .xor .u32 (dg.tn s.e 6) (dg.tn s.e 11)) (dg.tn s.e 25) + Go.bits .xor .u32 (Go.bits .and .u32 s.e s.f) (Go.bits .and .u32 (Go.bits .xor .u32 IntKind.u32.max s.e) s.g) + kx + wx)
def dg.t2 (s : dg.St) : Int := (Go.bits .xor .u32 (Go.bits .xor .u32 (dg.tn s.a 2) (dg.tn s.a 13)) (dg.tn s.a 22) + Go.bits .xor .u32 (Go.bits .xor .u32 (Go.bits .and .u32 s.a s.b) (Go.bits .and .u32 s.a s.c)) (Go.bits .and .u32 s.b s.c))
def dg.rnd (s : dg.St) (kx wx : Int) : dg.St := ⟨(dg.t1 s kx wx + dg.t2 s) % 4294967296, s.a, s.b, s.c, (s.d + dg.t1 s kx wx) % 4294967296, s.e, s.f, s.g⟩
def dg.keys : List Int := [1116352408, 1899447441, 3049323471, 3921009573, 961987163, 1508970993, 2453635748, 2870763221, 3624381080, 310598401, 607225278, 1426881987, 1925078388, 2162078206, 2614888103, 3248222580, 3835390401, 4022224774, 264347078, 604807628, 770255983, 1249150122, 1555081692, 1996064986, 2554220882, 2821834349, 2952996808, 3210313671, 3336571891, 3584528711, 113926993, 338241895, 666307205, 773529912, 1294757372, 1396182291, 1695183700, 1986661051, 2177026350, 2456956037, 2730485921, 2820302411, 3259730800, 3345764771, 3516065817, 3600352804, 4094571909, 275423344, 430227734, 506948616, 659060556, 883997877, 958139571, 1322822218, 1537002063, 1747873779, 1955562222, 2024104815, 2227730452, 2361852424, 2428436474, 2756734187, 3204031479, 3329325298]
def dg.init (xs : List Int) : dg.St := ⟨rd xs 0, rd xs 1, rd xs 2, rd xs 3, rd xs 4, rd xs 5, rd xs 6, rd xs 7⟩
def dg.rnds (ws : List Int) (s : dg.St) : Nat → dg.St
  | 0 => s
  | n + 1 => dg.rnd (dg.rnds ws s n) (rd dg.keys (n : Int)) (rd ws (n : Int))
def dg.out (s : dg.St) : List Int := [s.a, s.b, s.c, s.d, s.e, s.f, s.g, s.h]
def dg.add (xs vs : List Int) : Nat → List Int
  | 0 => xs
  | n + 1 => (dg.add xs vs n).set n ((rd (dg.add xs vs n) (n : Int) + rd vs (n : Int)) % 4294967296)
theorem dg.add_length (xs vs : List Int) : ∀ n, (dg.add xs vs n).length = xs.length
  | 0 => rfl
  | n + 1 => by rw [dg.add, List.length_set]; exact dg.add_length xs vs n
theorem Below.trans_le_ {b b' : Nat} {w w' : World} (h : Below b w w') (hb : b' ≤ b) : Below b' w w' := ⟨h.os, h.tape, h.output, h.size, fun i hi => h.block i (Nat.lt_of_lt_of_le hi hb)⟩
/-- A state behind a block. -/
def dg.block (xs : List Int) (b : ByteArray) : List Int := dg.add xs (dg.out (dg.rnds (dg.W b 64) (dg.init xs) 64)) 8
theorem dg.run_index (S : dg.St) (i : Nat) (hi : i < 8) (W : World) : (Instr.index 72 (.agg #[.int .u32 S.a, .int .u32 S.b, .int .u32 S.c, .int .u32 S.d, .int .u32 S.e, .int .u32 S.f, .int .u32 S.g, .int .u32 S.h]) (.int .i64 (i : Int))).run Tryd.prog W = .ok (.int .u32 (rd (dg.out S) (i : Int))) W := by
  have hu : Tryd.prog.underlying 72 = some (.array 8 71) := Tryd.underlying72
  have hc : i = 0 ∨ i = 1 ∨ i = 2 ∨ i = 3 ∨ i = 4 ∨ i = 5 ∨ i = 6 ∨ i = 7 := by omega
  rcases hc with rfl | rfl | rfl | rfl | rfl | rfl | rfl | rfl <;> simp [Instr.index, run_underlying hu, asIntOf, go_sem, rd, dg.out]
theorem dg.still0 {P : Program} {id : Nat} {Q : Exit → Act → World → Prop} {a : Act} {w : World} {l : List Oper} (hm : P.follows .mixedOrders = true) (hB : Region.lexB .any l.toArray = true)
    (h : wpStill P l.toArray w.drew (fun a' => Q .normal a' w.drew) l a) : (Code.region id l.toArray true).wp P Q a w := wp_region_still_lit hm hB h
set_option maxHeartbeats 8000000 in
set_option maxRecDepth 100000 in
theorem impl_digestBlock.calls (g : Nat) (xs : List Int) (b : ByteArray) (w : World) (hx : xs.length = 8) (hb : b.size = 64) (hS : w.heap[g]? = some (.cells (dg.cells xs) 72 (0, 0))) (hK : Aside0 (∀ i : Nat, i < 64 → w.cell? ⟨1, i, none⟩ = some (.int .u32 (rd dg.keys (i : Int))))) :
    Calls Tryd.prog 58 #[.pointer (some ⟨g, 0, none⟩), .string b] w fun e w' => e = .returned (.tuple #[]) ∧ w'.heap[g]? = some (.cells (dg.cells (dg.block xs b)) 72 (0, 0)) ∧ Below g w w' := by
  have R7 := Aside0.mk (fun (x : Int) (w : World) => dg.turned x 7 7 rfl (by decide) (by decide) w)
  have R18 := Aside0.mk (fun (x : Int) (w : World) => dg.turned x 18 18 rfl (by decide) (by decide) w)
  have R17 := Aside0.mk (fun (x : Int) (w : World) => dg.turned x 17 17 rfl (by decide) (by decide) w)
  have R19 := Aside0.mk (fun (x : Int) (w : World) => dg.turned x 19 19 rfl (by decide) (by decide) w)
  have R6 := Aside0.mk (fun (x : Int) (w : World) => dg.turned x 6 6 rfl (by decide) (by decide) w)
  have R11 := Aside0.mk (fun (x : Int) (w : World) => dg.turned x 11 11 rfl (by decide) (by decide) w)
  have R25 := Aside0.mk (fun (x : Int) (w : World) => dg.turned x 25 25 rfl (by decide) (by decide) w)
  have R2 := Aside0.mk (fun (x : Int) (w : World) => dg.turned x 2 2 rfl (by decide) (by decide) w)
  have R13 := Aside0.mk (fun (x : Int) (w : World) => dg.turned x 13 13 rfl (by decide) (by decide) w)
  have R22 := Aside0.mk (fun (x : Int) (w : World) => dg.turned x 22 22 rfl (by decide) (by decide) w)
  go_enter Tryd.func58, Tryd.ntmps58
  go_wp2
  refine dg.at_ (fun wa hwa => ?_)
  have HW := Aside0.mk (show wa.heap[w.heap.size]? = some (.cells (dg.cells (dg.W b 0)) 102 (0, 0)) from by rw [← hwa]; exact blk_new _ _)
  have HB := Aside0.mk (show Below w.heap.size w wa from by rw [← hwa]; exact below_alloc (Below.refl _ _) _)
  clear hwa
  go_loopg [23] 64 (fun gg v23 wr => ∃ i : Nat, v23 = .int .i64 (i : Int) ∧ Aside0 (i ≤ 64) ∧ Aside0 (64 ≤ i + gg) ∧ Aside0 (wr.heap[w.heap.size]? = some (.cells (dg.cells (dg.W b i)) 102 (0, 0))) ∧ Aside0 (Below w.heap.size w wr))
  case atStart => exact ⟨0, rfl, ⟨by omega⟩, ⟨by omega⟩, HW, HB⟩
  case round =>
    clear HW HB
    obtain ⟨i, rfl, HI, HGG, HW, HB⟩ := hrel
    by_cases hi : i < 64
    · have hz : decide ((i : Int) < 64) = true := decide_eq_true (by omega)
      have hz' : decide (i < 64) = true := decide_eq_true hi
      have p1 : (0 : Int) ≤ (i : Int) := by omega
      have q1 : (i : Int) < 64 := by omega
      have HLT := Aside0.mk hi
      have hfr := blk_frozen HW.out i
      by_cases h16 : i < 16
      · have hc : decide ((i : Int) < 16) = true := decide_eq_true (by omega)
        have hc' : decide (i < 16) = true := decide_eq_true h16
        have hold := dg.blk_read HW.out i (by rw [dg.W_length]; exact hi)
        have w4 : IntKind.i64.wrap (4 * (i : Int)) = 4 * (i : Int) := by rw [i64_w]; unfold wrap64; omega
        have s0 : (0 : Int) ≤ 4 * (i : Int) := by omega
        have s1 : 4 * (i : Int) ≤ 64 := by omega
        have hb' : (b.size : Int) = 64 := by omega
        have HWD := Aside0.mk (dg.word (b.extract (4 * i) 64) (by rw [ByteArray.size_extract]; omega))
        have HST := Aside0.mk (show dg.W b (i + 1) = (dg.W b i).set i (dg.w4 (b.extract (4 * i) 64)) by rw [dg.W, if_pos h16])
        clear hi h16
        go_wp2_with (go_at_call 83; (with_reducible refine (impl_bigWord.calls _ _ _ HWD.out).mono ?_); rintro e w1 ⟨rfl, ⟨nd, rfl⟩⟩)
        go_roundg (64 - (i + 1))
        case measure => have := HGG.out; have := HLT.out; omega
        case rel => exact ⟨i + 1, by first | rfl | (have := HLT.out; rw [show wrap64 ((i : Int) + 1) = ((i + 1 : Nat) : Int) by unfold wrap64; omega]), ⟨by have := HLT.out; omega⟩, ⟨by omega⟩, ⟨by rw [HST.out]; exact dg.blk_write (w := wr.drewN nd) HW.out i _⟩, ⟨below_set (pw_below_drewN HB.out nd) (Nat.le_refl _)⟩⟩
      · have hc : decide ((i : Int) < 16) = false := decide_eq_false (by omega)
        have hc' : decide (i < 16) = false := decide_eq_false h16
        have HST := Aside0.mk (show dg.W b (i + 1) = (dg.W b i).set i (dg.nxt (dg.W b i) i) by rw [dg.W, if_neg h16])
        have hl := dg.W_length b i
        generalize dg.W b i = L at HW HST hl
        have a15 : IntKind.i64.wrap ((i : Int) - 15) = ((i - 15 : Nat) : Int) := by rw [i64_w]; unfold wrap64; omega
        have a2 : IntKind.i64.wrap ((i : Int) - 2) = ((i - 2 : Nat) : Int) := by rw [i64_w]; unfold wrap64; omega
        have a16 : IntKind.i64.wrap ((i : Int) - 16) = ((i - 16 : Nat) : Int) := by rw [i64_w]; unfold wrap64; omega
        have a7 : IntKind.i64.wrap ((i : Int) - 7) = ((i - 7 : Nat) : Int) := by rw [i64_w]; unfold wrap64; omega
        have c15 := dg.blk_read HW.out (i - 15) (by omega)
        have c2 := dg.blk_read HW.out (i - 2) (by omega)
        have c16 := dg.blk_read HW.out (i - 16) (by omega)
        have c7 := dg.blk_read HW.out (i - 7) (by omega)
        have hold := dg.blk_read HW.out i (by omega)
        have b15 : ((i - 15 : Nat) : Int) < 64 := by omega
        have b2 : ((i - 2 : Nat) : Int) < 64 := by omega
        have b16 : ((i - 16 : Nat) : Int) < 64 := by omega
        have b7 : ((i - 7 : Nat) : Int) < 64 := by omega
        have n15 : i - 15 < 64 := by omega
        have n2 : i - 2 < 64 := by omega
        have n16 : i - 16 < 64 := by omega
        have n7 : i - 7 < 64 := by omega
        have H16 := Aside0.mk h16
        clear hi h16
        go_wp2
        refine dg.still0 (by kernel_rfl) (by kernel_rfl) ?_
        repeat still_step
        refine wpStill_nil ?_
        go_wp2_with (first
          | (go_at_call 84; (with_reducible refine (R7.out _ _).mono ?_); rintro e w1 ⟨rfl, rfl⟩)
          | (go_at_call 84; (with_reducible refine (R18.out _ _).mono ?_); rintro e w1 ⟨rfl, rfl⟩)
          | (go_at_call 84; (with_reducible refine (R17.out _ _).mono ?_); rintro e w1 ⟨rfl, rfl⟩)
          | (go_at_call 84; (with_reducible refine (R19.out _ _).mono ?_); rintro e w1 ⟨rfl, rfl⟩))
        refine dg.still 15 (by kernel_rfl) (by kernel_rfl) ?_
        simp only [List.take_succ_cons, List.take_zero, List.drop_succ_cons, List.drop_zero]
        repeat still_step
        refine wpStill_nil ?_
        go_wp2
        go_roundg (64 - (i + 1))
        case measure => have := HGG.out; have := HLT.out; omega
        case rel => exact ⟨i + 1, by first | rfl | (have := HLT.out; rw [show wrap64 ((i : Int) + 1) = ((i + 1 : Nat) : Int) by unfold wrap64; omega]), ⟨by have := HLT.out; omega⟩, ⟨by omega⟩, ⟨by rw [HST.out]; first | exact dg.blk_write (w := wr) HW.out i _ | exact blk_drewN (dg.blk_write (w := wr) HW.out i _) _ | exact dg.blk_write (w := wr.drewN _) HW.out i _ | exact dg.blk_write (w := wr.drew) HW.out i _⟩, ⟨by repeat (first | exact HB.out | (refine below_set ?_ (Nat.le_refl _)) | apply pw_below_drewN | apply below_drew1)⟩⟩
    · have hz : decide ((i : Int) < 64) = false := decide_eq_false (by omega)
      obtain rfl : i = 64 := by have := HI.out; omega
      clear hi HGG HI
      have HWL := Aside0.mk (dg.W_length b 64)
      have HRES := Aside0.mk (show dg.block xs b = dg.add xs (dg.out (dg.rnds (dg.W b 64) (dg.init xs) 64)) 8 from rfl)
      generalize dg.W b 64 = W64 at HW HWL HRES
      have HS := Aside0.mk (show wr.heap[g]? = some (.cells (dg.cells xs) 72 (0, 0)) from (HB.out.block g (blk_lt hS)).trans hS)
      have x0 : wr.cell? ⟨g, 0, none⟩ = some (.int .u32 (rd xs 0)) := dg.blk_read HS.out 0 (by omega)
      have x1 : wr.cell? ⟨g, 1, none⟩ = some (.int .u32 (rd xs 1)) := dg.blk_read HS.out 1 (by omega)
      have x2 : wr.cell? ⟨g, 2, none⟩ = some (.int .u32 (rd xs 2)) := dg.blk_read HS.out 2 (by omega)
      have x3 : wr.cell? ⟨g, 3, none⟩ = some (.int .u32 (rd xs 3)) := dg.blk_read HS.out 3 (by omega)
      have x4 : wr.cell? ⟨g, 4, none⟩ = some (.int .u32 (rd xs 4)) := dg.blk_read HS.out 4 (by omega)
      have x5 : wr.cell? ⟨g, 5, none⟩ = some (.int .u32 (rd xs 5)) := dg.blk_read HS.out 5 (by omega)
      have x6 : wr.cell? ⟨g, 6, none⟩ = some (.int .u32 (rd xs 6)) := dg.blk_read HS.out 6 (by omega)
      have x7 : wr.cell? ⟨g, 7, none⟩ = some (.int .u32 (rd xs 7)) := dg.blk_read HS.out 7 (by omega)
      go_wp2
      refine dg.still0 (by kernel_rfl) (by kernel_rfl) ?_
      repeat still_step
      refine wpStill_nil ?_
      clear x0 x1 x2 x3 x4 x5 x6 x7
      go_wp2
      go_loopg [10, 11, 12, 13, 14, 15, 16, 17, 107] 64 (fun gg v10 v11 v12 v13 v14 v15 v16 v17 v107 wr => ∃ i : Nat, (v10 = .int .u32 (dg.rnds W64 (dg.init xs) i).a ∧ v11 = .int .u32 (dg.rnds W64 (dg.init xs) i).b ∧ v12 = .int .u32 (dg.rnds W64 (dg.init xs) i).c ∧ v13 = .int .u32 (dg.rnds W64 (dg.init xs) i).d ∧ v14 = .int .u32 (dg.rnds W64 (dg.init xs) i).e ∧ v15 = .int .u32 (dg.rnds W64 (dg.init xs) i).f ∧ v16 = .int .u32 (dg.rnds W64 (dg.init xs) i).g ∧ v17 = .int .u32 (dg.rnds W64 (dg.init xs) i).h) ∧ v107 = .int .i64 (i : Int) ∧ Aside0 (i ≤ 64) ∧ Aside0 (64 ≤ i + gg) ∧ Aside0 (wr.heap[w.heap.size]? = some (.cells (dg.cells W64) 102 (0, 0))) ∧ Aside0 (Below w.heap.size w wr))
      case atStart => exact ⟨0, ⟨rfl, rfl, rfl, rfl, rfl, rfl, rfl, rfl⟩, rfl, ⟨by omega⟩, ⟨by omega⟩, ⟨blk_drew HW.out⟩, ⟨below_drew1 HB.out⟩⟩
      case round =>
        clear HW HB HS
        obtain ⟨i, ⟨rfl, rfl, rfl, rfl, rfl, rfl, rfl, rfl⟩, rfl, HI, HGG, HW, HB⟩ := hrel
        by_cases hi : i < 64
        · have hz : decide ((i : Int) < 64) = true := decide_eq_true (by omega)
          have hz' : decide (i < 64) = true := decide_eq_true hi
          have p1 : (0 : Int) ≤ (i : Int) := by omega
          have q1 : (i : Int) < 64 := by omega
          have HLT := Aside0.mk hi
          have hl := HWL.out
          have HST := Aside0.mk (show dg.rnds W64 (dg.init xs) (i + 1) = dg.rnd (dg.rnds W64 (dg.init xs) i) (rd dg.keys (i : Int)) (rd W64 (i : Int)) from rfl)
          have cw := dg.blk_read HW.out i (by omega)
          have ck := (HB.out.cell (World.block_lt_of_cell? _ _ (hK.out i hi))).trans (hK.out i hi)
          generalize rd dg.keys (i : Int) = kx at HST ck
          generalize rd W64 (i : Int) = wx at HST cw
          generalize dg.rnds W64 (dg.init xs) i = S at HST
          obtain ⟨a, bb, c, d, ee, f, gx, hh⟩ := S
          clear hi
          go_wp2
          refine dg.still0 (by kernel_rfl) (by kernel_rfl) ?_
          repeat still_step
          still_call (R6.out _ _)
          repeat still_step
          still_call (R11.out _ _)
          repeat still_step
          still_call (R25.out _ _)
          repeat still_step
          refine wpStill_nil ?_
          go_wp2_with (first
            | (go_at_call 84; (with_reducible refine (R2.out _ _).mono ?_); rintro e w1 ⟨rfl, rfl⟩)
            | (go_at_call 84; (with_reducible refine (R13.out _ _).mono ?_); rintro e w1 ⟨rfl, rfl⟩)
            | (go_at_call 84; (with_reducible refine (R22.out _ _).mono ?_); rintro e w1 ⟨rfl, rfl⟩))
          go_roundg (64 - (i + 1))
          case measure => have := HGG.out; have := HLT.out; omega
          case rel => exact ⟨i + 1, by rw [HST.out]; exact ⟨rfl, rfl, rfl, rfl, rfl, rfl, rfl, rfl⟩, by first | rfl | (have := HLT.out; rw [show wrap64 ((i : Int) + 1) = ((i + 1 : Nat) : Int) by unfold wrap64; omega]), ⟨by have := HLT.out; omega⟩, ⟨by omega⟩, ⟨HW.out⟩, ⟨by repeat (first | exact HB.out | apply pw_below_drewN | apply below_drew1)⟩⟩
        · have hz : decide ((i : Int) < 64) = false := decide_eq_false (by omega)
          obtain rfl : i = 64 := by have := HI.out; omega
          have HS2 := Aside0.mk (show wr.heap[g]? = some (.cells (dg.cells xs) 72 (0, 0)) from (HB.out.block g (blk_lt hS)).trans hS)
          have HBg := Aside0.mk (Below.trans_le_ HB.out (Nat.le_of_lt (blk_lt hS)))
          clear hi HGG HI HW HB
          generalize dg.rnds W64 (dg.init xs) 64 = S at HRES
          go_wp2
          go_loopg [179] 8 (fun gg v179 wr => ∃ i : Nat, v179 = .int .i64 (i : Int) ∧ Aside0 (i ≤ 8) ∧ Aside0 (8 ≤ i + gg) ∧ Aside0 (wr.heap[g]? = some (.cells (dg.cells (dg.add xs (dg.out S) i)) 72 (0, 0))) ∧ Aside0 (Below g w wr))
          case atStart => exact ⟨0, rfl, ⟨by omega⟩, ⟨by omega⟩, HS2, HBg⟩
          case round =>
            clear HS2 HBg
            obtain ⟨i, rfl, HI, HGG, HW, HB⟩ := hrel
            by_cases hi : i < 8
            · have HX := Aside0.mk (show dg.add xs (dg.out S) (i + 1) = (dg.add xs (dg.out S) i).set i ((rd (dg.add xs (dg.out S) i) (i : Int) + rd (dg.out S) (i : Int)) % 4294967296) from rfl)
              have HL := Aside0.mk (dg.add_length xs (dg.out S) i)
              generalize dg.add xs (dg.out S) i = L at HW HX HL
              have cg := dg.blk_read HW.out i (by have := HL.out; omega)
              have fg := blk_frozen HW.out i
              have hx1 := fun W => dg.run_index S i hi W
              have hz : decide ((i : Int) < 8) = true := decide_eq_true (by omega)
              have hz' : decide (i < 8) = true := decide_eq_true hi
              have p1 : (0 : Int) ≤ (i : Int) := by omega
              have q1 : (i : Int) < 8 := by omega
              have HLT := Aside0.mk hi
              generalize rd (dg.out S) (i : Int) = y at hx1 HX
              go_wp2
              refine dg.still 9 (by kernel_rfl) (by kernel_rfl) ?_
              simp only [List.take_succ_cons, List.take_zero, List.drop_succ_cons, List.drop_zero]
              repeat still_step
              refine wpStill_nil ?_
              go_wp2
              go_roundg (8 - (i + 1))
              case measure => have := HGG.out; have := HLT.out; omega
              case rel => exact ⟨i + 1, by first | rfl | (have := HLT.out; rw [show wrap64 ((i : Int) + 1) = ((i + 1 : Nat) : Int) by unfold wrap64; omega]), ⟨by have := HLT.out; omega⟩, ⟨by omega⟩, ⟨by rw [HX.out]; first | exact dg.blk_write (w := wr) HW.out i _ | exact blk_drewN (dg.blk_write (w := wr) HW.out i _) _ | exact dg.blk_write (w := wr.drewN _) HW.out i _ | exact dg.blk_write (w := wr.drew) HW.out i _⟩, ⟨by first | exact HB.out.setCell (p := ⟨g, i, none⟩) (Nat.le_refl g) _ | exact (below_drew HB.out).setCell (p := ⟨g, i, none⟩) (Nat.le_refl g) _ | exact below_drew (HB.out.setCell (p := ⟨g, i, none⟩) (Nat.le_refl g) _) | exact pw_below_drewN (HB.out.setCell (p := ⟨g, i, none⟩) (Nat.le_refl g) _) _⟩⟩
            · have hz : decide ((i : Int) < 8) = false := decide_eq_false (by omega)
              obtain rfl : i = 8 := by have := HI.out; omega
              clear hi HGG HI
              go_wp2
              first | go_end0 | ((try simp only [Exit.inBlock, Exit.then]); refine bodyPost_ret (results_none rfl _ _ _) rfl ?_)
              exact ⟨rfl, by rw [HRES.out]; exact HW.out, HB.out⟩

end Go.Proofs.YtldhjbjbjoomcaaDoor.Q
