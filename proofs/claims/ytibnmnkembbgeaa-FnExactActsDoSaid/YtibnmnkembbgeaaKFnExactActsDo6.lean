/- For each Go function that the laws of this text reach: a Lean function, and the proof that the Go function returns what the Lean function tells, wherever it tells some value. Written by a program of this session. -/
import Derived.Test.YtibnmnkembbgeaaKFnExactActsDo0
import Derived.Test.YtibnmnkembbgeaaKFnExactActsDo2
import Derived.Test.YtibnmnkembbgeaaKFnExactActsDo4
import Derived.Test.YtibnmnkembbgeaaKFnExactActsDo5
namespace Go.Proofs.Ytibnmnkembbgeaa.Q
open Go.RowKit Go.Proofs.YtibnmnkembbgeaaW.PrintWords Go.Proofs.YtibnmnkembbgeaaW.PrintLast Go.Proofs.YtibnmnkembbgeaaW.PrintMore
attribute [local go_sem] max2_int min2_int max_two min_two max_three min_three max_four min_four Instr.field asAgg   -- for this text's walks alone
set_option linter.unusedVariables false
set_option linter.unusedSimpArgs false
/-! ### spec_l04Do: function 97 -/
mutual
def spec_l04Do.l0 : Nat → List (S116) → Int → List ByteArray → List (S92) → ByteArray → Int → Option (List ByteArray × (List (S92)) × ByteArray × Int)
 | 0, _, _, _, _, _, _ => none
 | k + 1, x1, x6, x758000, x758001, x758002, x758003 => if x6 < (x1.length : Int) then (spec_l04Do.j1 k x1 x6 (x758003 == 0) x758000 x758001 x758002 x758003) else (spec_l04Do.j1 k x1 x6 false x758000 x758001 x758002 x758003)
def spec_l04Do.j1 : Nat → List (S116) → Int → Bool → List ByteArray → List (S92) → ByteArray → Int → Option (List ByteArray × (List (S92)) × ByteArray × Int)
 | 0, _, _, _, _, _, _, _ => none
 | k + 1, x1, x6, x18, x758000, x758001, x758002, x758003 => if x18 = true then (if 0 ≤ x6 then (if x6 < (x1.length : Int) then (if (rd_T116 x1 x6).f0 = true then ((spec_FlashSync.f k x758000 x758001).bind fun bt767 => (spec_l04Do.l0 k x1 (wrap64 (x6 + 1)) bt767.1 bt767.2.1 bt767.2.2.1 bt767.2.2.2)) else ((spec_FlashWrite.f k x758000 x758001 ((rd_T116 x1 x6).f1) ((rd_T116 x1 x6).f2)).bind fun bt777 => (spec_l04Do.l0 k x1 (wrap64 (x6 + 1)) bt777.1 bt777.2.1 bt777.2.2.1 bt777.2.2.2))) else (none)) else (none)) else (if x758003 = 0 then (some (x758000, x758001, x758002, x758003)) else ((spec_l03Ill.f x758003).bind fun bt758 => (some (bt758.1, bt758.2.1, bt758.2.2.1, bt758.2.2.2))))
end
def spec_l04Do.f (k : Nat) (l0_0 : List ByteArray) (l0_1 : List (S92)) (l1 : List (S116)) : Option (List ByteArray × (List (S92)) × ByteArray × Int) := (spec_l03Copy.f l0_0 l0_1).bind fun bt751 => (spec_l04Do.l0 k l1 0 bt751.1 bt751.2 (⟨#[]⟩ : ByteArray) 0)
theorem spec_l04Do.mono_l : ∀ k, (∀ y0 y1 y2 y3 y4 y5, LeO (spec_l04Do.l0 k y0 y1 y2 y3 y4 y5) (spec_l04Do.l0 (k + 1) y0 y1 y2 y3 y4 y5)) ∧ (∀ y0 y1 y2 y3 y4 y5 y6, LeO (spec_l04Do.j1 k y0 y1 y2 y3 y4 y5 y6) (spec_l04Do.j1 (k + 1) y0 y1 y2 y3 y4 y5 y6))
 | 0 => ⟨fun _ _ _ _ _ _ r h => by simp [spec_l04Do.l0] at h, fun _ _ _ _ _ _ _ r h => by simp [spec_l04Do.j1] at h⟩
 | k + 1 => by
  obtain ⟨ih0, ih1⟩ := spec_l04Do.mono_l k
  refine ⟨?_, ?_⟩
  ·
   intro y0 y1 y2 y3 y4 y5
   unfold spec_l04Do.l0
   repeat' first
   | (with_reducible exact ih0 _ _ _ _ _ _)
   | (with_reducible exact ih1 _ _ _ _ _ _ _)
   | (with_reducible exact spec_FlashSync.mono _ _ _)
   | (with_reducible exact spec_FlashWrite.mono _ _ _ _ _)
   | (with_reducible exact LeO.refl _)
   | (with_reducible exact LeO.none _)
   | (with_reducible refine LeO.ite ?_ ?_)
   | (with_reducible refine LeO.bind ?_ (fun _ => ?_))
   | exact ih0 _ _ _ _ _ _
   | exact ih1 _ _ _ _ _ _ _
   | exact spec_FlashSync.mono _ _ _
   | exact spec_FlashWrite.mono _ _ _ _ _
   | exact LeO.none _
   | refine LeO.ite ?_ ?_
   | refine LeO.bind ?_ (fun _ => ?_)
  ·
   intro y0 y1 y2 y3 y4 y5 y6
   unfold spec_l04Do.j1
   repeat' first
   | (with_reducible exact ih0 _ _ _ _ _ _)
   | (with_reducible exact ih1 _ _ _ _ _ _ _)
   | (with_reducible exact spec_FlashSync.mono _ _ _)
   | (with_reducible exact spec_FlashWrite.mono _ _ _ _ _)
   | (with_reducible exact LeO.refl _)
   | (with_reducible exact LeO.none _)
   | (with_reducible refine LeO.ite ?_ ?_)
   | (with_reducible refine LeO.bind ?_ (fun _ => ?_))
   | exact ih0 _ _ _ _ _ _
   | exact ih1 _ _ _ _ _ _ _
   | exact spec_FlashSync.mono _ _ _
   | exact spec_FlashWrite.mono _ _ _ _ _
   | exact LeO.none _
   | refine LeO.ite ?_ ?_
   | refine LeO.bind ?_ (fun _ => ?_)
theorem spec_l04Do.mono : ∀ a0 a1 a2 k, LeO (spec_l04Do.f k a0 a1 a2) (spec_l04Do.f (k + 1) a0 a1 a2) := by
 intro a0 a1 a2 k
 obtain ⟨ih0, ih1⟩ := spec_l04Do.mono_l k
 unfold spec_l04Do.f
 repeat' first
   | (with_reducible exact ih0 _ _ _ _ _ _)
   | (with_reducible exact ih1 _ _ _ _ _ _ _)
   | (with_reducible exact spec_FlashSync.mono _ _ _)
   | (with_reducible exact spec_FlashWrite.mono _ _ _ _ _)
   | (with_reducible exact LeO.refl _)
   | (with_reducible exact LeO.none _)
   | (with_reducible refine LeO.ite ?_ ?_)
   | (with_reducible refine LeO.bind ?_ (fun _ => ?_))
   | exact ih0 _ _ _ _ _ _
   | exact ih1 _ _ _ _ _ _ _
   | exact spec_FlashSync.mono _ _ _
   | exact spec_FlashWrite.mono _ _ _ _ _
   | exact LeO.none _
   | refine LeO.ite ?_ ?_
   | refine LeO.bind ?_ (fun _ => ?_)
def spec_l04Do.T7 : Bool × List (List Nat × List Nat) := (true, [([], []), ([0], [0]), ([], []), ([], []), ([2, 3], [2, 3]), ([4], [4]), ([5], [5]), ([], []), ([], []), ([7, 8], [7, 8]), ([9], [9]), ([10], [10]), ([1, 6, 11], [1, 6, 11]), ([12, 12, 0, 1, 2, 3, 4, 5, 6, 7, 8, 9, 10, 11, 12], [12])])
def spec_l04Do.B7 : List Nat := [0, 1, 0, 0, 12, 28, 60, 0, 0, 384, 896, 1920, 4095, 8191]
theorem spec_l04Do.tab7 : rtab .any (opsOf Try.f97 7) = spec_l04Do.T7 := by kernel_rfl
theorem spec_l04Do.bits7 : waitsOk spec_l04Do.T7.2 spec_l04Do.B7 = true := by kernel_rfl
set_option maxHeartbeats 8000000 in
set_option maxRecDepth 100000 in
theorem spec_l04Do.calls (k : Nat) (A0_0 : Option Addr) (c0_0 : Nat) (l0_0 : List ByteArray) (A0_1 : Option Addr) (c0_1 : Nat) (l0_1 : List (S92)) (A1 : Option Addr) (c1 : Nat) (l1 : List (S116)) (r1 : List ByteArray) (r2 : List (S92)) (r3 : ByteArray) (r4 : Int) (w : World) (hr0_0 : Kd.C Kd.string w A0_0 l0_0.length l0_0) (hc0_0 : l0_0.length ≤ c0_0) (hr0_1 : Kd.C k92 w A0_1 l0_1.length l0_1) (hc0_1 : l0_1.length ≤ c0_1) (hr1 : Kd.C k116 w A1 l1.length l1) (hc1 : l1.length ≤ c1) (h : spec_l04Do.f k l0_0 l0_1 l1 = some (r1, r2, r3, r4)) :
  Calls Try.prog 97 #[.agg #[.slice A0_0 l0_0.length c0_0, .slice A0_1 l0_1.length c0_1], .slice A1 l1.length c1] w fun e w' => ∃ v0_ v1_ : Value, e = .returned (.agg #[v0_, v1_, .string r3, .int .i64 r4]) ∧ Kd.R Kd.string 9 w' w.heap.size (fun _ => True) v0_ r1 ∧ Kd.R k92 92 w' w.heap.size (fun _ => True) v1_ r2 ∧ Below w.heap.size w w' := by
 have hu30 := Try.underlying30
 have hu35 := Try.underlying35
 have HR0_0 := Aside0.mk hr0_0
 have HC0_0 := Aside0.mk hc0_0
 clear hr0_0 hc0_0
 have HR0_1 := Aside0.mk hr0_1
 have HC0_1 := Aside0.mk hc0_1
 clear hr0_1 hc0_1
 have HR1 := Aside0.mk hr1
 have HC1 := Aside0.mk hc1
 clear hr1 hc1
 have HB := Aside0.mk (Below.refl w.heap.size w)
 have H : ((spec_l03Copy.f l0_0 l0_1).bind fun bt751 => (spec_l04Do.l0 k l1 0 bt751.1 bt751.2 (⟨#[]⟩ : ByteArray) 0)) = some (r1, r2, r3, r4) := h
 clear h
 replace H := Option.bind_eq_some_iff.mp H
 obtain ⟨⟨t751, t754⟩, A30, H⟩ := H
 replace H : (spec_l04Do.l0 k l1 0 t751 t754 (⟨#[]⟩ : ByteArray) 0) = some (r1, r2, r3, r4) := H
 have A3 := Aside0.mk A30
 clear A30
 have H' := Aside0.mk H
 clear H
 go_enter Try.func97, Try.ntmps97
 go_wp2_with (first | ((with_reducible refine gate_dst (N := 2) rfl ?_); refine box_event ?hg (N := 2) ?hd (cs := #[.slice A0_0 l0_0.length c0_0, .slice A0_1 l0_1.length c0_1]) (t := 30) ?hr ?_; (case hd => rfl); (case hg => rfl); (case hr => first | (go_simp; done) | (go_simp; rfl)); intro gb749 hg w4 hbox hb; have n0_ := Aside0.mk (below_step (zh_ HB.out) hb); have n1_ := Aside0.mk (hbox); have n2_ := Aside0.mk ((by rw [hg]; exact (below_size (zh_ HB.out)) : w.heap.size ≤ gb749)); have n3_ := Aside0.mk ((by rw [hg]; exact (below_size (zh_ HB.out)) : w.heap.size ≤ gb749)); clear HB; have HB := n0_; have BK749 := n1_; have GW749 := n2_; have GE749 := n3_; clear n0_ n1_ n2_ n3_; clear hb hbox hg) | ((with_reducible refine gate_dst (N := 4) rfl ?_); refine box_event ?hg (N := 4) ?hd (cs := #[.slice none 0 0, .slice none 0 0, .string (⟨#[]⟩ : ByteArray), .int .i64 0]) (t := 35) ?hr ?_; (case hd => rfl); (case hg => rfl); (case hr => first | (go_simp; done) | (go_simp; rfl)); intro gb750 hg w5 hbox hb; have n0_ := Aside0.mk (blk_below (g := gb749) (o := .cells #[.slice A0_0 l0_0.length c0_0, .slice A0_1 l0_1.length c0_1] 30 (0, 0)) (zb_ BK749.out) hb); have n1_ := Aside0.mk (below_step (zg1_ HB.out GE749.out) hb); have n2_ := Aside0.mk (hbox); have n3_ := Aside0.mk ((by rw [hg]; exact (below_size (zg1_ HB.out GE749.out)) : w.heap.size ≤ gb750)); have n4_ := Aside0.mk ((by rw [hg]; exact (below_size (zg1_ HB.out GE749.out)) : w.heap.size ≤ gb750)); have n5_ := Aside0.mk ((by rw [hg]; exact Nat.ne_of_lt (blk_lt (g := gb749) (o := .cells #[.slice A0_0 l0_0.length c0_0, .slice A0_1 l0_1.length c0_1] 30 (0, 0)) (zb_ BK749.out)) : gb749 ≠ gb750)); have n6_ := Aside0.mk ((by rw [hg]; exact Nat.ne_of_gt (blk_lt (g := gb749) (o := .cells #[.slice A0_0 l0_0.length c0_0, .slice A0_1 l0_1.length c0_1] 30 (0, 0)) (zb_ BK749.out)) : gb750 ≠ gb749)); clear BK749; clear HB; have BK749 := n0_; have HB := n1_; have BK750 := n2_; have GW750 := n3_; have GE750 := n4_; have NB749_750 := n5_; have NB750_749 := n6_; clear n0_ n1_ n2_ n3_ n4_ n5_ n6_; clear hb hbox hg; have hnb6 := NB749_750.out; have hnc6 := NB750_749.out; have hcz7_0 : w5.cell? ⟨gb749, 0, none⟩ = some (.slice A0_0 l0_0.length c0_0) := (blk_cell BK749.out 0).trans rfl; have hcz7_1 : w5.cell? ⟨gb749, 1, none⟩ = some (.slice A0_1 l0_1.length c0_1) := (blk_cell BK749.out 1).trans rfl; have hfz7_0 := blk_frozen BK749.out 0; have hfz7_1 := blk_frozen BK749.out 1) | ((with_reducible refine gate_callee (f := 87) rfl ?_); refine goesL_ (some 8) rfl rfl Try.func87 (by kernel_rfl) rfl #[.agg #[.slice A0_0 l0_0.length c0_0, .slice A0_1 l0_1.length c0_1]] rfl zs_ ?_; (with_reducible refine (spec_l03Copy.calls _ _ l0_0 _ _ l0_1 t751 t754 _ ?side1 ?side2 ?side3 ?side4 A3.out).mono ?_); (case side1 => exact zc_ (Kd.C_below HR0_0.out HB.out)); (case side2 => exact HC0_0.out); (case side3 => exact zc_ (Kd.C_below HR0_1.out HB.out)); (case side4 => exact HC0_1.out); rintro e w8 ⟨v752, v755, rfl, ho0, ho1, hb⟩; refine ⟨_, rfl, ?_⟩; have n0_ := Aside0.mk (Kd.R_lower ho0 (below_size (zg2_ HB.out GE749.out GE750.out))); have n1_ := Aside0.mk (Kd.R_lower ho1 (below_size (zg2_ HB.out GE749.out GE750.out))); have n2_ := Aside0.mk (blk_below (g := gb749) (o := .cells #[.slice A0_0 l0_0.length c0_0, .slice A0_1 l0_1.length c0_1] 30 (0, 0)) (zb_ BK749.out) hb); have n3_ := Aside0.mk (blk_below (g := gb750) (o := .cells #[.slice none 0 0, .slice none 0 0, .string (⟨#[]⟩ : ByteArray), .int .i64 0] 35 (0, 0)) (zb_ BK750.out) hb); have n4_ := Aside0.mk (below_step (zg2_ HB.out GE749.out GE750.out) hb); clear BK749; clear BK750; clear HB; have HO753 := n0_; have HO756 := n1_; have BK749 := n2_; have BK750 := n3_; have HB := n4_; clear n0_ n1_ n2_ n3_ n4_; (try clear hb); (try clear hb2); (try clear hk); (try clear hi); (try clear ho0); (try clear ho1); obtain ⟨Ao9, co9, eo9⟩ := Kd.R_slice HO756.out; subst eo9; obtain ⟨Ao10, co10, eo10⟩ := Kd.R_slice HO753.out; subst eo10) | ((with_reducible refine gate_dst (N := 5) rfl ?_); refine box_event ?hg (N := 5) ?hd (cs := #[.slice none 0 0, .slice none 0 0, .string (⟨#[]⟩ : ByteArray), .int .i64 0]) (t := 35) ?hr ?_; (case hd => rfl); (case hg => rfl); (case hr => first | (go_simp; done) | (go_simp; rfl)); intro gb757 hg w11 hbox hb; have n0_ := Aside0.mk (Kd.R_below (zr_ HO753.out) hb); have n1_ := Aside0.mk (Kd.R_below (zr_ HO756.out) hb); have n2_ := Aside0.mk (blk_below (g := gb749) (o := .cells #[.slice A0_0 l0_0.length c0_0, .slice A0_1 l0_1.length c0_1] 30 (0, 0)) (zb_ BK749.out) hb); have n3_ := Aside0.mk (blk_below (g := gb750) (o := .cells #[.slice none 0 0, .slice none 0 0, .string (⟨#[]⟩ : ByteArray), .int .i64 0] 35 (0, 0)) (zb_ BK750.out) hb); have n4_ := Aside0.mk (below_step (zg2_ HB.out GE749.out GE750.out) hb); have n5_ := Aside0.mk (hbox); have n6_ := Aside0.mk ((by rw [hg]; exact (below_size (zg2_ HB.out GE749.out GE750.out)) : w.heap.size ≤ gb757)); have n7_ := Aside0.mk ((by rw [hg]; exact (below_size (zg2_ HB.out GE749.out GE750.out)) : w.heap.size ≤ gb757)); have n8_ := Aside0.mk ((by rw [hg]; exact Nat.ne_of_lt (blk_lt (g := gb749) (o := .cells #[.slice A0_0 l0_0.length c0_0, .slice A0_1 l0_1.length c0_1] 30 (0, 0)) (zb_ BK749.out)) : gb749 ≠ gb757)); have n9_ := Aside0.mk ((by rw [hg]; exact Nat.ne_of_gt (blk_lt (g := gb749) (o := .cells #[.slice A0_0 l0_0.length c0_0, .slice A0_1 l0_1.length c0_1] 30 (0, 0)) (zb_ BK749.out)) : gb757 ≠ gb749)); have n10_ := Aside0.mk ((by rw [hg]; exact Nat.ne_of_lt (blk_lt (g := gb750) (o := .cells #[.slice none 0 0, .slice none 0 0, .string (⟨#[]⟩ : ByteArray), .int .i64 0] 35 (0, 0)) (zb_ BK750.out)) : gb750 ≠ gb757)); have n11_ := Aside0.mk ((by rw [hg]; exact Nat.ne_of_gt (blk_lt (g := gb750) (o := .cells #[.slice none 0 0, .slice none 0 0, .string (⟨#[]⟩ : ByteArray), .int .i64 0] 35 (0, 0)) (zb_ BK750.out)) : gb757 ≠ gb750)); clear HO753; clear HO756; clear BK749; clear BK750; clear HB; have HO753 := n0_; have HO756 := n1_; have BK749 := n2_; have BK750 := n3_; have HB := n4_; have BK757 := n5_; have GW757 := n6_; have GE757 := n7_; have NB749_757 := n8_; have NB757_749 := n9_; have NB750_757 := n10_; have NB757_750 := n11_; clear n0_ n1_ n2_ n3_ n4_ n5_ n6_ n7_ n8_ n9_ n10_ n11_; clear hb hbox hg; have hnb12 := NB757_749.out; have hnc12 := NB749_757.out; have hnb13 := NB757_750.out; have hnc13 := NB750_757.out; have hcz14_0 : w11.cell? ⟨gb757, 0, none⟩ = some (.slice none 0 0) := (blk_cell BK757.out 0).trans rfl; have hcz14_1 : w11.cell? ⟨gb757, 1, none⟩ = some (.slice none 0 0) := (blk_cell BK757.out 1).trans rfl; have hcz14_2 : w11.cell? ⟨gb757, 2, none⟩ = some (.string (⟨#[]⟩ : ByteArray)) := (blk_cell BK757.out 2).trans rfl; have hcz14_3 : w11.cell? ⟨gb757, 3, none⟩ = some (.int .i64 0) := (blk_cell BK757.out 3).trans rfl; have hfz14_0 := blk_frozen BK757.out 0; have hfz14_1 := blk_frozen BK757.out 1; have hfz14_2 := blk_frozen BK757.out 2; have hfz14_3 := blk_frozen BK757.out 3))
 go_loopg [6] k (fun kq v6 w' => ∃ (x6_1 : Int) (x758000_1 : List ByteArray) (x758001_1 : List (S92)) (x758002_1 : ByteArray) (x758003_1 : Int) (u758000 : Value) (u758001 : Value), v6 = .int .i64 x6_1 ∧ Aside0 (spec_l04Do.l0 kq l1 x6_1 x758000_1 x758001_1 x758002_1 x758003_1 = some (r1, r2, r3, r4)) ∧ Aside0 (kq ≤ k) ∧ Aside0 (Kd.R Kd.string 9 w' w.heap.size (fun _ => True) u758000 x758000_1) ∧ Aside0 (Kd.R k92 92 w' w.heap.size (fun _ => True) u758001 x758001_1) ∧ Aside0 (w'.heap[gb749]? = some (.cells #[(.slice A0_0 l0_0.length c0_0), (.slice A0_1 l0_1.length c0_1)] 30 (0, 0))) ∧ Aside0 (w'.heap[gb750]? = some (.cells #[(.slice none 0 0), (.slice none 0 0), .string (⟨#[]⟩ : ByteArray), .int .i64 0] 35 (0, 0))) ∧ Aside0 (w'.heap[gb757]? = some (.cells #[u758000, u758001, .string x758002_1, .int .i64 x758003_1] 35 (0, 0))) ∧ Aside0 (Below w.heap.size w w'))
 case atStart => exact ⟨(0), (t751), (t754), ((⟨#[]⟩ : ByteArray)), (0), (.slice Ao10 t751.length co10), (.slice Ao9 t754.length co9), (by first | rfl | (simp; done) | (simp [*]; done)), H', ⟨Nat.le_refl _⟩, ⟨by (with_reducible repeat (first | apply Kd.R_alloc | apply Kd.R_drewN | apply Kd.R_drew)); exact Kd.R_mono (Kd.R_far (p := ⟨gb757, 3, none⟩) (Kd.R_far (p := ⟨gb757, 2, none⟩) (Kd.R_far (p := ⟨gb757, 1, none⟩) (Kd.R_far (p := ⟨gb757, 0, none⟩) (Kd.R_types HO753.out BK757.out (by decide)) (fun _ hk => hk.2) (.slice Ao10 t751.length co10)) (fun _ hk => hk.2) (.slice Ao9 t754.length co9)) (fun _ hk => hk.2) (.string (⟨#[]⟩ : ByteArray))) (fun _ hk => hk.2) (.int .i64 0)) (fun _ hk => trivial)⟩, ⟨by (with_reducible repeat (first | apply Kd.R_alloc | apply Kd.R_drewN | apply Kd.R_drew)); exact Kd.R_mono (Kd.R_far (p := ⟨gb757, 3, none⟩) (Kd.R_far (p := ⟨gb757, 2, none⟩) (Kd.R_far (p := ⟨gb757, 1, none⟩) (Kd.R_far (p := ⟨gb757, 0, none⟩) (Kd.R_types HO756.out BK757.out (by decide)) (fun _ hk => hk.2) (.slice Ao10 t751.length co10)) (fun _ hk => hk.2) (.slice Ao9 t754.length co9)) (fun _ hk => hk.2) (.string (⟨#[]⟩ : ByteArray))) (fun _ hk => hk.2) (.int .i64 0)) (fun _ hk => trivial)⟩, ⟨by (with_reducible repeat (first | refine blk_drewN ?_ _ | refine blk_drew ?_ | refine blk_alloc ?_ _)); refine blk_far ?_ NB749_757.out _; (with_reducible repeat (first | refine blk_drewN ?_ _ | refine blk_drew ?_ | refine blk_alloc ?_ _)); refine blk_far ?_ NB749_757.out _; (with_reducible repeat (first | refine blk_drewN ?_ _ | refine blk_drew ?_ | refine blk_alloc ?_ _)); refine blk_far ?_ NB749_757.out _; (with_reducible repeat (first | refine blk_drewN ?_ _ | refine blk_drew ?_ | refine blk_alloc ?_ _)); refine blk_far ?_ NB749_757.out _; (with_reducible repeat (first | refine blk_drewN ?_ _ | refine blk_drew ?_ | refine blk_alloc ?_ _)); exact BK749.out⟩, ⟨by (with_reducible repeat (first | refine blk_drewN ?_ _ | refine blk_drew ?_ | refine blk_alloc ?_ _)); refine blk_far ?_ NB750_757.out _; (with_reducible repeat (first | refine blk_drewN ?_ _ | refine blk_drew ?_ | refine blk_alloc ?_ _)); refine blk_far ?_ NB750_757.out _; (with_reducible repeat (first | refine blk_drewN ?_ _ | refine blk_drew ?_ | refine blk_alloc ?_ _)); refine blk_far ?_ NB750_757.out _; (with_reducible repeat (first | refine blk_drewN ?_ _ | refine blk_drew ?_ | refine blk_alloc ?_ _)); refine blk_far ?_ NB750_757.out _; (with_reducible repeat (first | refine blk_drewN ?_ _ | refine blk_drew ?_ | refine blk_alloc ?_ _)); exact BK750.out⟩, ⟨by (with_reducible repeat (first | refine blk_drewN ?_ _ | refine blk_drew ?_ | refine blk_alloc ?_ _)); refine blk_put (cs := #[.slice Ao10 t751.length co10, .slice Ao9 t754.length co9, .string (⟨#[]⟩ : ByteArray), .int .i64 0]) ?_ 3 _ rfl; (with_reducible repeat (first | refine blk_drewN ?_ _ | refine blk_drew ?_ | refine blk_alloc ?_ _)); refine blk_put (cs := #[.slice Ao10 t751.length co10, .slice Ao9 t754.length co9, .string (⟨#[]⟩ : ByteArray), .int .i64 0]) ?_ 2 _ rfl; (with_reducible repeat (first | refine blk_drewN ?_ _ | refine blk_drew ?_ | refine blk_alloc ?_ _)); refine blk_put (cs := #[.slice Ao10 t751.length co10, .slice none 0 0, .string (⟨#[]⟩ : ByteArray), .int .i64 0]) ?_ 1 _ rfl; (with_reducible repeat (first | refine blk_drewN ?_ _ | refine blk_drew ?_ | refine blk_alloc ?_ _)); refine blk_put (cs := #[.slice none 0 0, .slice none 0 0, .string (⟨#[]⟩ : ByteArray), .int .i64 0]) ?_ 0 _ rfl; (with_reducible repeat (first | refine blk_drewN ?_ _ | refine blk_drew ?_ | refine blk_alloc ?_ _)); exact BK757.out⟩, ⟨zg3_ HB.out GE749.out GE750.out GE757.out⟩⟩
 case round =>
  clear H'
  try clear c1
  try clear p2
  try clear c6
  try clear c8
  try clear c9
  try clear c12
  try clear c13
  try clear hcz14_0
  try clear hcz14_1
  try clear hcz14_2
  try clear hcz14_3
  try clear hcz7_0
  try clear hcz7_1
  try clear hfz14_0
  try clear hfz14_1
  try clear hfz14_2
  try clear hfz14_3
  try clear hfz7_0
  try clear hfz7_1
  obtain ⟨x6_1, x758000_1, x758001_1, x758002_1, x758003_1, u758000, u758001, rfl, HA, HK1, HO_758000, HO_758001, BK749, BK750, BK757, HB⟩ := hrel
  cases gk with
  | zero => exact absurd HA.out (by simp [spec_l04Do.l0])
  | succ k1 =>
   have H := HA.out
   clear HA
   simp only [spec_l04Do.l0] at H
   have HC15 := Aside0.mk H
   clear H
   go_upto_region 3 with (fail)
   go_cut [18] (fun v18 wc => ∃ (kq : Nat) (x18_14 : Bool), v18 = .bool x18_14 ∧ Aside0 (spec_l04Do.j1 kq l1 x6_1 x18_14 x758000_1 x758001_1 x758002_1 x758003_1 = some (r1, r2, r3, r4)) ∧ Aside0 (kq ≤ k1) ∧ Aside0 (Kd.R Kd.string 9 wc w.heap.size (fun _ => True) u758000 x758000_1) ∧ Aside0 (Kd.R k92 92 wc w.heap.size (fun _ => True) u758001 x758001_1) ∧ Aside0 (wc.heap[gb749]? = some (.cells #[(.slice A0_0 l0_0.length c0_0), (.slice A0_1 l0_1.length c0_1)] 30 (0, 0))) ∧ Aside0 (wc.heap[gb750]? = some (.cells #[(.slice none 0 0), (.slice none 0 0), .string (⟨#[]⟩ : ByteArray), .int .i64 0] 35 (0, 0))) ∧ Aside0 (wc.heap[gb757]? = some (.cells #[u758000, u758001, .string x758002_1, .int .i64 x758003_1] 35 (0, 0))) ∧ Aside0 (Below w.heap.size w wc))
   case first =>
    have H := HC15.out
    clear HC15
    by_cases c16 : x6_1 < (l1.length : Int)
    ·
     rw [if_pos c16] at H
     have c16b0 : decide (x6_1 < (l1.length : Int)) = true := decide_eq_true c16
     clear c16
     (first | rw [c16b0] | (simp only [i64_w, i32_w]; rw [c16b0]) | skip)
     have H' := Aside0.mk H
     clear H
     have hnb17 := NB757_749.out
     have hnc17 := NB749_757.out
     have hnb18 := NB757_750.out
     have hnc18 := NB750_757.out
     have hcz19_0 : wr.cell? ⟨gb757, 0, none⟩ = some (u758000) := (blk_cell BK757.out 0).trans rfl
     have hcz19_1 : wr.cell? ⟨gb757, 1, none⟩ = some (u758001) := (blk_cell BK757.out 1).trans rfl
     have hcz19_2 : wr.cell? ⟨gb757, 2, none⟩ = some (.string x758002_1) := (blk_cell BK757.out 2).trans rfl
     have hcz19_3 : wr.cell? ⟨gb757, 3, none⟩ = some (.int .i64 x758003_1) := (blk_cell BK757.out 3).trans rfl
     have hfz19_0 := blk_frozen BK757.out 0
     have hfz19_1 := blk_frozen BK757.out 1
     have hfz19_2 := blk_frozen BK757.out 2
     have hfz19_3 := blk_frozen BK757.out 3
     go_wp2
     go_meet
     case rel => exact ⟨_, ((x758003_1 == 0)), (by first | rfl | (simp; done) | (simp [*]; done)), H', ⟨by have := HK1.out; first | omega | exact Nat.le_refl _⟩, ⟨zr_ HO_758000.out⟩, ⟨zr_ HO_758001.out⟩, ⟨zb_ BK749.out⟩, ⟨zb_ BK750.out⟩, ⟨zb_ BK757.out⟩, ⟨zg3_ HB.out GE749.out GE750.out GE757.out⟩⟩
    ·
     rw [if_neg c16] at H
     have c16b0 : decide (x6_1 < (l1.length : Int)) = false := decide_eq_false c16
     clear c16
     (first | rw [c16b0] | (simp only [i64_w, i32_w]; rw [c16b0]) | skip)
     have H' := Aside0.mk H
     clear H
     go_wp2
     go_meet
     case rel => exact ⟨_, (false), (by first | rfl | (simp; done) | (simp [*]; done)), H', ⟨by have := HK1.out; first | omega | exact Nat.le_refl _⟩, ⟨zr_ HO_758000.out⟩, ⟨zr_ HO_758001.out⟩, ⟨zb_ BK749.out⟩, ⟨zb_ BK750.out⟩, ⟨zb_ BK757.out⟩, ⟨zg3_ HB.out GE749.out GE750.out GE757.out⟩⟩
   case rest =>
    clear HC15
    try clear c1
    try clear p2
    try clear c6
    try clear c8
    try clear c9
    try clear c12
    try clear c13
    try clear c16
    try clear c16b0
    try clear c17
    try clear c18
    try clear hcz14_0
    try clear hcz14_1
    try clear hcz14_2
    try clear hcz14_3
    try clear hcz19_0
    try clear hcz19_1
    try clear hcz19_2
    try clear hcz19_3
    try clear hcz7_0
    try clear hcz7_1
    try clear hfz14_0
    try clear hfz14_1
    try clear hfz14_2
    try clear hfz14_3
    try clear hfz19_0
    try clear hfz19_1
    try clear hfz19_2
    try clear hfz19_3
    try clear hfz7_0
    try clear hfz7_1
    try clear p2
    obtain ⟨kq, x18_14, rfl, HA, HJ14, HO_758000, HO_758001, BK749, BK750, BK757, HB⟩ := hcut
    cases kq with
    | zero => exact absurd HA.out (by simp [spec_l04Do.j1])
    | succ kj14 =>
     have H := HA.out
     clear HA
     simp only [spec_l04Do.j1] at H
     by_cases c20 : x18_14 = true
     ·
      subst c20
      have H1 : (if 0 ≤ x6_1 then (if x6_1 < (l1.length : Int) then (if (rd_T116 l1 x6_1).f0 = true then ((spec_FlashSync.f kj14 x758000_1 x758001_1).bind fun bt767 => (spec_l04Do.l0 kj14 l1 (wrap64 (x6_1 + 1)) bt767.1 bt767.2.1 bt767.2.2.1 bt767.2.2.2)) else ((spec_FlashWrite.f kj14 x758000_1 x758001_1 ((rd_T116 l1 x6_1).f1) ((rd_T116 l1 x6_1).f2)).bind fun bt777 => (spec_l04Do.l0 kj14 l1 (wrap64 (x6_1 + 1)) bt777.1 bt777.2.1 bt777.2.2.1 bt777.2.2.2))) else (none)) else (none)) = some (r1, r2, r3, r4) := by rw [if_pos rfl] at H; exact H
      clear H
      have H := H1
      clear H1
      by_cases c21 : 0 ≤ x6_1
      ·
       rw [if_pos c21] at H
       have c21b0 : decide (0 ≤ x6_1) = true := decide_eq_true c21
       clear c21
       by_cases c22 : x6_1 < (l1.length : Int)
       ·
        rw [if_pos c22] at H
        have c22b0 : decide (x6_1 < (l1.length : Int)) = true := decide_eq_true c22
        clear c22
        obtain ⟨bq23, hbq23⟩ : ∃ b_ : Bool, b_ = ((rd_T116 l1 x6_1).f0) := ⟨_, rfl⟩
        replace H : (if bq23 = true then ((spec_FlashSync.f kj14 x758000_1 x758001_1).bind fun bt767 => (spec_l04Do.l0 kj14 l1 (wrap64 (x6_1 + 1)) bt767.1 bt767.2.1 bt767.2.2.1 bt767.2.2.2)) else ((spec_FlashWrite.f kj14 x758000_1 x758001_1 ((rd_T116 l1 x6_1).f1) ((rd_T116 l1 x6_1).f2)).bind fun bt777 => (spec_l04Do.l0 kj14 l1 (wrap64 (x6_1 + 1)) bt777.1 bt777.2.1 bt777.2.2.1 bt777.2.2.2))) = some (r1, r2, r3, r4) := by rw [← hbq23] at H; exact H
        have Nbq23 := Aside0.mk hbq23
        clear hbq23
        by_cases c24 : bq23 = true
        ·
         subst c24
         have H1 : ((spec_FlashSync.f kj14 x758000_1 x758001_1).bind fun bt767 => (spec_l04Do.l0 kj14 l1 (wrap64 (x6_1 + 1)) bt767.1 bt767.2.1 bt767.2.2.1 bt767.2.2.2)) = some (r1, r2, r3, r4) := by rw [if_pos rfl] at H; exact H
         clear H
         have H := H1
         clear H1
         replace H := Option.bind_eq_some_iff.mp H
         obtain ⟨⟨t767, t770, t773, t774⟩, A250, H⟩ := H
         replace H : (spec_l04Do.l0 kj14 l1 (wrap64 (x6_1 + 1)) t767 t770 t773 t774) = some (r1, r2, r3, r4) := H
         have A25 := Aside0.mk A250
         clear A250
         have H' := Aside0.mk H
         clear H
         have p766 : 0 ≤ (x6_1 : Int) := of_decide_eq_true (by first | (with_reducible assumption) | assumption)
         have q766 : x6_1 < (l1.length : Int) := of_decide_eq_true (by first | (with_reducible assumption) | assumption)
         obtain ⟨ad766, e766, hx766_0, hx766_1, hx766_2⟩ := at_T116 HR1.out x6_1 p766 q766
         (try rw [← Nbq23.out] at hx766_0)
         (try rw [← Nbq23.out] at hw766_0)
         cases e766
         replace hx766_0 := (HB.out.cell (World.block_lt_of_cell? _ _ hx766_0)).trans hx766_0
         replace hx766_1 := (HB.out.cell (World.block_lt_of_cell? _ _ hx766_1)).trans hx766_1
         replace hx766_2 := (HB.out.cell (World.block_lt_of_cell? _ _ hx766_2)).trans hx766_2
         replace p766 := eq_true p766
         replace q766 := eq_true q766
         have hnb26 := NB757_749.out
         have hnc26 := NB749_757.out
         have hnb27 := NB757_750.out
         have hnc27 := NB750_757.out
         have hcz28_0 : wc.cell? ⟨gb757, 0, none⟩ = some (u758000) := (blk_cell BK757.out 0).trans rfl
         have hcz28_1 : wc.cell? ⟨gb757, 1, none⟩ = some (u758001) := (blk_cell BK757.out 1).trans rfl
         have hcz28_2 : wc.cell? ⟨gb757, 2, none⟩ = some (.string x758002_1) := (blk_cell BK757.out 2).trans rfl
         have hcz28_3 : wc.cell? ⟨gb757, 3, none⟩ = some (.int .i64 x758003_1) := (blk_cell BK757.out 3).trans rfl
         have hfz28_0 := blk_frozen BK757.out 0
         have hfz28_1 := blk_frozen BK757.out 1
         have hfz28_2 := blk_frozen BK757.out 2
         have hfz28_3 := blk_frozen BK757.out 3
         obtain ⟨Ao29, co29, eo29⟩ := Kd.R_slice HO_758000.out
         subst eo29
         obtain ⟨Ao30, co30, eo30⟩ := Kd.R_slice HO_758001.out
         subst eo30
         go_wp2_with (first | ((with_reducible refine gate_callee (f := 19) rfl ?_); refine goesL_ (some 28) rfl rfl Try.func19 (by kernel_rfl) rfl #[.agg #[.slice Ao29 x758000_1.length co29, .slice Ao30 x758001_1.length co30]] rfl zs_ ?_; (with_reducible refine (spec_FlashSync.calls kj14 _ _ x758000_1 _ _ x758001_1 t767 t770 t773 t774 _ ?side1 ?side2 ?side3 ?side4 A25.out).mono ?_); (case side1 => exact zc_ (Kd.R_reads' HO_758000.out).2.2); (case side2 => exact (Kd.R_reads' HO_758000.out).2.1); (case side3 => exact zc_ (Kd.R_reads' HO_758001.out).2.2); (case side4 => exact (Kd.R_reads' HO_758001.out).2.1); rintro e w31 ⟨v768, v771, rfl, ho0, ho1, hb⟩; refine ⟨_, rfl, ?_⟩; have n0_ := Aside0.mk (Kd.R_elder' (zr_ HO_758000.out) (Kd.R_base ho0) hb); have n1_ := Aside0.mk (Kd.R_elder' (zr_ HO_758001.out) (Kd.R_base ho1) hb); have n2_ := Aside0.mk (Kd.R_lower (Kd.R_new' ho0 (Kd.R_lt (zr_ HO_758000.out))) (below_size (zg3_ HB.out GE749.out GE750.out GE757.out))); have n3_ := Aside0.mk (Kd.R_lower (Kd.R_new' ho1 (Kd.R_lt (zr_ HO_758001.out))) (below_size (zg3_ HB.out GE749.out GE750.out GE757.out))); have n4_ := Aside0.mk (blk_below (g := gb749) (o := .cells #[.slice A0_0 l0_0.length c0_0, .slice A0_1 l0_1.length c0_1] 30 (0, 0)) (zb_ BK749.out) hb); have n5_ := Aside0.mk (blk_below (g := gb750) (o := .cells #[.slice none 0 0, .slice none 0 0, .string (⟨#[]⟩ : ByteArray), .int .i64 0] 35 (0, 0)) (zb_ BK750.out) hb); have n6_ := Aside0.mk (blk_below (g := gb757) (o := .cells #[.slice Ao29 x758000_1.length co29, .slice Ao30 x758001_1.length co30, .string x758002_1, .int .i64 x758003_1] 35 (0, 0)) (zb_ BK757.out) hb); have n7_ := Aside0.mk (below_step (zg3_ HB.out GE749.out GE750.out GE757.out) hb); clear HO_758000; clear HO_758001; clear BK749; clear BK750; clear BK757; clear HB; have HO_758000 := n0_; have HO_758001 := n1_; have HO769 := n2_; have HO772 := n3_; have BK749 := n4_; have BK750 := n5_; have BK757 := n6_; have HB := n7_; clear n0_ n1_ n2_ n3_ n4_ n5_ n6_ n7_; (try clear hb); (try clear hb2); (try clear hk); (try clear hi); (try clear ho0); (try clear ho1); obtain ⟨Ao32, co32, eo32⟩ := Kd.R_slice HO769.out; subst eo32; have hcz33_0 : w31.cell? ⟨gb757, 0, none⟩ = some (.slice Ao29 x758000_1.length co29) := (blk_cell BK757.out 0).trans rfl; have hcz33_1 : w31.cell? ⟨gb757, 1, none⟩ = some (.slice Ao30 x758001_1.length co30) := (blk_cell BK757.out 1).trans rfl; have hcz33_2 : w31.cell? ⟨gb757, 2, none⟩ = some (.string x758002_1) := (blk_cell BK757.out 2).trans rfl; have hcz33_3 : w31.cell? ⟨gb757, 3, none⟩ = some (.int .i64 x758003_1) := (blk_cell BK757.out 3).trans rfl; have hfz33_0 := blk_frozen BK757.out 0; have hfz33_1 := blk_frozen BK757.out 1; have hfz33_2 := blk_frozen BK757.out 2; have hfz33_3 := blk_frozen BK757.out 3; obtain ⟨Ao34, co34, eo34⟩ := Kd.R_slice HO772.out; subst eo34))
         go_roundg kj14
         case measure => have := HK1.out; have := HJ14.out; omega
         case rel => exact ⟨(wrap64 (x6_1 + 1)), (t767), (t770), (t773), (t774), (.slice Ao32 t767.length co32), (.slice Ao34 t770.length co34), (by first | rfl | (simp; done) | (simp [*]; done)), H', ⟨by have := HK1.out; have := HJ14.out; omega⟩, ⟨by (with_reducible repeat (first | apply Kd.R_alloc | apply Kd.R_drewN | apply Kd.R_drew)); exact Kd.R_mono (Kd.R_far (p := ⟨gb757, 3, none⟩) (Kd.R_far (p := ⟨gb757, 2, none⟩) (Kd.R_far (p := ⟨gb757, 1, none⟩) (Kd.R_far (p := ⟨gb757, 0, none⟩) (Kd.R_types HO769.out BK757.out (by decide)) (fun _ hk => hk.2) (.slice Ao32 t767.length co32)) (fun _ hk => hk.2) (.slice Ao34 t770.length co34)) (fun _ hk => hk.2) (.string t773)) (fun _ hk => hk.2) (.int .i64 t774)) (fun _ hk => trivial)⟩, ⟨by (with_reducible repeat (first | apply Kd.R_alloc | apply Kd.R_drewN | apply Kd.R_drew)); exact Kd.R_mono (Kd.R_far (p := ⟨gb757, 3, none⟩) (Kd.R_far (p := ⟨gb757, 2, none⟩) (Kd.R_far (p := ⟨gb757, 1, none⟩) (Kd.R_far (p := ⟨gb757, 0, none⟩) (Kd.R_types HO772.out BK757.out (by decide)) (fun _ hk => hk.2) (.slice Ao32 t767.length co32)) (fun _ hk => hk.2) (.slice Ao34 t770.length co34)) (fun _ hk => hk.2) (.string t773)) (fun _ hk => hk.2) (.int .i64 t774)) (fun _ hk => trivial)⟩, ⟨by (with_reducible repeat (first | refine blk_drewN ?_ _ | refine blk_drew ?_ | refine blk_alloc ?_ _)); refine blk_far ?_ NB749_757.out _; (with_reducible repeat (first | refine blk_drewN ?_ _ | refine blk_drew ?_ | refine blk_alloc ?_ _)); refine blk_far ?_ NB749_757.out _; (with_reducible repeat (first | refine blk_drewN ?_ _ | refine blk_drew ?_ | refine blk_alloc ?_ _)); refine blk_far ?_ NB749_757.out _; (with_reducible repeat (first | refine blk_drewN ?_ _ | refine blk_drew ?_ | refine blk_alloc ?_ _)); refine blk_far ?_ NB749_757.out _; (with_reducible repeat (first | refine blk_drewN ?_ _ | refine blk_drew ?_ | refine blk_alloc ?_ _)); exact BK749.out⟩, ⟨by (with_reducible repeat (first | refine blk_drewN ?_ _ | refine blk_drew ?_ | refine blk_alloc ?_ _)); refine blk_far ?_ NB750_757.out _; (with_reducible repeat (first | refine blk_drewN ?_ _ | refine blk_drew ?_ | refine blk_alloc ?_ _)); refine blk_far ?_ NB750_757.out _; (with_reducible repeat (first | refine blk_drewN ?_ _ | refine blk_drew ?_ | refine blk_alloc ?_ _)); refine blk_far ?_ NB750_757.out _; (with_reducible repeat (first | refine blk_drewN ?_ _ | refine blk_drew ?_ | refine blk_alloc ?_ _)); refine blk_far ?_ NB750_757.out _; (with_reducible repeat (first | refine blk_drewN ?_ _ | refine blk_drew ?_ | refine blk_alloc ?_ _)); exact BK750.out⟩, ⟨by (with_reducible repeat (first | refine blk_drewN ?_ _ | refine blk_drew ?_ | refine blk_alloc ?_ _)); refine blk_put (cs := #[.slice Ao32 t767.length co32, .slice Ao34 t770.length co34, .string t773, .int .i64 x758003_1]) ?_ 3 _ rfl; (with_reducible repeat (first | refine blk_drewN ?_ _ | refine blk_drew ?_ | refine blk_alloc ?_ _)); refine blk_put (cs := #[.slice Ao32 t767.length co32, .slice Ao34 t770.length co34, .string x758002_1, .int .i64 x758003_1]) ?_ 2 _ rfl; (with_reducible repeat (first | refine blk_drewN ?_ _ | refine blk_drew ?_ | refine blk_alloc ?_ _)); refine blk_put (cs := #[.slice Ao32 t767.length co32, .slice Ao30 x758001_1.length co30, .string x758002_1, .int .i64 x758003_1]) ?_ 1 _ rfl; (with_reducible repeat (first | refine blk_drewN ?_ _ | refine blk_drew ?_ | refine blk_alloc ?_ _)); refine blk_put (cs := #[.slice Ao29 x758000_1.length co29, .slice Ao30 x758001_1.length co30, .string x758002_1, .int .i64 x758003_1]) ?_ 0 _ rfl; (with_reducible repeat (first | refine blk_drewN ?_ _ | refine blk_drew ?_ | refine blk_alloc ?_ _)); exact BK757.out⟩, ⟨zg3_ HB.out GE749.out GE750.out GE757.out⟩⟩
        ·
         replace c24 := Bool.eq_false_iff.mpr c24
         subst c24
         have H1 : ((spec_FlashWrite.f kj14 x758000_1 x758001_1 ((rd_T116 l1 x6_1).f1) ((rd_T116 l1 x6_1).f2)).bind fun bt777 => (spec_l04Do.l0 kj14 l1 (wrap64 (x6_1 + 1)) bt777.1 bt777.2.1 bt777.2.2.1 bt777.2.2.2)) = some (r1, r2, r3, r4) := by rw [if_neg (show ¬ (false = true) by decide)] at H; exact H
         clear H
         have H := H1
         clear H1
         replace H := Option.bind_eq_some_iff.mp H
         obtain ⟨⟨t777, t780, t783, t784⟩, A350, H⟩ := H
         replace H : (spec_l04Do.l0 kj14 l1 (wrap64 (x6_1 + 1)) t777 t780 t783 t784) = some (r1, r2, r3, r4) := H
         have A35 := Aside0.mk A350
         clear A350
         have H' := Aside0.mk H
         clear H
         have p766 : 0 ≤ (x6_1 : Int) := of_decide_eq_true (by first | (with_reducible assumption) | assumption)
         have q766 : x6_1 < (l1.length : Int) := of_decide_eq_true (by first | (with_reducible assumption) | assumption)
         obtain ⟨ad766, e766, hx766_0, hx766_1, hx766_2⟩ := at_T116 HR1.out x6_1 p766 q766
         (try rw [← Nbq23.out] at hx766_0)
         (try rw [← Nbq23.out] at hw766_0)
         cases e766
         replace hx766_0 := (HB.out.cell (World.block_lt_of_cell? _ _ hx766_0)).trans hx766_0
         replace hx766_1 := (HB.out.cell (World.block_lt_of_cell? _ _ hx766_1)).trans hx766_1
         replace hx766_2 := (HB.out.cell (World.block_lt_of_cell? _ _ hx766_2)).trans hx766_2
         replace p766 := eq_true p766
         replace q766 := eq_true q766
         try go_wp2
         have n0_ := Aside0.mk (Kd.R_drew HO_758000.out)
         have n1_ := Aside0.mk (Kd.R_drew HO_758001.out)
         have n2_ := Aside0.mk (blk_drew BK749.out)
         have n3_ := Aside0.mk (blk_drew BK750.out)
         have n4_ := Aside0.mk (blk_drew BK757.out)
         have n5_ := Aside0.mk (below_drew1 HB.out)
         clear HO_758000
         clear HO_758001
         clear BK749
         clear BK750
         clear BK757
         clear HB
         have HO_758000 := n0_
         have HO_758001 := n1_
         have BK749 := n2_
         have BK750 := n3_
         have BK757 := n4_
         have HB := n5_
         clear n0_ n1_ n2_ n3_ n4_ n5_
         have p775 : 0 ≤ (x6_1 : Int) := of_decide_eq_true (by first | (with_reducible assumption) | assumption)
         have q775 : x6_1 < (l1.length : Int) := of_decide_eq_true (by first | (with_reducible assumption) | assumption)
         obtain ⟨ad775, e775, hx775_0, hx775_1, hx775_2⟩ := at_T116 HR1.out x6_1 p775 q775
         have hw775_2 := hx775_2
         have hw775_1 := hx775_1
         have hw775_0 := hx775_0
         (try rw [← Nbq23.out] at hx775_0)
         (try rw [← Nbq23.out] at hw775_0)
         obtain rfl : ad766 = ad775 := (by injection e775)
         replace hx775_0 := (HB.out.cell (World.block_lt_of_cell? _ _ hx775_0)).trans hx775_0
         replace hx775_1 := (HB.out.cell (World.block_lt_of_cell? _ _ hx775_1)).trans hx775_1
         replace hx775_2 := (HB.out.cell (World.block_lt_of_cell? _ _ hx775_2)).trans hx775_2
         replace p775 := eq_true p775
         replace q775 := eq_true q775
         have p776 : 0 ≤ (x6_1 : Int) := of_decide_eq_true (by first | (with_reducible assumption) | assumption)
         have q776 : x6_1 < (l1.length : Int) := of_decide_eq_true (by first | (with_reducible assumption) | assumption)
         obtain ⟨ad776, e776, hx776_0, hx776_1, hx776_2⟩ := at_T116 HR1.out x6_1 p776 q776
         have hw776_2 := hx776_2
         have hw776_1 := hx776_1
         have hw776_0 := hx776_0
         (try rw [← Nbq23.out] at hx776_0)
         (try rw [← Nbq23.out] at hw776_0)
         obtain rfl : ad766 = ad776 := (by injection e776)
         replace hx776_0 := (HB.out.cell (World.block_lt_of_cell? _ _ hx776_0)).trans hx776_0
         replace hx776_1 := (HB.out.cell (World.block_lt_of_cell? _ _ hx776_1)).trans hx776_1
         replace hx776_2 := (HB.out.cell (World.block_lt_of_cell? _ _ hx776_2)).trans hx776_2
         replace p776 := eq_true p776
         replace q776 := eq_true q776
         obtain ⟨Ao37, co37, eo37⟩ := Kd.R_slice HO_758000.out
         (first | subst eo37 | (injection eo37 with f1_ f2_ f3_; have f4_ := f1_.symm; have f5_ := f3_.symm; clear f1_ f2_ f3_; subst f4_; subst f5_))
         obtain ⟨Ao38, co38, eo38⟩ := Kd.R_slice HO_758001.out
         (first | subst eo38 | (injection eo38 with f1_ f2_ f3_; have f4_ := f1_.symm; have f5_ := f3_.symm; clear f1_ f2_ f3_; subst f4_; subst f5_))
         refine start_ (n := 14) (S := fun w' => w'.cell? ⟨gb757, 0, none⟩ = some (.slice Ao37 x758000_1.length co37) ∧ w'.cell? ⟨gb757, 1, none⟩ = some (.slice Ao38 x758001_1.length co38) ∧ w'.cell? ⟨gb757, 2, none⟩ = some (.string x758002_1) ∧ w'.cell? ⟨gb757, 3, none⟩ = some (.int .i64 x758003_1) ∧ w'.cell? (ad766.add ((x6_1).toNat * 3)) = some (.bool (false)) ∧ w'.cell? ⟨(ad766.add ((x6_1).toNat * 3)).block, (ad766.add ((x6_1).toNat * 3)).off + 1, none⟩ = some (.int .i64 ((rd_T116 l1 x6_1).f1)) ∧ w'.cell? ⟨(ad766.add ((x6_1).toNat * 3)).block, (ad766.add ((x6_1).toNat * 3)).off + 2, none⟩ = some (.string ((rd_T116 l1 x6_1).f2)) ∧ w'.cell? (ad766.add ((x6_1).toNat * 3)) = some (.bool (false)) ∧ w'.cell? ⟨(ad766.add ((x6_1).toNat * 3)).block, (ad766.add ((x6_1).toNat * 3)).off + 1, none⟩ = some (.int .i64 ((rd_T116 l1 x6_1).f1)) ∧ w'.cell? ⟨(ad766.add ((x6_1).toNat * 3)).block, (ad766.add ((x6_1).toNat * 3)).off + 2, none⟩ = some (.string ((rd_T116 l1 x6_1).f2))) (ds := [13]) #[false, false, false, false, false, false, false, false, false, false, false, false, false, false] (by kernel_rfl) rfl rfl ⟨(blk_cell BK757.out 0).trans rfl, (blk_cell BK757.out 1).trans rfl, (blk_cell BK757.out 2).trans rfl, (blk_cell BK757.out 3).trans rfl, ((HB.out.cell (World.block_lt_of_cell? _ _ hw775_0)).trans hw775_0), ((HB.out.cell (World.block_lt_of_cell? _ _ hw775_1)).trans hw775_1), ((HB.out.cell (World.block_lt_of_cell? _ _ hw775_2)).trans hw775_2), ((HB.out.cell (World.block_lt_of_cell? _ _ hw776_0)).trans hw776_0), ((HB.out.cell (World.block_lt_of_cell? _ _ hw776_1)).trans hw776_1), ((HB.out.cell (World.block_lt_of_cell? _ _ hw776_2)).trans hw776_2)⟩ (fun hHeld => ?_); refine with_tabW spec_l04Do.tab7 spec_l04Do.bits7 (fun HT_ HW_ => ?_)
         generalize wc.drew = w36 at HO_758000 HO_758001 BK749 BK750 BK757 HB hx775_0 hx775_1 hx775_2 hx776_0 hx776_1 hx776_2 hHeld ⊢
         refine pure_ (i := 0) (N := some 29) (v := ?_) (a' := ?_) #[true, false, false, false, false, false, false, false, false, false, false, false, false, false] rfl rfl (any_of HT_.out (by kernel_rfl)) (fun _ _ _ h => h) (Or.inl ⟨by rfl, ?_⟩) ?_ ?_
         rotate_left
         ·
          intro w'
          go_simp
          with_reducible rfl
         rotate_left
         ·
          simp only [Act.put, List.setIfInBounds_toArray, List.set_cons_zero, List.set_cons_succ, i64_w, i32_w]
          rfl
         refine pure_ (i := 2) (N := some 31) (v := ?_) (a' := ?_) #[true, false, true, false, false, false, false, false, false, false, false, false, false, false] rfl rfl (any_of HT_.out (by kernel_rfl)) (fun _ _ _ h => h) (Or.inl ⟨by rfl, ?_⟩) ?_ ?_
         rotate_left
         ·
          intro w'
          go_simp
          with_reducible rfl
         rotate_left
         ·
          simp only [Act.put, List.setIfInBounds_toArray, List.set_cons_zero, List.set_cons_succ, i64_w, i32_w]
          rfl
         refine pure_ (i := 3) (N := some 32) (v := ?_) (a' := ?_) #[true, false, true, true, false, false, false, false, false, false, false, false, false, false] rfl rfl (any_of HT_.out (by kernel_rfl)) (fun _ _ _ h => h) (Or.inl ⟨by rfl, ?_⟩) ?_ ?_
         rotate_left
         ·
          intro w'
          go_simp
          with_reducible rfl
         rotate_left
         ·
          simp only [Act.put, List.setIfInBounds_toArray, List.set_cons_zero, List.set_cons_succ, i64_w, i32_w]
          rfl
         refine pure_ (i := 4) (N := some 33) (v := ?_) (a' := ?_) #[true, false, true, true, true, false, false, false, false, false, false, false, false, false] rfl rfl (any_of HT_.out (by kernel_rfl)) (fun _ _ _ h => h) (Or.inl ⟨by rfl, ?_⟩) ?_ ?_
         rotate_left
         ·
          intro w'
          go_simp
          with_reducible rfl
         rotate_left
         ·
          simp only [Act.put, List.setIfInBounds_toArray, List.set_cons_zero, List.set_cons_succ, i64_w, i32_w]
          rfl
         refine pure_ (i := 5) (N := some 34) (v := ?_) (a' := ?_) #[true, false, true, true, true, true, false, false, false, false, false, false, false, false] rfl rfl (any_of HT_.out (by kernel_rfl)) (fun _ _ _ h => h) (Or.inl ⟨by rfl, ?_⟩) ?_ ?_
         rotate_left
         ·
          intro w'
          go_simp
          with_reducible rfl
         rotate_left
         ·
          simp only [Act.put, List.setIfInBounds_toArray, List.set_cons_zero, List.set_cons_succ, i64_w, i32_w]
          rfl
         refine pure_ (i := 7) (N := some 36) (v := ?_) (a' := ?_) #[true, false, true, true, true, true, false, true, false, false, false, false, false, false] rfl rfl (any_of HT_.out (by kernel_rfl)) (fun _ _ _ h => h) (Or.inl ⟨by rfl, ?_⟩) ?_ ?_
         rotate_left
         ·
          intro w'
          go_simp
          with_reducible rfl
         rotate_left
         ·
          simp only [Act.put, List.setIfInBounds_toArray, List.set_cons_zero, List.set_cons_succ, i64_w, i32_w]
          rfl
         refine pure_ (i := 8) (N := some 37) (v := ?_) (a' := ?_) #[true, false, true, true, true, true, false, true, true, false, false, false, false, false] rfl rfl (any_of HT_.out (by kernel_rfl)) (fun _ _ _ h => h) (Or.inl ⟨by rfl, ?_⟩) ?_ ?_
         rotate_left
         ·
          intro w'
          go_simp
          with_reducible rfl
         rotate_left
         ·
          simp only [Act.put, List.setIfInBounds_toArray, List.set_cons_zero, List.set_cons_succ, i64_w, i32_w]
          rfl
         refine pure_ (i := 9) (N := some 38) (v := ?_) (a' := ?_) #[true, false, true, true, true, true, false, true, true, true, false, false, false, false] rfl rfl (any_of HT_.out (by kernel_rfl)) (fun _ _ _ h => h) (Or.inl ⟨by rfl, ?_⟩) ?_ ?_
         rotate_left
         ·
          intro w'
          go_simp
          with_reducible rfl
         rotate_left
         ·
          simp only [Act.put, List.setIfInBounds_toArray, List.set_cons_zero, List.set_cons_succ, i64_w, i32_w]
          rfl
         refine pure_ (i := 10) (N := some 39) (v := ?_) (a' := ?_) #[true, false, true, true, true, true, false, true, true, true, true, false, false, false] rfl rfl (any_of HT_.out (by kernel_rfl)) (fun _ _ _ h => h) (Or.inl ⟨by rfl, ?_⟩) ?_ ?_
         rotate_left
         ·
          intro w'
          go_simp
          with_reducible rfl
         rotate_left
         ·
          simp only [Act.put, List.setIfInBounds_toArray, List.set_cons_zero, List.set_cons_succ, i64_w, i32_w]
          rfl
         refine take_ (i := 1) (N := some 30) (v := ?_) (a' := ?_) #[true, true, true, true, true, true, false, true, true, true, true, false, false, false] rfl rfl (take_ofW HT_.out HW_.out (by kernel_rfl)) (fun _ _ _ h => h) (Or.inl ⟨by rfl, ?_⟩) hHeld ?_ ?_
         rotate_left
         ·
          rintro w' ⟨s0, s1, s2, s3, s4, s5, s6, s7, s8, s9⟩
          go_simp
          with_reducible rfl
         rotate_left
         ·
          simp only [Act.put, List.setIfInBounds_toArray, List.set_cons_zero, List.set_cons_succ, i64_w, i32_w]
          rfl
         refine take_ (i := 6) (N := some 35) (v := ?_) (a' := ?_) #[true, true, true, true, true, true, true, true, true, true, true, false, false, false] rfl rfl (take_ofW HT_.out HW_.out (by kernel_rfl)) (fun _ _ _ h => h) (Or.inl ⟨by rfl, ?_⟩) hHeld ?_ ?_
         rotate_left
         ·
          rintro w' ⟨s0, s1, s2, s3, s4, s5, s6, s7, s8, s9⟩
          go_simp
          with_reducible rfl
         rotate_left
         ·
          simp only [Act.put, List.setIfInBounds_toArray, List.set_cons_zero, List.set_cons_succ, i64_w, i32_w]
          rfl
         refine take_ (i := 11) (N := some 40) (v := ?_) (a' := ?_) #[true, true, true, true, true, true, true, true, true, true, true, true, false, false] rfl rfl (take_ofW HT_.out HW_.out (by kernel_rfl)) (fun _ _ _ h => h) (Or.inl ⟨by rfl, ?_⟩) hHeld ?_ ?_
         rotate_left
         ·
          rintro w' ⟨s0, s1, s2, s3, s4, s5, s6, s7, s8, s9⟩
          go_simp
          with_reducible rfl
         rotate_left
         ·
          simp only [Act.put, List.setIfInBounds_toArray, List.set_cons_zero, List.set_cons_succ, i64_w, i32_w]
          rfl
         refine one_ (i := 12) (N := some 41) #[true, true, true, true, true, true, true, true, true, true, true, true, true, false] rfl rfl (one_of HT_.out (by kernel_rfl)) (by decide) (fun K hK => ?_)
         refine goes_ Try.func30 (by kernel_rfl) rfl #[.agg #[.slice Ao37 x758000_1.length co37, .slice Ao38 x758001_1.length co38], .int .i64 ((rd_T116 l1 x6_1).f1), .string ((rd_T116 l1 x6_1).f2)] (by rfl) rfl rfl zs_ ?_
         with_reducible refine (spec_FlashWrite.calls kj14 _ _ x758000_1 _ _ x758001_1 ((rd_T116 l1 x6_1).f1) ((rd_T116 l1 x6_1).f2) t777 t780 t783 t784 _ ?side1 ?side2 ?side3 ?side4 A35.out).mono ?_
         (case side1 => exact zc_ (Kd.R_reads' HO_758000.out).2.2)
         (case side2 => exact (Kd.R_reads' HO_758000.out).2.1)
         (case side3 => exact zc_ (Kd.R_reads' HO_758001.out).2.2)
         (case side4 => exact (Kd.R_reads' HO_758001.out).2.1)
         rintro e w39 ⟨v778, v781, rfl, ho0, ho1, hb⟩
         refine ⟨_, rfl, ?_⟩
         have n0_ := Aside0.mk (Kd.R_elder' (zr_ HO_758000.out) (Kd.R_base ho0) hb)
         have n1_ := Aside0.mk (Kd.R_elder' (zr_ HO_758001.out) (Kd.R_base ho1) hb)
         have n2_ := Aside0.mk (Kd.R_lower (Kd.R_new' ho0 (Kd.R_lt (zr_ HO_758000.out))) (below_size (zg3_ HB.out GE749.out GE750.out GE757.out)))
         have n3_ := Aside0.mk (Kd.R_lower (Kd.R_new' ho1 (Kd.R_lt (zr_ HO_758001.out))) (below_size (zg3_ HB.out GE749.out GE750.out GE757.out)))
         have n4_ := Aside0.mk (blk_below (g := gb749) (o := .cells #[.slice A0_0 l0_0.length c0_0, .slice A0_1 l0_1.length c0_1] 30 (0, 0)) (zb_ BK749.out) hb)
         have n5_ := Aside0.mk (blk_below (g := gb750) (o := .cells #[.slice none 0 0, .slice none 0 0, .string (⟨#[]⟩ : ByteArray), .int .i64 0] 35 (0, 0)) (zb_ BK750.out) hb)
         have n6_ := Aside0.mk (blk_below (g := gb757) (o := .cells #[.slice Ao37 x758000_1.length co37, .slice Ao38 x758001_1.length co38, .string x758002_1, .int .i64 x758003_1] 35 (0, 0)) (zb_ BK757.out) hb)
         have n7_ := Aside0.mk (below_step (zg3_ HB.out GE749.out GE750.out GE757.out) hb)
         clear HO_758000
         clear HO_758001
         clear BK749
         clear BK750
         clear BK757
         clear HB
         have HO_758000 := n0_
         have HO_758001 := n1_
         have HO779 := n2_
         have HO782 := n3_
         have BK749 := n4_
         have BK750 := n5_
         have BK757 := n6_
         have HB := n7_
         clear n0_ n1_ n2_ n3_ n4_ n5_ n6_ n7_
         (try clear hb)
         (try clear hb2)
         (try clear hk)
         (try clear hi)
         (try clear ho0)
         (try clear ho1)
         obtain ⟨Ao40, co40, eo40⟩ := Kd.R_slice HO779.out
         (first | subst eo40 | (injection eo40 with f1_ f2_ f3_; have f4_ := f1_.symm; have f5_ := f3_.symm; clear f1_ f2_ f3_; subst f4_; subst f5_))
         obtain ⟨Ao42, co42, eo42⟩ := Kd.R_slice HO782.out
         (first | subst eo42 | (injection eo42 with f1_ f2_ f3_; have f4_ := f1_.symm; have f5_ := f3_.symm; clear f1_ f2_ f3_; subst f4_; subst f5_))
         refine hK.out _ _ ⟨(blk_cell BK757.out 0).trans rfl, (blk_cell BK757.out 1).trans rfl, (blk_cell BK757.out 2).trans rfl, (blk_cell BK757.out 3).trans rfl, ((HB.out.cell (World.block_lt_of_cell? _ _ hw775_0)).trans hw775_0), ((HB.out.cell (World.block_lt_of_cell? _ _ hw775_1)).trans hw775_1), ((HB.out.cell (World.block_lt_of_cell? _ _ hw775_2)).trans hw775_2), ((HB.out.cell (World.block_lt_of_cell? _ _ hw776_0)).trans hw776_0), ((HB.out.cell (World.block_lt_of_cell? _ _ hw776_1)).trans hw776_1), ((HB.out.cell (World.block_lt_of_cell? _ _ hw776_2)).trans hw776_2)⟩ (fun hHeld => ?_)
         clear hK K
         refine norm_ (a' := ?_) ?_ ?_
         rotate_left
         ·
          show Act.put _ (some 41) _ = _
          simp only [Act.put, List.setIfInBounds_toArray, List.set_cons_zero, List.set_cons_succ, i64_w, i32_w]
          rfl
         refine last_ (i := 13) (N := none) #[true, true, true, true, true, true, true, true, true, true, true, true, true, true] rfl rfl (one_of HT_.out (by kernel_rfl)) (by decide) (fun K hK => ?_)
         have hs41 : w39.cell? ⟨gb757, 0, none⟩ = some (.slice Ao37 x758000_1.length co37) := (blk_cell BK757.out 0).trans rfl
         have hfs41 := blk_frozen BK757.out 0
         have hns41_0 := NB749_757.out
         have hns41_1 := NB750_757.out
         have hms41_0 := NB757_749.out
         have hms41_1 := NB757_750.out
         have hs43 : w39.cell? ⟨gb757, 1, none⟩ = some (.slice Ao38 x758001_1.length co38) := (blk_cell BK757.out 1).trans rfl
         have hfs43 := blk_frozen BK757.out 1
         have hns43_0 := NB749_757.out
         have hns43_1 := NB750_757.out
         have hms43_0 := NB757_749.out
         have hms43_1 := NB757_750.out
         have hs44 : w39.cell? ⟨gb757, 2, none⟩ = some (.string x758002_1) := (blk_cell BK757.out 2).trans rfl
         have hfs44 := blk_frozen BK757.out 2
         have hns44_0 := NB749_757.out
         have hns44_1 := NB750_757.out
         have hms44_0 := NB757_749.out
         have hms44_1 := NB757_750.out
         have hs45 : w39.cell? ⟨gb757, 3, none⟩ = some (.int .i64 x758003_1) := (blk_cell BK757.out 3).trans rfl
         have hfs45 := blk_frozen BK757.out 3
         have hns45_0 := NB749_757.out
         have hns45_1 := NB750_757.out
         have hms45_0 := NB757_749.out
         have hms45_1 := NB757_750.out
         refine skip_ (w1 := ?_) (by rfl) rfl ?_ ?_
         rotate_left
         ·
          go_simp
          rfl
         refine hK.out _ _ ?_
         clear hK K
         refine done_ (done_of HT_.out (by kernel_rfl)) ?_
         try go_wp2
         go_roundg kj14
         case measure => have := HK1.out; have := HJ14.out; omega
         case rel => exact ⟨(wrap64 (x6_1 + 1)), (t777), (t780), (t783), (t784), (.slice Ao40 t777.length co40), (.slice Ao42 t780.length co42), (by first | rfl | (simp; done) | (simp [*]; done)), H', ⟨by have := HK1.out; have := HJ14.out; omega⟩, ⟨by (with_reducible repeat (first | apply Kd.R_alloc | apply Kd.R_drewN | apply Kd.R_drew)); exact Kd.R_mono (Kd.R_far (p := ⟨gb757, 3, none⟩) (Kd.R_far (p := ⟨gb757, 2, none⟩) (Kd.R_far (p := ⟨gb757, 1, none⟩) (Kd.R_far (p := ⟨gb757, 0, none⟩) (Kd.R_types HO779.out BK757.out (by decide)) (fun _ hk => hk.2) (.slice Ao40 t777.length co40)) (fun _ hk => hk.2) (.slice Ao42 t780.length co42)) (fun _ hk => hk.2) (.string t783)) (fun _ hk => hk.2) (.int .i64 t784)) (fun _ hk => trivial)⟩, ⟨by (with_reducible repeat (first | apply Kd.R_alloc | apply Kd.R_drewN | apply Kd.R_drew)); exact Kd.R_mono (Kd.R_far (p := ⟨gb757, 3, none⟩) (Kd.R_far (p := ⟨gb757, 2, none⟩) (Kd.R_far (p := ⟨gb757, 1, none⟩) (Kd.R_far (p := ⟨gb757, 0, none⟩) (Kd.R_types HO782.out BK757.out (by decide)) (fun _ hk => hk.2) (.slice Ao40 t777.length co40)) (fun _ hk => hk.2) (.slice Ao42 t780.length co42)) (fun _ hk => hk.2) (.string t783)) (fun _ hk => hk.2) (.int .i64 t784)) (fun _ hk => trivial)⟩, ⟨by (with_reducible repeat (first | refine blk_drewN ?_ _ | refine blk_drew ?_ | refine blk_alloc ?_ _)); refine blk_far ?_ NB749_757.out _; (with_reducible repeat (first | refine blk_drewN ?_ _ | refine blk_drew ?_ | refine blk_alloc ?_ _)); refine blk_far ?_ NB749_757.out _; (with_reducible repeat (first | refine blk_drewN ?_ _ | refine blk_drew ?_ | refine blk_alloc ?_ _)); refine blk_far ?_ NB749_757.out _; (with_reducible repeat (first | refine blk_drewN ?_ _ | refine blk_drew ?_ | refine blk_alloc ?_ _)); refine blk_far ?_ NB749_757.out _; (with_reducible repeat (first | refine blk_drewN ?_ _ | refine blk_drew ?_ | refine blk_alloc ?_ _)); exact BK749.out⟩, ⟨by (with_reducible repeat (first | refine blk_drewN ?_ _ | refine blk_drew ?_ | refine blk_alloc ?_ _)); refine blk_far ?_ NB750_757.out _; (with_reducible repeat (first | refine blk_drewN ?_ _ | refine blk_drew ?_ | refine blk_alloc ?_ _)); refine blk_far ?_ NB750_757.out _; (with_reducible repeat (first | refine blk_drewN ?_ _ | refine blk_drew ?_ | refine blk_alloc ?_ _)); refine blk_far ?_ NB750_757.out _; (with_reducible repeat (first | refine blk_drewN ?_ _ | refine blk_drew ?_ | refine blk_alloc ?_ _)); refine blk_far ?_ NB750_757.out _; (with_reducible repeat (first | refine blk_drewN ?_ _ | refine blk_drew ?_ | refine blk_alloc ?_ _)); exact BK750.out⟩, ⟨by (with_reducible repeat (first | refine blk_drewN ?_ _ | refine blk_drew ?_ | refine blk_alloc ?_ _)); refine blk_put (cs := #[.slice Ao40 t777.length co40, .slice Ao42 t780.length co42, .string t783, .int .i64 x758003_1]) ?_ 3 _ rfl; (with_reducible repeat (first | refine blk_drewN ?_ _ | refine blk_drew ?_ | refine blk_alloc ?_ _)); refine blk_put (cs := #[.slice Ao40 t777.length co40, .slice Ao42 t780.length co42, .string x758002_1, .int .i64 x758003_1]) ?_ 2 _ rfl; (with_reducible repeat (first | refine blk_drewN ?_ _ | refine blk_drew ?_ | refine blk_alloc ?_ _)); refine blk_put (cs := #[.slice Ao40 t777.length co40, .slice Ao38 x758001_1.length co38, .string x758002_1, .int .i64 x758003_1]) ?_ 1 _ rfl; (with_reducible repeat (first | refine blk_drewN ?_ _ | refine blk_drew ?_ | refine blk_alloc ?_ _)); refine blk_put (cs := #[.slice Ao37 x758000_1.length co37, .slice Ao38 x758001_1.length co38, .string x758002_1, .int .i64 x758003_1]) ?_ 0 _ rfl; (with_reducible repeat (first | refine blk_drewN ?_ _ | refine blk_drew ?_ | refine blk_alloc ?_ _)); exact BK757.out⟩, ⟨zg3_ HB.out GE749.out GE750.out GE757.out⟩⟩
       ·
        rw [if_neg c22] at H
        exact absurd H (by simp)
      ·
       rw [if_neg c21] at H
       exact absurd H (by simp)
     ·
      replace c20 := Bool.eq_false_iff.mpr c20
      subst c20
      have H1 : (if x758003_1 = 0 then (some (x758000_1, x758001_1, x758002_1, x758003_1)) else ((spec_l03Ill.f x758003_1).bind fun bt758 => (some (bt758.1, bt758.2.1, bt758.2.2.1, bt758.2.2.2)))) = some (r1, r2, r3, r4) := by rw [if_neg (show ¬ (false = true) by decide)] at H; exact H
      clear H
      have H := H1
      clear H1
      by_cases c46 : x758003_1 = 0
      ·
       rw [if_pos c46] at H
       have c46b0 : (x758003_1 == 0) = true := beq_iff_eq.mpr c46
       have c46b1 : (x758003_1 != 0) = false := bne_eq_false_iff_eq.mpr c46
       clear c46
       simp only [Option.some.injEq, Prod.mk.injEq] at H
       obtain ⟨rfl, rfl, rfl, rfl⟩ := H
       have hnb47 := NB757_749.out
       have hnc47 := NB749_757.out
       have hnb48 := NB757_750.out
       have hnc48 := NB750_757.out
       have hcz49_0 : wc.cell? ⟨gb757, 0, none⟩ = some (u758000) := (blk_cell BK757.out 0).trans rfl
       have hcz49_1 : wc.cell? ⟨gb757, 1, none⟩ = some (u758001) := (blk_cell BK757.out 1).trans rfl
       have hcz49_2 : wc.cell? ⟨gb757, 2, none⟩ = some (.string x758002_1) := (blk_cell BK757.out 2).trans rfl
       have hcz49_3 : wc.cell? ⟨gb757, 3, none⟩ = some (.int .i64 x758003_1) := (blk_cell BK757.out 3).trans rfl
       have hfz49_0 := blk_frozen BK757.out 0
       have hfz49_1 := blk_frozen BK757.out 1
       have hfz49_2 := blk_frozen BK757.out 2
       have hfz49_3 := blk_frozen BK757.out 3
       obtain ⟨Ao50, co50, eo50⟩ := Kd.R_slice HO_758000.out
       subst eo50
       have hnb51 := NB750_749.out
       have hnc51 := NB749_750.out
       have hcz52_0 : wc.cell? ⟨gb750, 0, none⟩ = some (.slice none 0 0) := (blk_cell BK750.out 0).trans rfl
       have hcz52_1 : wc.cell? ⟨gb750, 1, none⟩ = some (.slice none 0 0) := (blk_cell BK750.out 1).trans rfl
       have hcz52_2 : wc.cell? ⟨gb750, 2, none⟩ = some (.string (⟨#[]⟩ : ByteArray)) := (blk_cell BK750.out 2).trans rfl
       have hcz52_3 : wc.cell? ⟨gb750, 3, none⟩ = some (.int .i64 0) := (blk_cell BK750.out 3).trans rfl
       have hfz52_0 := blk_frozen BK750.out 0
       have hfz52_1 := blk_frozen BK750.out 1
       have hfz52_2 := blk_frozen BK750.out 2
       have hfz52_3 := blk_frozen BK750.out 3
       obtain ⟨Ao53, co53, eo53⟩ := Kd.R_slice HO_758001.out
       subst eo53
       go_wp2
       refine bodyPost_ret (results_cell_row rfl _ _ gb750 35 #[.slice Ao50 x758000_1.length co50, .slice Ao53 x758001_1.length co53, .string x758002_1, .int .i64 x758003_1] (0, 0) _ rfl (by (with_reducible repeat (first | refine blk_drewN ?_ _ | refine blk_drew ?_ | refine blk_alloc ?_ _)); refine blk_put (cs := #[.slice Ao50 x758000_1.length co50, .slice Ao53 x758001_1.length co53, .string x758002_1, .int .i64 0]) ?_ 3 _ rfl; (with_reducible repeat (first | refine blk_drewN ?_ _ | refine blk_drew ?_ | refine blk_alloc ?_ _)); refine blk_put (cs := #[.slice Ao50 x758000_1.length co50, .slice Ao53 x758001_1.length co53, .string (⟨#[]⟩ : ByteArray), .int .i64 0]) ?_ 2 _ rfl; (with_reducible repeat (first | refine blk_drewN ?_ _ | refine blk_drew ?_ | refine blk_alloc ?_ _)); refine blk_put (cs := #[.slice Ao50 x758000_1.length co50, .slice none 0 0, .string (⟨#[]⟩ : ByteArray), .int .i64 0]) ?_ 1 _ rfl; (with_reducible repeat (first | refine blk_drewN ?_ _ | refine blk_drew ?_ | refine blk_alloc ?_ _)); refine blk_put (cs := #[.slice none 0 0, .slice none 0 0, .string (⟨#[]⟩ : ByteArray), .int .i64 0]) ?_ 0 _ rfl; (with_reducible repeat (first | refine blk_drewN ?_ _ | refine blk_drew ?_ | refine blk_alloc ?_ _)); exact BK750.out) Try.underlying35 rfl (by kernel_rfl)) rfl ?_
       exact ⟨_, _, by first | rfl | (simp [errW_none, errW_some] <;> rfl) | (simp [*, errW_none, errW_some] <;> rfl), by (with_reducible repeat (first | apply Kd.R_alloc | apply Kd.R_drewN | apply Kd.R_drew)); exact Kd.R_mono (Kd.R_far (p := ⟨gb750, 3, none⟩) (Kd.R_far (p := ⟨gb750, 2, none⟩) (Kd.R_far (p := ⟨gb750, 1, none⟩) (Kd.R_far (p := ⟨gb750, 0, none⟩) (Kd.R_types HO_758000.out BK750.out (by decide)) (fun _ hk => hk.2) (.slice Ao50 x758000_1.length co50)) (fun _ hk => hk.2) (.slice Ao53 x758001_1.length co53)) (fun _ hk => hk.2) (.string x758002_1)) (fun _ hk => hk.2) (.int .i64 x758003_1)) (fun _ hk => trivial), by (with_reducible repeat (first | apply Kd.R_alloc | apply Kd.R_drewN | apply Kd.R_drew)); exact Kd.R_mono (Kd.R_far (p := ⟨gb750, 3, none⟩) (Kd.R_far (p := ⟨gb750, 2, none⟩) (Kd.R_far (p := ⟨gb750, 1, none⟩) (Kd.R_far (p := ⟨gb750, 0, none⟩) (Kd.R_types HO_758001.out BK750.out (by decide)) (fun _ hk => hk.2) (.slice Ao50 x758000_1.length co50)) (fun _ hk => hk.2) (.slice Ao53 x758001_1.length co53)) (fun _ hk => hk.2) (.string x758002_1)) (fun _ hk => hk.2) (.int .i64 x758003_1)) (fun _ hk => trivial), by repeat (first | (with_reducible first | exact HB.out | apply below_alloc | apply pw_below_drewN | apply below_drew1 | refine below_set ?_ GE749.out | refine below_set ?_ GE750.out | refine below_set ?_ GE757.out) | exact HB.out)⟩
      ·
       rw [if_neg c46] at H
       have c46b0 : (x758003_1 == 0) = false := beq_eq_false_iff_ne.mpr c46
       have c46b1 : (x758003_1 != 0) = true := bne_iff_ne.mpr c46
       replace H := Option.bind_eq_some_iff.mp H
       obtain ⟨⟨t758, t761, t764, t765⟩, A540, H⟩ := H
       replace H : (some (t758, t761, t764, t765)) = some (r1, r2, r3, r4) := H
       have A54 := Aside0.mk A540
       clear A540
       simp only [Option.some.injEq, Prod.mk.injEq] at H
       obtain ⟨rfl, rfl, rfl, rfl⟩ := H
       have hnb55 := NB757_749.out
       have hnc55 := NB749_757.out
       have hnb56 := NB757_750.out
       have hnc56 := NB750_757.out
       have hcz57_0 : wc.cell? ⟨gb757, 0, none⟩ = some (u758000) := (blk_cell BK757.out 0).trans rfl
       have hcz57_1 : wc.cell? ⟨gb757, 1, none⟩ = some (u758001) := (blk_cell BK757.out 1).trans rfl
       have hcz57_2 : wc.cell? ⟨gb757, 2, none⟩ = some (.string x758002_1) := (blk_cell BK757.out 2).trans rfl
       have hcz57_3 : wc.cell? ⟨gb757, 3, none⟩ = some (.int .i64 x758003_1) := (blk_cell BK757.out 3).trans rfl
       have hfz57_0 := blk_frozen BK757.out 0
       have hfz57_1 := blk_frozen BK757.out 1
       have hfz57_2 := blk_frozen BK757.out 2
       have hfz57_3 := blk_frozen BK757.out 3
       go_wp2_with (first | ((with_reducible refine gate_callee (f := 77) rfl ?_); refine goesL_ (some 47) rfl rfl Try.func77 (by kernel_rfl) rfl #[.int .i64 x758003_1] rfl zs_ ?_; (with_reducible refine (spec_l03Ill.calls x758003_1 t758 t761 t764 t765 _ A54.out).mono ?_); rintro e w58 ⟨v759, v762, rfl, ho0, ho1, hb⟩; refine ⟨_, rfl, ?_⟩; have n0_ := Aside0.mk (Kd.R_elder' (zr_ HO_758000.out) (Kd.R_base ho0) hb); have n1_ := Aside0.mk (Kd.R_elder' (zr_ HO_758001.out) (Kd.R_base ho1) hb); have n2_ := Aside0.mk (Kd.R_lower (Kd.R_new' ho0 (Kd.R_lt (zr_ HO_758000.out))) (below_size (zg3_ HB.out GE749.out GE750.out GE757.out))); have n3_ := Aside0.mk (Kd.R_lower (Kd.R_new' ho1 (Kd.R_lt (zr_ HO_758001.out))) (below_size (zg3_ HB.out GE749.out GE750.out GE757.out))); have n4_ := Aside0.mk (blk_below (g := gb749) (o := .cells #[.slice A0_0 l0_0.length c0_0, .slice A0_1 l0_1.length c0_1] 30 (0, 0)) (zb_ BK749.out) hb); have n5_ := Aside0.mk (blk_below (g := gb750) (o := .cells #[.slice none 0 0, .slice none 0 0, .string (⟨#[]⟩ : ByteArray), .int .i64 0] 35 (0, 0)) (zb_ BK750.out) hb); have n6_ := Aside0.mk (blk_below (g := gb757) (o := .cells #[u758000, u758001, .string x758002_1, .int .i64 x758003_1] 35 (0, 0)) (zb_ BK757.out) hb); have n7_ := Aside0.mk (below_step (zg3_ HB.out GE749.out GE750.out GE757.out) hb); clear HO_758000; clear HO_758001; clear BK749; clear BK750; clear BK757; clear HB; have HO_758000 := n0_; have HO_758001 := n1_; have HO760 := n2_; have HO763 := n3_; have BK749 := n4_; have BK750 := n5_; have BK757 := n6_; have HB := n7_; clear n0_ n1_ n2_ n3_ n4_ n5_ n6_ n7_; (try clear hb); (try clear hb2); (try clear hk); (try clear hi); (try clear ho0); (try clear ho1); obtain ⟨Ao59, co59, eo59⟩ := Kd.R_slice HO760.out; subst eo59; have hnb60 := NB750_749.out; have hnc60 := NB749_750.out; have hcz61_0 : w58.cell? ⟨gb750, 0, none⟩ = some (.slice none 0 0) := (blk_cell BK750.out 0).trans rfl; have hcz61_1 : w58.cell? ⟨gb750, 1, none⟩ = some (.slice none 0 0) := (blk_cell BK750.out 1).trans rfl; have hcz61_2 : w58.cell? ⟨gb750, 2, none⟩ = some (.string (⟨#[]⟩ : ByteArray)) := (blk_cell BK750.out 2).trans rfl; have hcz61_3 : w58.cell? ⟨gb750, 3, none⟩ = some (.int .i64 0) := (blk_cell BK750.out 3).trans rfl; have hfz61_0 := blk_frozen BK750.out 0; have hfz61_1 := blk_frozen BK750.out 1; have hfz61_2 := blk_frozen BK750.out 2; have hfz61_3 := blk_frozen BK750.out 3; obtain ⟨Ao62, co62, eo62⟩ := Kd.R_slice HO763.out; subst eo62))
       refine bodyPost_ret (results_cell_row rfl _ _ gb750 35 #[.slice Ao59 t758.length co59, .slice Ao62 t761.length co62, .string t764, .int .i64 t765] (0, 0) _ rfl (by (with_reducible repeat (first | refine blk_drewN ?_ _ | refine blk_drew ?_ | refine blk_alloc ?_ _)); refine blk_put (cs := #[.slice Ao59 t758.length co59, .slice Ao62 t761.length co62, .string t764, .int .i64 0]) ?_ 3 _ rfl; (with_reducible repeat (first | refine blk_drewN ?_ _ | refine blk_drew ?_ | refine blk_alloc ?_ _)); refine blk_put (cs := #[.slice Ao59 t758.length co59, .slice Ao62 t761.length co62, .string (⟨#[]⟩ : ByteArray), .int .i64 0]) ?_ 2 _ rfl; (with_reducible repeat (first | refine blk_drewN ?_ _ | refine blk_drew ?_ | refine blk_alloc ?_ _)); refine blk_put (cs := #[.slice Ao59 t758.length co59, .slice none 0 0, .string (⟨#[]⟩ : ByteArray), .int .i64 0]) ?_ 1 _ rfl; (with_reducible repeat (first | refine blk_drewN ?_ _ | refine blk_drew ?_ | refine blk_alloc ?_ _)); refine blk_put (cs := #[.slice none 0 0, .slice none 0 0, .string (⟨#[]⟩ : ByteArray), .int .i64 0]) ?_ 0 _ rfl; (with_reducible repeat (first | refine blk_drewN ?_ _ | refine blk_drew ?_ | refine blk_alloc ?_ _)); exact BK750.out) Try.underlying35 rfl (by kernel_rfl)) rfl ?_
       exact ⟨_, _, by first | rfl | (simp [errW_none, errW_some] <;> rfl) | (simp [*, errW_none, errW_some] <;> rfl), by (with_reducible repeat (first | apply Kd.R_alloc | apply Kd.R_drewN | apply Kd.R_drew)); exact Kd.R_mono (Kd.R_far (p := ⟨gb750, 3, none⟩) (Kd.R_far (p := ⟨gb750, 2, none⟩) (Kd.R_far (p := ⟨gb750, 1, none⟩) (Kd.R_far (p := ⟨gb750, 0, none⟩) (Kd.R_types HO760.out BK750.out (by decide)) (fun _ hk => hk.2) (.slice Ao59 t758.length co59)) (fun _ hk => hk.2) (.slice Ao62 t761.length co62)) (fun _ hk => hk.2) (.string t764)) (fun _ hk => hk.2) (.int .i64 t765)) (fun _ hk => trivial), by (with_reducible repeat (first | apply Kd.R_alloc | apply Kd.R_drewN | apply Kd.R_drew)); exact Kd.R_mono (Kd.R_far (p := ⟨gb750, 3, none⟩) (Kd.R_far (p := ⟨gb750, 2, none⟩) (Kd.R_far (p := ⟨gb750, 1, none⟩) (Kd.R_far (p := ⟨gb750, 0, none⟩) (Kd.R_types HO763.out BK750.out (by decide)) (fun _ hk => hk.2) (.slice Ao59 t758.length co59)) (fun _ hk => hk.2) (.slice Ao62 t761.length co62)) (fun _ hk => hk.2) (.string t764)) (fun _ hk => hk.2) (.int .i64 t765)) (fun _ hk => trivial), by repeat (first | (with_reducible first | exact HB.out | apply below_alloc | apply pw_below_drewN | apply below_drew1 | refine below_set ?_ GE749.out | refine below_set ?_ GE750.out | refine below_set ?_ GE757.out) | exact HB.out)⟩

end Go.Proofs.Ytibnmnkembbgeaa.Q
