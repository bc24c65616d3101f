/- For each Go function that the laws of this text reach: a Lean function, and the proof that the Go function returns what the Lean function tells, wherever it tells some value. Written by a program of this session. -/
import Derived.Test.YtibnmnkembbgeaaKFnExactActsDo0
import Derived.Test.YtibnmnkembbgeaaKFnExactActsDo1
import Derived.Test.YtibnmnkembbgeaaKFnExactActsDo2
import Derived.Test.YtibnmnkembbgeaaKFnExactActsDo3
import Derived.Test.YtibnmnkembbgeaaKFnExactActsDo6
namespace Go.Proofs.Ytibnmnkembbgeaa.Q
open Go.RowKit Go.Proofs.YtibnmnkembbgeaaW.PrintWords Go.Proofs.YtibnmnkembbgeaaW.PrintLast Go.Proofs.YtibnmnkembbgeaaW.PrintMore
attribute [local go_sem] max2_int min2_int max_two min_two max_three min_three max_four min_four Instr.field asAgg   -- for this text's walks alone
set_option linter.unusedVariables false
set_option linter.unusedSimpArgs false
/-! ### spec_ActsDo: function 39 -/
def spec_ActsDo.l0 : Nat → List (S116) → Int → List ByteArray → List (S92) → Option (List ByteArray × (List (S92)) × ByteArray × Int)
 | 0, _, _, _, _ => none
 | k + 1, x1, x5, x786000, x786001 => if x5 < (x1.length : Int) then (if 0 ≤ x5 then (if (rd_T116 x1 x5).f0 = true then (if ((rd_T116 x1 x5).f1) = 0 then (if ((rd_T116 x1 x5).f2).toList = ([] : List UInt8) then (spec_ActsDo.l0 k x1 (wrap64 (x5 + 1)) x786000 x786001) else ((spec_l03Ill.f 1).bind fun bt807 => (some (bt807.1, bt807.2.1, bt807.2.2.1, bt807.2.2.2)))) else ((spec_l03Ill.f 1).bind fun bt815 => (some (bt815.1, bt815.2.1, bt815.2.2.1, bt815.2.2.2)))) else (spec_ActsDo.l0 k x1 (wrap64 (x5 + 1)) x786000 x786001)) else (none)) else ((spec_l04Do.f k x786000 x786001 x1).bind fun bt823 => (some (bt823.1, bt823.2.1, bt823.2.2.1, bt823.2.2.2)))
def spec_ActsDo.f (k : Nat) (l0_0 : List ByteArray) (l0_1 : List (S92)) (l1 : List (S116)) : Option (List ByteArray × (List (S92)) × ByteArray × Int) := if (l1.length : Int) > 400 then ((spec_l03Ill.f 2).bind fun bt787 => (some (bt787.1, bt787.2.1, bt787.2.2.1, bt787.2.2.2))) else ((spec_FlashRight.f k l0_0 l0_1).bind fun t795 => (if t795 = true then (spec_ActsDo.l0 k l1 0 l0_0 l0_1) else ((spec_l03Ill.f 1).bind fun bt796 => (some (bt796.1, bt796.2.1, bt796.2.2.1, bt796.2.2.2)))))
theorem spec_ActsDo.mono_l : ∀ k, (∀ y0 y1 y2 y3, LeO (spec_ActsDo.l0 k y0 y1 y2 y3) (spec_ActsDo.l0 (k + 1) y0 y1 y2 y3))
 | 0 => fun _ _ _ _ r h => by simp [spec_ActsDo.l0] at h
 | k + 1 => by
  have ih0 := spec_ActsDo.mono_l k
  ·
   intro y0 y1 y2 y3
   unfold spec_ActsDo.l0
   repeat' first
   | (with_reducible exact ih0 _ _ _ _)
   | (with_reducible exact spec_FlashRight.mono _ _ _)
   | (with_reducible exact spec_l04Do.mono _ _ _ _)
   | (with_reducible exact LeO.refl _)
   | (with_reducible exact LeO.none _)
   | (with_reducible refine LeO.ite ?_ ?_)
   | (with_reducible refine LeO.bind ?_ (fun _ => ?_))
   | exact ih0 _ _ _ _
   | exact spec_FlashRight.mono _ _ _
   | exact spec_l04Do.mono _ _ _ _
   | exact LeO.none _
   | refine LeO.ite ?_ ?_
   | refine LeO.bind ?_ (fun _ => ?_)
theorem spec_ActsDo.mono : ∀ a0 a1 a2 k, LeO (spec_ActsDo.f k a0 a1 a2) (spec_ActsDo.f (k + 1) a0 a1 a2) := by
 intro a0 a1 a2 k
 have ih0 := spec_ActsDo.mono_l k
 unfold spec_ActsDo.f
 repeat' first
   | (with_reducible exact ih0 _ _ _ _)
   | (with_reducible exact spec_FlashRight.mono _ _ _)
   | (with_reducible exact spec_l04Do.mono _ _ _ _)
   | (with_reducible exact LeO.refl _)
   | (with_reducible exact LeO.none _)
   | (with_reducible refine LeO.ite ?_ ?_)
   | (with_reducible refine LeO.bind ?_ (fun _ => ?_))
   | exact ih0 _ _ _ _
   | exact spec_FlashRight.mono _ _ _
   | exact spec_l04Do.mono _ _ _ _
   | exact LeO.none _
   | refine LeO.ite ?_ ?_
   | refine LeO.bind ?_ (fun _ => ?_)
set_option maxHeartbeats 8000000 in
set_option maxRecDepth 100000 in
theorem spec_ActsDo.calls (k : Nat) (A0_0 : Option Addr) (c0_0 : Nat) (l0_0 : List ByteArray) (A0_1 : Option Addr) (c0_1 : Nat) (l0_1 : List (S92)) (A1 : Option Addr) (c1 : Nat) (l1 : List (S116)) (r1 : List ByteArray) (r2 : List (S92)) (r3 : ByteArray) (r4 : Int) (w : World) (hr0_0 : Kd.C Kd.string w A0_0 l0_0.length l0_0) (hc0_0 : l0_0.length ≤ c0_0) (hr0_1 : Kd.C k92 w A0_1 l0_1.length l0_1) (hc0_1 : l0_1.length ≤ c0_1) (hr1 : Kd.C k116 w A1 l1.length l1) (hc1 : l1.length ≤ c1) (h : spec_ActsDo.f k l0_0 l0_1 l1 = some (r1, r2, r3, r4)) :
  Calls Try.prog 39 #[.agg #[.slice A0_0 l0_0.length c0_0, .slice A0_1 l0_1.length c0_1], .slice A1 l1.length c1] w fun e w' => ∃ v0_ v1_ : Value, e = .returned (.agg #[v0_, v1_, .string r3, .int .i64 r4]) ∧ Kd.R Kd.string 9 w' w.heap.size (fun _ => True) v0_ r1 ∧ Kd.R k92 92 w' w.heap.size (fun _ => True) v1_ r2 ∧ Below w.heap.size w w' := by
 have hu30 := Try.underlying30
 have hu35 := Try.underlying35
 have HR0_0 := Aside0.mk hr0_0
 have HC0_0 := Aside0.mk hc0_0
 clear hr0_0 hc0_0
 have HR0_1 := Aside0.mk hr0_1
 have HC0_1 := Aside0.mk hc0_1
 clear hr0_1 hc0_1
 have HR1 := Aside0.mk hr1
 have HC1 := Aside0.mk hc1
 clear hr1 hc1
 have HB := Aside0.mk (Below.refl w.heap.size w)
 have H : (if (l1.length : Int) > 400 then ((spec_l03Ill.f 2).bind fun bt787 => (some (bt787.1, bt787.2.1, bt787.2.2.1, bt787.2.2.2))) else ((spec_FlashRight.f k l0_0 l0_1).bind fun t795 => (if t795 = true then (spec_ActsDo.l0 k l1 0 l0_0 l0_1) else ((spec_l03Ill.f 1).bind fun bt796 => (some (bt796.1, bt796.2.1, bt796.2.2.1, bt796.2.2.2)))))) = some (r1, r2, r3, r4) := h
 clear h
 by_cases c3 : (l1.length : Int) > 400
 ·
  rw [if_pos c3] at H
  have c3b0 : decide (400 < (l1.length : Int)) = true := decide_eq_true c3
  have c3b1 : decide (400 < l1.length) = true := decide_eq_true (by omega)
  clear c3
  replace H := Option.bind_eq_some_iff.mp H
  obtain ⟨⟨t787, t790, t793, t794⟩, A40, H⟩ := H
  replace H : (some (t787, t790, t793, t794)) = some (r1, r2, r3, r4) := H
  have A4 := Aside0.mk A40
  clear A40
  simp only [Option.some.injEq, Prod.mk.injEq] at H
  obtain ⟨rfl, rfl, rfl, rfl⟩ := H
  go_enter Try.func39, Try.ntmps39
  go_wp2_with (first | ((with_reducible refine gate_dst (N := 2) rfl ?_); refine box_event ?hg (N := 2) ?hd (cs := #[.slice A0_0 l0_0.length c0_0, .slice A0_1 l0_1.length c0_1]) (t := 30) ?hr ?_; (case hd => rfl); (case hg => rfl); (case hr => first | (go_simp; done) | (go_simp; rfl)); intro gb785 hg w5 hbox hb; have n0_ := Aside0.mk (below_step (zh_ HB.out) hb); have n1_ := Aside0.mk (hbox); have n2_ := Aside0.mk ((by rw [hg]; exact (below_size (zh_ HB.out)) : w.heap.size ≤ gb785)); have n3_ := Aside0.mk ((by rw [hg]; exact (below_size (zh_ HB.out)) : w.heap.size ≤ gb785)); clear HB; have HB := n0_; have BK785 := n1_; have GW785 := n2_; have GE785 := n3_; clear n0_ n1_ n2_ n3_; clear hb hbox hg) | ((with_reducible refine gate_dst (N := 4) rfl ?_); refine box_event ?hg (N := 4) ?hd (cs := #[.slice none 0 0, .slice none 0 0, .string (⟨#[]⟩ : ByteArray), .int .i64 0]) (t := 35) ?hr ?_; (case hd => rfl); (case hg => rfl); (case hr => first | (go_simp; done) | (go_simp; rfl)); intro gb786 hg w6 hbox hb; have n0_ := Aside0.mk (blk_below (g := gb785) (o := .cells #[.slice A0_0 l0_0.length c0_0, .slice A0_1 l0_1.length c0_1] 30 (0, 0)) (zb_ BK785.out) hb); have n1_ := Aside0.mk (below_step (zg1_ HB.out GE785.out) hb); have n2_ := Aside0.mk (hbox); have n3_ := Aside0.mk ((by rw [hg]; exact (below_size (zg1_ HB.out GE785.out)) : w.heap.size ≤ gb786)); have n4_ := Aside0.mk ((by rw [hg]; exact (below_size (zg1_ HB.out GE785.out)) : w.heap.size ≤ gb786)); have n5_ := Aside0.mk ((by rw [hg]; exact Nat.ne_of_lt (blk_lt (g := gb785) (o := .cells #[.slice A0_0 l0_0.length c0_0, .slice A0_1 l0_1.length c0_1] 30 (0, 0)) (zb_ BK785.out)) : gb785 ≠ gb786)); have n6_ := Aside0.mk ((by rw [hg]; exact Nat.ne_of_gt (blk_lt (g := gb785) (o := .cells #[.slice A0_0 l0_0.length c0_0, .slice A0_1 l0_1.length c0_1] 30 (0, 0)) (zb_ BK785.out)) : gb786 ≠ gb785)); clear BK785; clear HB; have BK785 := n0_; have HB := n1_; have BK786 := n2_; have GW786 := n3_; have GE786 := n4_; have NB785_786 := n5_; have NB786_785 := n6_; clear n0_ n1_ n2_ n3_ n4_ n5_ n6_; clear hb hbox hg) | ((with_reducible refine gate_callee (f := 77) rfl ?_); refine goesL_ (some 9) rfl rfl Try.func77 (by kernel_rfl) rfl #[.int .i64 2] rfl zs_ ?_; (with_reducible refine (spec_l03Ill.calls 2 t787 t790 t793 t794 _ A4.out).mono ?_); rintro e w7 ⟨v788, v791, rfl, ho0, ho1, hb⟩; refine ⟨_, rfl, ?_⟩; have n0_ := Aside0.mk (Kd.R_lower ho0 (below_size (zg2_ HB.out GE785.out GE786.out))); have n1_ := Aside0.mk (Kd.R_lower ho1 (below_size (zg2_ HB.out GE785.out GE786.out))); have n2_ := Aside0.mk (blk_below (g := gb785) (o := .cells #[.slice A0_0 l0_0.length c0_0, .slice A0_1 l0_1.length c0_1] 30 (0, 0)) (zb_ BK785.out) hb); have n3_ := Aside0.mk (blk_below (g := gb786) (o := .cells #[.slice none 0 0, .slice none 0 0, .string (⟨#[]⟩ : ByteArray), .int .i64 0] 35 (0, 0)) (zb_ BK786.out) hb); have n4_ := Aside0.mk (below_step (zg2_ HB.out GE785.out GE786.out) hb); clear BK785; clear BK786; clear HB; have HO789 := n0_; have HO792 := n1_; have BK785 := n2_; have BK786 := n3_; have HB := n4_; clear n0_ n1_ n2_ n3_ n4_; (try clear hb); (try clear hb2); (try clear hk); (try clear hi); (try clear ho0); (try clear ho1); obtain ⟨Ao8, co8, eo8⟩ := Kd.R_slice HO789.out; subst eo8; have hnb9 := NB786_785.out; have hnc9 := NB785_786.out; have hcz10_0 : w7.cell? ⟨gb786, 0, none⟩ = some (.slice none 0 0) := (blk_cell BK786.out 0).trans rfl; have hcz10_1 : w7.cell? ⟨gb786, 1, none⟩ = some (.slice none 0 0) := (blk_cell BK786.out 1).trans rfl; have hcz10_2 : w7.cell? ⟨gb786, 2, none⟩ = some (.string (⟨#[]⟩ : ByteArray)) := (blk_cell BK786.out 2).trans rfl; have hcz10_3 : w7.cell? ⟨gb786, 3, none⟩ = some (.int .i64 0) := (blk_cell BK786.out 3).trans rfl; have hfz10_0 := blk_frozen BK786.out 0; have hfz10_1 := blk_frozen BK786.out 1; have hfz10_2 := blk_frozen BK786.out 2; have hfz10_3 := blk_frozen BK786.out 3; obtain ⟨Ao11, co11, eo11⟩ := Kd.R_slice HO792.out; subst eo11))
  refine bodyPost_ret (results_cell_row rfl _ _ gb786 35 #[.slice Ao8 t787.length co8, .slice Ao11 t790.length co11, .string t793, .int .i64 t794] (0, 0) _ rfl (by (with_reducible repeat (first | refine blk_drewN ?_ _ | refine blk_drew ?_ | refine blk_alloc ?_ _)); refine blk_put (cs := #[.slice Ao8 t787.length co8, .slice Ao11 t790.length co11, .string t793, .int .i64 0]) ?_ 3 _ rfl; (with_reducible repeat (first | refine blk_drewN ?_ _ | refine blk_drew ?_ | refine blk_alloc ?_ _)); refine blk_put (cs := #[.slice Ao8 t787.length co8, .slice Ao11 t790.length co11, .string (⟨#[]⟩ : ByteArray), .int .i64 0]) ?_ 2 _ rfl; (with_reducible repeat (first | refine blk_drewN ?_ _ | refine blk_drew ?_ | refine blk_alloc ?_ _)); refine blk_put (cs := #[.slice Ao8 t787.length co8, .slice none 0 0, .string (⟨#[]⟩ : ByteArray), .int .i64 0]) ?_ 1 _ rfl; (with_reducible repeat (first | refine blk_drewN ?_ _ | refine blk_drew ?_ | refine blk_alloc ?_ _)); refine blk_put (cs := #[.slice none 0 0, .slice none 0 0, .string (⟨#[]⟩ : ByteArray), .int .i64 0]) ?_ 0 _ rfl; (with_reducible repeat (first | refine blk_drewN ?_ _ | refine blk_drew ?_ | refine blk_alloc ?_ _)); exact BK786.out) Try.underlying35 rfl (by kernel_rfl)) rfl ?_
  exact ⟨_, _, by first | rfl | (simp [errW_none, errW_some] <;> rfl) | (simp [*, errW_none, errW_some] <;> rfl), by (with_reducible repeat (first | apply Kd.R_alloc | apply Kd.R_drewN | apply Kd.R_drew)); exact Kd.R_mono (Kd.R_far (p := ⟨gb786, 3, none⟩) (Kd.R_far (p := ⟨gb786, 2, none⟩) (Kd.R_far (p := ⟨gb786, 1, none⟩) (Kd.R_far (p := ⟨gb786, 0, none⟩) (Kd.R_types HO789.out BK786.out (by decide)) (fun _ hk => hk.2) (.slice Ao8 t787.length co8)) (fun _ hk => hk.2) (.slice Ao11 t790.length co11)) (fun _ hk => hk.2) (.string t793)) (fun _ hk => hk.2) (.int .i64 t794)) (fun _ hk => trivial), by (with_reducible repeat (first | apply Kd.R_alloc | apply Kd.R_drewN | apply Kd.R_drew)); exact Kd.R_mono (Kd.R_far (p := ⟨gb786, 3, none⟩) (Kd.R_far (p := ⟨gb786, 2, none⟩) (Kd.R_far (p := ⟨gb786, 1, none⟩) (Kd.R_far (p := ⟨gb786, 0, none⟩) (Kd.R_types HO792.out BK786.out (by decide)) (fun _ hk => hk.2) (.slice Ao8 t787.length co8)) (fun _ hk => hk.2) (.slice Ao11 t790.length co11)) (fun _ hk => hk.2) (.string t793)) (fun _ hk => hk.2) (.int .i64 t794)) (fun _ hk => trivial), by repeat (first | (with_reducible first | exact HB.out | apply below_alloc | apply pw_below_drewN | apply below_drew1 | refine below_set ?_ GE785.out | refine below_set ?_ GE786.out) | exact HB.out)⟩
 ·
  rw [if_neg c3] at H
  have c3b0 : decide (400 < (l1.length : Int)) = false := decide_eq_false c3
  have c3b1 : decide (400 < l1.length) = false := decide_eq_false (by omega)
  clear c3
  replace H := Option.bind_eq_some_iff.mp H
  obtain ⟨t795, A120, H⟩ := H
  replace H : (if t795 = true then (spec_ActsDo.l0 k l1 0 l0_0 l0_1) else ((spec_l03Ill.f 1).bind fun bt796 => (some (bt796.1, bt796.2.1, bt796.2.2.1, bt796.2.2.2)))) = some (r1, r2, r3, r4) := H
  have A12 := Aside0.mk A120
  clear A120
  by_cases c13 : t795 = true
  ·
   subst c13
   have H1 : (spec_ActsDo.l0 k l1 0 l0_0 l0_1) = some (r1, r2, r3, r4) := by rw [if_pos rfl] at H; exact H
   clear H
   have H := H1
   clear H1
   have H' := Aside0.mk H
   clear H
   go_enter Try.func39, Try.ntmps39
   go_wp2_with (first | ((with_reducible refine gate_dst (N := 2) rfl ?_); refine box_event ?hg (N := 2) ?hd (cs := #[.slice A0_0 l0_0.length c0_0, .slice A0_1 l0_1.length c0_1]) (t := 30) ?hr ?_; (case hd => rfl); (case hg => rfl); (case hr => first | (go_simp; done) | (go_simp; rfl)); intro gb785 hg w14 hbox hb; have n0_ := Aside0.mk (below_step (zh_ HB.out) hb); have n1_ := Aside0.mk (hbox); have n2_ := Aside0.mk ((by rw [hg]; exact (below_size (zh_ HB.out)) : w.heap.size ≤ gb785)); have n3_ := Aside0.mk ((by rw [hg]; exact (below_size (zh_ HB.out)) : w.heap.size ≤ gb785)); clear HB; have HB := n0_; have BK785 := n1_; have GW785 := n2_; have GE785 := n3_; clear n0_ n1_ n2_ n3_; clear hb hbox hg) | ((with_reducible refine gate_dst (N := 4) rfl ?_); refine box_event ?hg (N := 4) ?hd (cs := #[.slice none 0 0, .slice none 0 0, .string (⟨#[]⟩ : ByteArray), .int .i64 0]) (t := 35) ?hr ?_; (case hd => rfl); (case hg => rfl); (case hr => first | (go_simp; done) | (go_simp; rfl)); intro gb786 hg w15 hbox hb; have n0_ := Aside0.mk (blk_below (g := gb785) (o := .cells #[.slice A0_0 l0_0.length c0_0, .slice A0_1 l0_1.length c0_1] 30 (0, 0)) (zb_ BK785.out) hb); have n1_ := Aside0.mk (below_step (zg1_ HB.out GE785.out) hb); have n2_ := Aside0.mk (hbox); have n3_ := Aside0.mk ((by rw [hg]; exact (below_size (zg1_ HB.out GE785.out)) : w.heap.size ≤ gb786)); have n4_ := Aside0.mk ((by rw [hg]; exact (below_size (zg1_ HB.out GE785.out)) : w.heap.size ≤ gb786)); have n5_ := Aside0.mk ((by rw [hg]; exact Nat.ne_of_lt (blk_lt (g := gb785) (o := .cells #[.slice A0_0 l0_0.length c0_0, .slice A0_1 l0_1.length c0_1] 30 (0, 0)) (zb_ BK785.out)) : gb785 ≠ gb786)); have n6_ := Aside0.mk ((by rw [hg]; exact Nat.ne_of_gt (blk_lt (g := gb785) (o := .cells #[.slice A0_0 l0_0.length c0_0, .slice A0_1 l0_1.length c0_1] 30 (0, 0)) (zb_ BK785.out)) : gb786 ≠ gb785)); clear BK785; clear HB; have BK785 := n0_; have HB := n1_; have BK786 := n2_; have GW786 := n3_; have GE786 := n4_; have NB785_786 := n5_; have NB786_785 := n6_; clear n0_ n1_ n2_ n3_ n4_ n5_ n6_; clear hb hbox hg; have hnb16 := NB785_786.out; have hnc16 := NB786_785.out; have hcz17_0 : w15.cell? ⟨gb785, 0, none⟩ = some (.slice A0_0 l0_0.length c0_0) := (blk_cell BK785.out 0).trans rfl; have hcz17_1 : w15.cell? ⟨gb785, 1, none⟩ = some (.slice A0_1 l0_1.length c0_1) := (blk_cell BK785.out 1).trans rfl; have hfz17_0 := blk_frozen BK785.out 0; have hfz17_1 := blk_frozen BK785.out 1) | ((with_reducible refine gate_callee (f := 15) rfl ?_); refine goesL_ (some 11) rfl rfl Try.func15 (by kernel_rfl) rfl #[.agg #[.slice A0_0 l0_0.length c0_0, .slice A0_1 l0_1.length c0_1]] rfl zs_ ?_; (with_reducible refine (spec_FlashRight.calls k _ _ l0_0 _ _ l0_1 true _ ?side1 ?side2 ?side3 ?side4 A12.out).mono ?_); (case side1 => exact zc_ (Kd.C_below HR0_0.out HB.out)); (case side2 => exact HC0_0.out); (case side3 => exact zc_ (Kd.C_below HR0_1.out HB.out)); (case side4 => exact HC0_1.out); rintro e w18 ⟨rfl, hb⟩; refine ⟨_, rfl, ?_⟩; have n0_ := Aside0.mk (blk_below (g := gb785) (o := .cells #[.slice A0_0 l0_0.length c0_0, .slice A0_1 l0_1.length c0_1] 30 (0, 0)) (zb_ BK785.out) hb); have n1_ := Aside0.mk (blk_below (g := gb786) (o := .cells #[.slice none 0 0, .slice none 0 0, .string (⟨#[]⟩ : ByteArray), .int .i64 0] 35 (0, 0)) (zb_ BK786.out) hb); have n2_ := Aside0.mk (below_step (zg2_ HB.out GE785.out GE786.out) hb); clear BK785; clear BK786; clear HB; have BK785 := n0_; have BK786 := n1_; have HB := n2_; clear n0_ n1_ n2_; (try clear hb); (try clear hb2); (try clear hk); (try clear hi)))
   go_loopg [5] k (fun kq v5 w' => ∃ (x5_1 : Int) (x787002_1 : ByteArray) (x787003_1 : Int), v5 = .int .i64 x5_1 ∧ Aside0 (spec_ActsDo.l0 kq l1 x5_1 l0_0 l0_1 = some (r1, r2, r3, r4)) ∧ Aside0 (kq ≤ k) ∧ Aside0 (w'.heap[gb785]? = some (.cells #[(.slice A0_0 l0_0.length c0_0), (.slice A0_1 l0_1.length c0_1)] 30 (0, 0))) ∧ Aside0 (w'.heap[gb786]? = some (.cells #[(.slice none 0 0), (.slice none 0 0), .string x787002_1, .int .i64 x787003_1] 35 (0, 0))) ∧ Aside0 (Below w.heap.size w w'))
   case atStart => exact ⟨(0), ((⟨#[]⟩ : ByteArray)), (0), (by first | rfl | (simp; done) | (simp [*]; done)), H', ⟨Nat.le_refl _⟩, ⟨zb_ BK785.out⟩, ⟨zb_ BK786.out⟩, ⟨zg2_ HB.out GE785.out GE786.out⟩⟩
   case round =>
    clear H'
    try clear c1
    try clear p2
    try clear c3
    try clear c3b0
    try clear c3b1
    try clear c7
    try clear c9
    try clear c13
    try clear c15
    try clear c16
    try clear hcz10_0
    try clear hcz10_1
    try clear hcz10_2
    try clear hcz10_3
    try clear hcz17_0
    try clear hcz17_1
    try clear hfz10_0
    try clear hfz10_1
    try clear hfz10_2
    try clear hfz10_3
    try clear hfz17_0
    try clear hfz17_1
    obtain ⟨x5_1, x787002_1, x787003_1, rfl, HA, HK1, BK785, BK786, HB⟩ := hrel
    cases gk with
    | zero => exact absurd HA.out (by simp [spec_ActsDo.l0])
    | succ k1 =>
     have H := HA.out
     clear HA
     simp only [spec_ActsDo.l0] at H
     by_cases c19 : x5_1 < (l1.length : Int)
     ·
      rw [if_pos c19] at H
      have c19b0 : decide (x5_1 < (l1.length : Int)) = true := decide_eq_true c19
      clear c19
      by_cases c20 : 0 ≤ x5_1
      ·
       rw [if_pos c20] at H
       have c20b0 : decide (0 ≤ x5_1) = true := decide_eq_true c20
       clear c20
       obtain ⟨bq21, hbq21⟩ : ∃ b_ : Bool, b_ = ((rd_T116 l1 x5_1).f0) := ⟨_, rfl⟩
       replace H : (if bq21 = true then (if ((rd_T116 l1 x5_1).f1) = 0 then (if ((rd_T116 l1 x5_1).f2).toList = ([] : List UInt8) then (spec_ActsDo.l0 k1 l1 (wrap64 (x5_1 + 1)) l0_0 l0_1) else ((spec_l03Ill.f 1).bind fun bt807 => (some (bt807.1, bt807.2.1, bt807.2.2.1, bt807.2.2.2)))) else ((spec_l03Ill.f 1).bind fun bt815 => (some (bt815.1, bt815.2.1, bt815.2.2.1, bt815.2.2.2)))) else (spec_ActsDo.l0 k1 l1 (wrap64 (x5_1 + 1)) l0_0 l0_1)) = some (r1, r2, r3, r4) := by rw [← hbq21] at H; exact H
       have Nbq21 := Aside0.mk hbq21
       clear hbq21
       by_cases c22 : bq21 = true
       ·
        subst c22
        have H1 : (if ((rd_T116 l1 x5_1).f1) = 0 then (if ((rd_T116 l1 x5_1).f2).toList = ([] : List UInt8) then (spec_ActsDo.l0 k1 l1 (wrap64 (x5_1 + 1)) l0_0 l0_1) else ((spec_l03Ill.f 1).bind fun bt807 => (some (bt807.1, bt807.2.1, bt807.2.2.1, bt807.2.2.2)))) else ((spec_l03Ill.f 1).bind fun bt815 => (some (bt815.1, bt815.2.1, bt815.2.2.1, bt815.2.2.2)))) = some (r1, r2, r3, r4) := by rw [if_pos rfl] at H; exact H
        clear H
        have H := H1
        clear H1
        by_cases c23 : ((rd_T116 l1 x5_1).f1) = 0
        ·
         rw [if_pos c23] at H
         have c23b0 : (((rd_T116 l1 x5_1).f1) == 0) = true := beq_iff_eq.mpr c23
         have c23b1 : (((rd_T116 l1 x5_1).f1) != 0) = false := bne_eq_false_iff_eq.mpr c23
         clear c23
         by_cases c24 : ((rd_T116 l1 x5_1).f2).toList = ([] : List UInt8)
         ·
          rw [if_pos c24] at H
          have c24b0 : (((rd_T116 l1 x5_1).f2).toList == ([] : List UInt8)) = true := beq_iff_eq.mpr c24
          have c24b1 : (((rd_T116 l1 x5_1).f2).toList != ([] : List UInt8)) = false := bne_eq_false_iff_eq.mpr c24
          clear c24
          have H' := Aside0.mk H
          clear H
          have p804 : 0 ≤ (x5_1 : Int) := of_decide_eq_true (by first | (with_reducible assumption) | assumption)
          have q804 : x5_1 < (l1.length : Int) := of_decide_eq_true (by first | (with_reducible assumption) | assumption)
          obtain ⟨ad804, e804, hx804_0, hx804_1, hx804_2⟩ := at_T116 HR1.out x5_1 p804 q804
          (try rw [← Nbq21.out] at hx804_0)
          cases e804
          replace hx804_0 := (HB.out.cell (World.block_lt_of_cell? _ _ hx804_0)).trans hx804_0
          replace hx804_1 := (HB.out.cell (World.block_lt_of_cell? _ _ hx804_1)).trans hx804_1
          replace hx804_2 := (HB.out.cell (World.block_lt_of_cell? _ _ hx804_2)).trans hx804_2
          replace p804 := eq_true p804
          replace q804 := eq_true q804
          have p805 : 0 ≤ (x5_1 : Int) := of_decide_eq_true (by first | (with_reducible assumption) | assumption)
          have q805 : x5_1 < (l1.length : Int) := of_decide_eq_true (by first | (with_reducible assumption) | assumption)
          obtain ⟨ad805, e805, hx805_0, hx805_1, hx805_2⟩ := at_T116 HR1.out x5_1 p805 q805
          (try rw [← Nbq21.out] at hx805_0)
          obtain rfl : ad804 = ad805 := (by injection e805)
          replace hx805_0 := (HB.out.cell (World.block_lt_of_cell? _ _ hx805_0)).trans hx805_0
          replace hx805_1 := (HB.out.cell (World.block_lt_of_cell? _ _ hx805_1)).trans hx805_1
          replace hx805_2 := (HB.out.cell (World.block_lt_of_cell? _ _ hx805_2)).trans hx805_2
          replace p805 := eq_true p805
          replace q805 := eq_true q805
          have p806 : 0 ≤ (x5_1 : Int) := of_decide_eq_true (by first | (with_reducible assumption) | assumption)
          have q806 : x5_1 < (l1.length : Int) := of_decide_eq_true (by first | (with_reducible assumption) | assumption)
          obtain ⟨ad806, e806, hx806_0, hx806_1, hx806_2⟩ := at_T116 HR1.out x5_1 p806 q806
          (try rw [← Nbq21.out] at hx806_0)
          obtain rfl : ad804 = ad806 := (by injection e806)
          replace hx806_0 := (HB.out.cell (World.block_lt_of_cell? _ _ hx806_0)).trans hx806_0
          replace hx806_1 := (HB.out.cell (World.block_lt_of_cell? _ _ hx806_1)).trans hx806_1
          replace hx806_2 := (HB.out.cell (World.block_lt_of_cell? _ _ hx806_2)).trans hx806_2
          replace p806 := eq_true p806
          replace q806 := eq_true q806
          go_wp2
          go_roundg k1
          case measure => have := HK1.out; omega
          case rel => exact ⟨(wrap64 (x5_1 + 1)), (x787002_1), (x787003_1), (by first | rfl | (simp; done) | (simp [*]; done)), H', ⟨by have := HK1.out; omega⟩, ⟨zb_ BK785.out⟩, ⟨zb_ BK786.out⟩, ⟨zg2_ HB.out GE785.out GE786.out⟩⟩
         ·
          rw [if_neg c24] at H
          have c24b0 : (((rd_T116 l1 x5_1).f2).toList == ([] : List UInt8)) = false := beq_eq_false_iff_ne.mpr c24
          have c24b1 : (((rd_T116 l1 x5_1).f2).toList != ([] : List UInt8)) = true := bne_iff_ne.mpr c24
          replace H := Option.bind_eq_some_iff.mp H
          obtain ⟨⟨t807, t810, t813, t814⟩, A250, H⟩ := H
          replace H : (some (t807, t810, t813, t814)) = some (r1, r2, r3, r4) := H
          have A25 := Aside0.mk A250
          clear A250
          simp only [Option.some.injEq, Prod.mk.injEq] at H
          obtain ⟨rfl, rfl, rfl, rfl⟩ := H
          have p804 : 0 ≤ (x5_1 : Int) := of_decide_eq_true (by first | (with_reducible assumption) | assumption)
          have q804 : x5_1 < (l1.length : Int) := of_decide_eq_true (by first | (with_reducible assumption) | assumption)
          obtain ⟨ad804, e804, hx804_0, hx804_1, hx804_2⟩ := at_T116 HR1.out x5_1 p804 q804
          (try rw [← Nbq21.out] at hx804_0)
          cases e804
          replace hx804_0 := (HB.out.cell (World.block_lt_of_cell? _ _ hx804_0)).trans hx804_0
          replace hx804_1 := (HB.out.cell (World.block_lt_of_cell? _ _ hx804_1)).trans hx804_1
          replace hx804_2 := (HB.out.cell (World.block_lt_of_cell? _ _ hx804_2)).trans hx804_2
          replace p804 := eq_true p804
          replace q804 := eq_true q804
          have p805 : 0 ≤ (x5_1 : Int) := of_decide_eq_true (by first | (with_reducible assumption) | assumption)
          have q805 : x5_1 < (l1.length : Int) := of_decide_eq_true (by first | (with_reducible assumption) | assumption)
          obtain ⟨ad805, e805, hx805_0, hx805_1, hx805_2⟩ := at_T116 HR1.out x5_1 p805 q805
          (try rw [← Nbq21.out] at hx805_0)
          obtain rfl : ad804 = ad805 := (by injection e805)
          replace hx805_0 := (HB.out.cell (World.block_lt_of_cell? _ _ hx805_0)).trans hx805_0
          replace hx805_1 := (HB.out.cell (World.block_lt_of_cell? _ _ hx805_1)).trans hx805_1
          replace hx805_2 := (HB.out.cell (World.block_lt_of_cell? _ _ hx805_2)).trans hx805_2
          replace p805 := eq_true p805
          replace q805 := eq_true q805
          have p806 : 0 ≤ (x5_1 : Int) := of_decide_eq_true (by first | (with_reducible assumption) | assumption)
          have q806 : x5_1 < (l1.length : Int) := of_decide_eq_true (by first | (with_reducible assumption) | assumption)
          obtain ⟨ad806, e806, hx806_0, hx806_1, hx806_2⟩ := at_T116 HR1.out x5_1 p806 q806
          (try rw [← Nbq21.out] at hx806_0)
          obtain rfl : ad804 = ad806 := (by injection e806)
          replace hx806_0 := (HB.out.cell (World.block_lt_of_cell? _ _ hx806_0)).trans hx806_0
          replace hx806_1 := (HB.out.cell (World.block_lt_of_cell? _ _ hx806_1)).trans hx806_1
          replace hx806_2 := (HB.out.cell (World.block_lt_of_cell? _ _ hx806_2)).trans hx806_2
          replace p806 := eq_true p806
          replace q806 := eq_true q806
          go_wp2_with (first | ((with_reducible refine gate_callee (f := 77) rfl ?_); refine goesL_ (some 41) rfl rfl Try.func77 (by kernel_rfl) rfl #[.int .i64 1] rfl zs_ ?_; (with_reducible refine (spec_l03Ill.calls 1 t807 t810 t813 t814 _ A25.out).mono ?_); rintro e w26 ⟨v808, v811, rfl, ho0, ho1, hb⟩; refine ⟨_, rfl, ?_⟩; have n0_ := Aside0.mk (Kd.R_lower ho0 (below_size (zg2_ HB.out GE785.out GE786.out))); have n1_ := Aside0.mk (Kd.R_lower ho1 (below_size (zg2_ HB.out GE785.out GE786.out))); have n2_ := Aside0.mk (blk_below (g := gb785) (o := .cells #[.slice A0_0 l0_0.length c0_0, .slice A0_1 l0_1.length c0_1] 30 (0, 0)) (zb_ BK785.out) hb); have n3_ := Aside0.mk (blk_below (g := gb786) (o := .cells #[.slice none 0 0, .slice none 0 0, .string x787002_1, .int .i64 x787003_1] 35 (0, 0)) (zb_ BK786.out) hb); have n4_ := Aside0.mk (below_step (zg2_ HB.out GE785.out GE786.out) hb); clear BK785; clear BK786; clear HB; have HO809 := n0_; have HO812 := n1_; have BK785 := n2_; have BK786 := n3_; have HB := n4_; clear n0_ n1_ n2_ n3_ n4_; (try clear hb); (try clear hb2); (try clear hk); (try clear hi); (try clear ho0); (try clear ho1); obtain ⟨Ao27, co27, eo27⟩ := Kd.R_slice HO809.out; subst eo27; have hnb28 := NB786_785.out; have hnc28 := NB785_786.out; have hcz29_0 : w26.cell? ⟨gb786, 0, none⟩ = some (.slice none 0 0) := (blk_cell BK786.out 0).trans rfl; have hcz29_1 : w26.cell? ⟨gb786, 1, none⟩ = some (.slice none 0 0) := (blk_cell BK786.out 1).trans rfl; have hcz29_2 : w26.cell? ⟨gb786, 2, none⟩ = some (.string x787002_1) := (blk_cell BK786.out 2).trans rfl; have hcz29_3 : w26.cell? ⟨gb786, 3, none⟩ = some (.int .i64 x787003_1) := (blk_cell BK786.out 3).trans rfl; have hfz29_0 := blk_frozen BK786.out 0; have hfz29_1 := blk_frozen BK786.out 1; have hfz29_2 := blk_frozen BK786.out 2; have hfz29_3 := blk_frozen BK786.out 3; obtain ⟨Ao30, co30, eo30⟩ := Kd.R_slice HO812.out; subst eo30))
          refine bodyPost_ret (results_cell_row rfl _ _ gb786 35 #[.slice Ao27 t807.length co27, .slice Ao30 t810.length co30, .string t813, .int .i64 t814] (0, 0) _ rfl (by (with_reducible repeat (first | refine blk_drewN ?_ _ | refine blk_drew ?_ | refine blk_alloc ?_ _)); refine blk_put (cs := #[.slice Ao27 t807.length co27, .slice Ao30 t810.length co30, .string t813, .int .i64 x787003_1]) ?_ 3 _ rfl; (with_reducible repeat (first | refine blk_drewN ?_ _ | refine blk_drew ?_ | refine blk_alloc ?_ _)); refine blk_put (cs := #[.slice Ao27 t807.length co27, .slice Ao30 t810.length co30, .string x787002_1, .int .i64 x787003_1]) ?_ 2 _ rfl; (with_reducible repeat (first | refine blk_drewN ?_ _ | refine blk_drew ?_ | refine blk_alloc ?_ _)); refine blk_put (cs := #[.slice Ao27 t807.length co27, .slice none 0 0, .string x787002_1, .int .i64 x787003_1]) ?_ 1 _ rfl; (with_reducible repeat (first | refine blk_drewN ?_ _ | refine blk_drew ?_ | refine blk_alloc ?_ _)); refine blk_put (cs := #[.slice none 0 0, .slice none 0 0, .string x787002_1, .int .i64 x787003_1]) ?_ 0 _ rfl; (with_reducible repeat (first | refine blk_drewN ?_ _ | refine blk_drew ?_ | refine blk_alloc ?_ _)); exact BK786.out) Try.underlying35 rfl (by kernel_rfl)) rfl ?_
          exact ⟨_, _, by first | rfl | (simp [errW_none, errW_some] <;> rfl) | (simp [*, errW_none, errW_some] <;> rfl), by (with_reducible repeat (first | apply Kd.R_alloc | apply Kd.R_drewN | apply Kd.R_drew)); exact Kd.R_mono (Kd.R_far (p := ⟨gb786, 3, none⟩) (Kd.R_far (p := ⟨gb786, 2, none⟩) (Kd.R_far (p := ⟨gb786, 1, none⟩) (Kd.R_far (p := ⟨gb786, 0, none⟩) (Kd.R_types HO809.out BK786.out (by decide)) (fun _ hk => hk.2) (.slice Ao27 t807.length co27)) (fun _ hk => hk.2) (.slice Ao30 t810.length co30)) (fun _ hk => hk.2) (.string t813)) (fun _ hk => hk.2) (.int .i64 t814)) (fun _ hk => trivial), by (with_reducible repeat (first | apply Kd.R_alloc | apply Kd.R_drewN | apply Kd.R_drew)); exact Kd.R_mono (Kd.R_far (p := ⟨gb786, 3, none⟩) (Kd.R_far (p := ⟨gb786, 2, none⟩) (Kd.R_far (p := ⟨gb786, 1, none⟩) (Kd.R_far (p := ⟨gb786, 0, none⟩) (Kd.R_types HO812.out BK786.out (by decide)) (fun _ hk => hk.2) (.slice Ao27 t807.length co27)) (fun _ hk => hk.2) (.slice Ao30 t810.length co30)) (fun _ hk => hk.2) (.string t813)) (fun _ hk => hk.2) (.int .i64 t814)) (fun _ hk => trivial), by repeat (first | (with_reducible first | exact HB.out | apply below_alloc | apply pw_below_drewN | apply below_drew1 | refine below_set ?_ GE785.out | refine below_set ?_ GE786.out) | exact HB.out)⟩
        ·
         rw [if_neg c23] at H
         have c23b0 : (((rd_T116 l1 x5_1).f1) == 0) = false := beq_eq_false_iff_ne.mpr c23
         have c23b1 : (((rd_T116 l1 x5_1).f1) != 0) = true := bne_iff_ne.mpr c23
         replace H := Option.bind_eq_some_iff.mp H
         obtain ⟨⟨t815, t818, t821, t822⟩, A310, H⟩ := H
         replace H : (some (t815, t818, t821, t822)) = some (r1, r2, r3, r4) := H
         have A31 := Aside0.mk A310
         clear A310
         simp only [Option.some.injEq, Prod.mk.injEq] at H
         obtain ⟨rfl, rfl, rfl, rfl⟩ := H
         have p804 : 0 ≤ (x5_1 : Int) := of_decide_eq_true (by first | (with_reducible assumption) | assumption)
         have q804 : x5_1 < (l1.length : Int) := of_decide_eq_true (by first | (with_reducible assumption) | assumption)
         obtain ⟨ad804, e804, hx804_0, hx804_1, hx804_2⟩ := at_T116 HR1.out x5_1 p804 q804
         (try rw [← Nbq21.out] at hx804_0)
         cases e804
         replace hx804_0 := (HB.out.cell (World.block_lt_of_cell? _ _ hx804_0)).trans hx804_0
         replace hx804_1 := (HB.out.cell (World.block_lt_of_cell? _ _ hx804_1)).trans hx804_1
         replace hx804_2 := (HB.out.cell (World.block_lt_of_cell? _ _ hx804_2)).trans hx804_2
         replace p804 := eq_true p804
         replace q804 := eq_true q804
         have p805 : 0 ≤ (x5_1 : Int) := of_decide_eq_true (by first | (with_reducible assumption) | assumption)
         have q805 : x5_1 < (l1.length : Int) := of_decide_eq_true (by first | (with_reducible assumption) | assumption)
         obtain ⟨ad805, e805, hx805_0, hx805_1, hx805_2⟩ := at_T116 HR1.out x5_1 p805 q805
         (try rw [← Nbq21.out] at hx805_0)
         obtain rfl : ad804 = ad805 := (by injection e805)
         replace hx805_0 := (HB.out.cell (World.block_lt_of_cell? _ _ hx805_0)).trans hx805_0
         replace hx805_1 := (HB.out.cell (World.block_lt_of_cell? _ _ hx805_1)).trans hx805_1
         replace hx805_2 := (HB.out.cell (World.block_lt_of_cell? _ _ hx805_2)).trans hx805_2
         replace p805 := eq_true p805
         replace q805 := eq_true q805
         go_wp2_with (first | ((with_reducible refine gate_callee (f := 77) rfl ?_); refine goesL_ (some 41) rfl rfl Try.func77 (by kernel_rfl) rfl #[.int .i64 1] rfl zs_ ?_; (with_reducible refine (spec_l03Ill.calls 1 t815 t818 t821 t822 _ A31.out).mono ?_); rintro e w32 ⟨v816, v819, rfl, ho0, ho1, hb⟩; refine ⟨_, rfl, ?_⟩; have n0_ := Aside0.mk (Kd.R_lower ho0 (below_size (zg2_ HB.out GE785.out GE786.out))); have n1_ := Aside0.mk (Kd.R_lower ho1 (below_size (zg2_ HB.out GE785.out GE786.out))); have n2_ := Aside0.mk (blk_below (g := gb785) (o := .cells #[.slice A0_0 l0_0.length c0_0, .slice A0_1 l0_1.length c0_1] 30 (0, 0)) (zb_ BK785.out) hb); have n3_ := Aside0.mk (blk_below (g := gb786) (o := .cells #[.slice none 0 0, .slice none 0 0, .string x787002_1, .int .i64 x787003_1] 35 (0, 0)) (zb_ BK786.out) hb); have n4_ := Aside0.mk (below_step (zg2_ HB.out GE785.out GE786.out) hb); clear BK785; clear BK786; clear HB; have HO817 := n0_; have HO820 := n1_; have BK785 := n2_; have BK786 := n3_; have HB := n4_; clear n0_ n1_ n2_ n3_ n4_; (try clear hb); (try clear hb2); (try clear hk); (try clear hi); (try clear ho0); (try clear ho1); obtain ⟨Ao33, co33, eo33⟩ := Kd.R_slice HO817.out; subst eo33; have hnb34 := NB786_785.out; have hnc34 := NB785_786.out; have hcz35_0 : w32.cell? ⟨gb786, 0, none⟩ = some (.slice none 0 0) := (blk_cell BK786.out 0).trans rfl; have hcz35_1 : w32.cell? ⟨gb786, 1, none⟩ = some (.slice none 0 0) := (blk_cell BK786.out 1).trans rfl; have hcz35_2 : w32.cell? ⟨gb786, 2, none⟩ = some (.string x787002_1) := (blk_cell BK786.out 2).trans rfl; have hcz35_3 : w32.cell? ⟨gb786, 3, none⟩ = some (.int .i64 x787003_1) := (blk_cell BK786.out 3).trans rfl; have hfz35_0 := blk_frozen BK786.out 0; have hfz35_1 := blk_frozen BK786.out 1; have hfz35_2 := blk_frozen BK786.out 2; have hfz35_3 := blk_frozen BK786.out 3; obtain ⟨Ao36, co36, eo36⟩ := Kd.R_slice HO820.out; subst eo36))
         refine bodyPost_ret (results_cell_row rfl _ _ gb786 35 #[.slice Ao33 t815.length co33, .slice Ao36 t818.length co36, .string t821, .int .i64 t822] (0, 0) _ rfl (by (with_reducible repeat (first | refine blk_drewN ?_ _ | refine blk_drew ?_ | refine blk_alloc ?_ _)); refine blk_put (cs := #[.slice Ao33 t815.length co33, .slice Ao36 t818.length co36, .string t821, .int .i64 x787003_1]) ?_ 3 _ rfl; (with_reducible repeat (first | refine blk_drewN ?_ _ | refine blk_drew ?_ | refine blk_alloc ?_ _)); refine blk_put (cs := #[.slice Ao33 t815.length co33, .slice Ao36 t818.length co36, .string x787002_1, .int .i64 x787003_1]) ?_ 2 _ rfl; (with_reducible repeat (first | refine blk_drewN ?_ _ | refine blk_drew ?_ | refine blk_alloc ?_ _)); refine blk_put (cs := #[.slice Ao33 t815.length co33, .slice none 0 0, .string x787002_1, .int .i64 x787003_1]) ?_ 1 _ rfl; (with_reducible repeat (first | refine blk_drewN ?_ _ | refine blk_drew ?_ | refine blk_alloc ?_ _)); refine blk_put (cs := #[.slice none 0 0, .slice none 0 0, .string x787002_1, .int .i64 x787003_1]) ?_ 0 _ rfl; (with_reducible repeat (first | refine blk_drewN ?_ _ | refine blk_drew ?_ | refine blk_alloc ?_ _)); exact BK786.out) Try.underlying35 rfl (by kernel_rfl)) rfl ?_
         exact ⟨_, _, by first | rfl | (simp [errW_none, errW_some] <;> rfl) | (simp [*, errW_none, errW_some] <;> rfl), by (with_reducible repeat (first | apply Kd.R_alloc | apply Kd.R_drewN | apply Kd.R_drew)); exact Kd.R_mono (Kd.R_far (p := ⟨gb786, 3, none⟩) (Kd.R_far (p := ⟨gb786, 2, none⟩) (Kd.R_far (p := ⟨gb786, 1, none⟩) (Kd.R_far (p := ⟨gb786, 0, none⟩) (Kd.R_types HO817.out BK786.out (by decide)) (fun _ hk => hk.2) (.slice Ao33 t815.length co33)) (fun _ hk => hk.2) (.slice Ao36 t818.length co36)) (fun _ hk => hk.2) (.string t821)) (fun _ hk => hk.2) (.int .i64 t822)) (fun _ hk => trivial), by (with_reducible repeat (first | apply Kd.R_alloc | apply Kd.R_drewN | apply Kd.R_drew)); exact Kd.R_mono (Kd.R_far (p := ⟨gb786, 3, none⟩) (Kd.R_far (p := ⟨gb786, 2, none⟩) (Kd.R_far (p := ⟨gb786, 1, none⟩) (Kd.R_far (p := ⟨gb786, 0, none⟩) (Kd.R_types HO820.out BK786.out (by decide)) (fun _ hk => hk.2) (.slice Ao33 t815.length co33)) (fun _ hk => hk.2) (.slice Ao36 t818.length co36)) (fun _ hk => hk.2) (.string t821)) (fun _ hk => hk.2) (.int .i64 t822)) (fun _ hk => trivial), by repeat (first | (with_reducible first | exact HB.out | apply below_alloc | apply pw_below_drewN | apply below_drew1 | refine below_set ?_ GE785.out | refine below_set ?_ GE786.out) | exact HB.out)⟩
       ·
        replace c22 := Bool.eq_false_iff.mpr c22
        subst c22
        have H1 : (spec_ActsDo.l0 k1 l1 (wrap64 (x5_1 + 1)) l0_0 l0_1) = some (r1, r2, r3, r4) := by rw [if_neg (show ¬ (false = true) by decide)] at H; exact H
        clear H
        have H := H1
        clear H1
        have H' := Aside0.mk H
        clear H
        have p804 : 0 ≤ (x5_1 : Int) := of_decide_eq_true (by first | (with_reducible assumption) | assumption)
        have q804 : x5_1 < (l1.length : Int) := of_decide_eq_true (by first | (with_reducible assumption) | assumption)
        obtain ⟨ad804, e804, hx804_0, hx804_1, hx804_2⟩ := at_T116 HR1.out x5_1 p804 q804
        (try rw [← Nbq21.out] at hx804_0)
        cases e804
        replace hx804_0 := (HB.out.cell (World.block_lt_of_cell? _ _ hx804_0)).trans hx804_0
        replace hx804_1 := (HB.out.cell (World.block_lt_of_cell? _ _ hx804_1)).trans hx804_1
        replace hx804_2 := (HB.out.cell (World.block_lt_of_cell? _ _ hx804_2)).trans hx804_2
        replace p804 := eq_true p804
        replace q804 := eq_true q804
        go_wp2
        go_roundg k1
        case measure => have := HK1.out; omega
        case rel => exact ⟨(wrap64 (x5_1 + 1)), (x787002_1), (x787003_1), (by first | rfl | (simp; done) | (simp [*]; done)), H', ⟨by have := HK1.out; omega⟩, ⟨zb_ BK785.out⟩, ⟨zb_ BK786.out⟩, ⟨zg2_ HB.out GE785.out GE786.out⟩⟩
      ·
       rw [if_neg c20] at H
       exact absurd H (by simp)
     ·
      rw [if_neg c19] at H
      have c19b0 : decide (x5_1 < (l1.length : Int)) = false := decide_eq_false c19
      clear c19
      replace H := Option.bind_eq_some_iff.mp H
      obtain ⟨⟨t823, t826, t829, t830⟩, A370, H⟩ := H
      replace H : (some (t823, t826, t829, t830)) = some (r1, r2, r3, r4) := H
      have A37 := Aside0.mk A370
      clear A370
      simp only [Option.some.injEq, Prod.mk.injEq] at H
      obtain ⟨rfl, rfl, rfl, rfl⟩ := H
      have hnb38 := NB785_786.out
      have hnc38 := NB786_785.out
      have hcz39_0 : wr.cell? ⟨gb785, 0, none⟩ = some (.slice A0_0 l0_0.length c0_0) := (blk_cell BK785.out 0).trans rfl
      have hcz39_1 : wr.cell? ⟨gb785, 1, none⟩ = some (.slice A0_1 l0_1.length c0_1) := (blk_cell BK785.out 1).trans rfl
      have hfz39_0 := blk_frozen BK785.out 0
      have hfz39_1 := blk_frozen BK785.out 1
      go_wp2_with (first | ((with_reducible refine gate_callee (f := 97) rfl ?_); refine goesL_ (some 44) rfl rfl Try.func97 (by kernel_rfl) rfl #[.agg #[.slice A0_0 l0_0.length c0_0, .slice A0_1 l0_1.length c0_1], .slice A1 l1.length c1] rfl zs_ ?_; (with_reducible refine (spec_l04Do.calls k1 _ _ l0_0 _ _ l0_1 _ _ l1 t823 t826 t829 t830 _ ?side1 ?side2 ?side3 ?side4 ?side5 ?side6 A37.out).mono ?_); (case side1 => exact zc_ (Kd.C_below HR0_0.out HB.out)); (case side2 => exact HC0_0.out); (case side3 => exact zc_ (Kd.C_below HR0_1.out HB.out)); (case side4 => exact HC0_1.out); (case side5 => exact zc_ (Kd.C_below HR1.out HB.out)); (case side6 => exact HC1.out); rintro e w40 ⟨v824, v827, rfl, ho0, ho1, hb⟩; refine ⟨_, rfl, ?_⟩; have n0_ := Aside0.mk (Kd.R_lower ho0 (below_size (zg2_ HB.out GE785.out GE786.out))); have n1_ := Aside0.mk (Kd.R_lower ho1 (below_size (zg2_ HB.out GE785.out GE786.out))); have n2_ := Aside0.mk (blk_below (g := gb785) (o := .cells #[.slice A0_0 l0_0.length c0_0, .slice A0_1 l0_1.length c0_1] 30 (0, 0)) (zb_ BK785.out) hb); have n3_ := Aside0.mk (blk_below (g := gb786) (o := .cells #[.slice none 0 0, .slice none 0 0, .string x787002_1, .int .i64 x787003_1] 35 (0, 0)) (zb_ BK786.out) hb); have n4_ := Aside0.mk (below_step (zg2_ HB.out GE785.out GE786.out) hb); clear BK785; clear BK786; clear HB; have HO825 := n0_; have HO828 := n1_; have BK785 := n2_; have BK786 := n3_; have HB := n4_; clear n0_ n1_ n2_ n3_ n4_; (try clear hb); (try clear hb2); (try clear hk); (try clear hi); (try clear ho0); (try clear ho1); obtain ⟨Ao41, co41, eo41⟩ := Kd.R_slice HO825.out; subst eo41; have hcz42_0 : w40.cell? ⟨gb786, 0, none⟩ = some (.slice none 0 0) := (blk_cell BK786.out 0).trans rfl; have hcz42_1 : w40.cell? ⟨gb786, 1, none⟩ = some (.slice none 0 0) := (blk_cell BK786.out 1).trans rfl; have hcz42_2 : w40.cell? ⟨gb786, 2, none⟩ = some (.string x787002_1) := (blk_cell BK786.out 2).trans rfl; have hcz42_3 : w40.cell? ⟨gb786, 3, none⟩ = some (.int .i64 x787003_1) := (blk_cell BK786.out 3).trans rfl; have hfz42_0 := blk_frozen BK786.out 0; have hfz42_1 := blk_frozen BK786.out 1; have hfz42_2 := blk_frozen BK786.out 2; have hfz42_3 := blk_frozen BK786.out 3; obtain ⟨Ao43, co43, eo43⟩ := Kd.R_slice HO828.out; subst eo43))
      refine bodyPost_ret (results_cell_row rfl _ _ gb786 35 #[.slice Ao41 t823.length co41, .slice Ao43 t826.length co43, .string t829, .int .i64 t830] (0, 0) _ rfl (by (with_reducible repeat (first | refine blk_drewN ?_ _ | refine blk_drew ?_ | refine blk_alloc ?_ _)); refine blk_put (cs := #[.slice Ao41 t823.length co41, .slice Ao43 t826.length co43, .string t829, .int .i64 x787003_1]) ?_ 3 _ rfl; (with_reducible repeat (first | refine blk_drewN ?_ _ | refine blk_drew ?_ | refine blk_alloc ?_ _)); refine blk_put (cs := #[.slice Ao41 t823.length co41, .slice Ao43 t826.length co43, .string x787002_1, .int .i64 x787003_1]) ?_ 2 _ rfl; (with_reducible repeat (first | refine blk_drewN ?_ _ | refine blk_drew ?_ | refine blk_alloc ?_ _)); refine blk_put (cs := #[.slice Ao41 t823.length co41, .slice none 0 0, .string x787002_1, .int .i64 x787003_1]) ?_ 1 _ rfl; (with_reducible repeat (first | refine blk_drewN ?_ _ | refine blk_drew ?_ | refine blk_alloc ?_ _)); refine blk_put (cs := #[.slice none 0 0, .slice none 0 0, .string x787002_1, .int .i64 x787003_1]) ?_ 0 _ rfl; (with_reducible repeat (first | refine blk_drewN ?_ _ | refine blk_drew ?_ | refine blk_alloc ?_ _)); exact BK786.out) Try.underlying35 rfl (by kernel_rfl)) rfl ?_
      exact ⟨_, _, by first | rfl | (simp [errW_none, errW_some] <;> rfl) | (simp [*, errW_none, errW_some] <;> rfl), by (with_reducible repeat (first | apply Kd.R_alloc | apply Kd.R_drewN | apply Kd.R_drew)); exact Kd.R_mono (Kd.R_far (p := ⟨gb786, 3, none⟩) (Kd.R_far (p := ⟨gb786, 2, none⟩) (Kd.R_far (p := ⟨gb786, 1, none⟩) (Kd.R_far (p := ⟨gb786, 0, none⟩) (Kd.R_types HO825.out BK786.out (by decide)) (fun _ hk => hk.2) (.slice Ao41 t823.length co41)) (fun _ hk => hk.2) (.slice Ao43 t826.length co43)) (fun _ hk => hk.2) (.string t829)) (fun _ hk => hk.2) (.int .i64 t830)) (fun _ hk => trivial), by (with_reducible repeat (first | apply Kd.R_alloc | apply Kd.R_drewN | apply Kd.R_drew)); exact Kd.R_mono (Kd.R_far (p := ⟨gb786, 3, none⟩) (Kd.R_far (p := ⟨gb786, 2, none⟩) (Kd.R_far (p := ⟨gb786, 1, none⟩) (Kd.R_far (p := ⟨gb786, 0, none⟩) (Kd.R_types HO828.out BK786.out (by decide)) (fun _ hk => hk.2) (.slice Ao41 t823.length co41)) (fun _ hk => hk.2) (.slice Ao43 t826.length co43)) (fun _ hk => hk.2) (.string t829)) (fun _ hk => hk.2) (.int .i64 t830)) (fun _ hk => trivial), by repeat (first | (with_reducible first | exact HB.out | apply below_alloc | apply pw_below_drewN | apply below_drew1 | refine below_set ?_ GE785.out | refine below_set ?_ GE786.out) | exact HB.out)⟩
  ·
   replace c13 := Bool.eq_false_iff.mpr c13
   subst c13
   have H1 : ((spec_l03Ill.f 1).bind fun bt796 => (some (bt796.1, bt796.2.1, bt796.2.2.1, bt796.2.2.2))) = some (r1, r2, r3, r4) := by rw [if_neg (show ¬ (false = true) by decide)] at H; exact H
   clear H
   have H := H1
   clear H1
   replace H := Option.bind_eq_some_iff.mp H
   obtain ⟨⟨t796, t799, t802, t803⟩, A440, H⟩ := H
   replace H : (some (t796, t799, t802, t803)) = some (r1, r2, r3, r4) := H
   have A44 := Aside0.mk A440
   clear A440
   simp only [Option.some.injEq, Prod.mk.injEq] at H
   obtain ⟨rfl, rfl, rfl, rfl⟩ := H
   go_enter Try.func39, Try.ntmps39
   go_wp2_with (first | ((with_reducible refine gate_dst (N := 2) rfl ?_); refine box_event ?hg (N := 2) ?hd (cs := #[.slice A0_0 l0_0.length c0_0, .slice A0_1 l0_1.length c0_1]) (t := 30) ?hr ?_; (case hd => rfl); (case hg => rfl); (case hr => first | (go_simp; done) | (go_simp; rfl)); intro gb785 hg w45 hbox hb; have n0_ := Aside0.mk (below_step (zh_ HB.out) hb); have n1_ := Aside0.mk (hbox); have n2_ := Aside0.mk ((by rw [hg]; exact (below_size (zh_ HB.out)) : w.heap.size ≤ gb785)); have n3_ := Aside0.mk ((by rw [hg]; exact (below_size (zh_ HB.out)) : w.heap.size ≤ gb785)); clear HB; have HB := n0_; have BK785 := n1_; have GW785 := n2_; have GE785 := n3_; clear n0_ n1_ n2_ n3_; clear hb hbox hg) | ((with_reducible refine gate_dst (N := 4) rfl ?_); refine box_event ?hg (N := 4) ?hd (cs := #[.slice none 0 0, .slice none 0 0, .string (⟨#[]⟩ : ByteArray), .int .i64 0]) (t := 35) ?hr ?_; (case hd => rfl); (case hg => rfl); (case hr => first | (go_simp; done) | (go_simp; rfl)); intro gb786 hg w46 hbox hb; have n0_ := Aside0.mk (blk_below (g := gb785) (o := .cells #[.slice A0_0 l0_0.length c0_0, .slice A0_1 l0_1.length c0_1] 30 (0, 0)) (zb_ BK785.out) hb); have n1_ := Aside0.mk (below_step (zg1_ HB.out GE785.out) hb); have n2_ := Aside0.mk (hbox); have n3_ := Aside0.mk ((by rw [hg]; exact (below_size (zg1_ HB.out GE785.out)) : w.heap.size ≤ gb786)); have n4_ := Aside0.mk ((by rw [hg]; exact (below_size (zg1_ HB.out GE785.out)) : w.heap.size ≤ gb786)); have n5_ := Aside0.mk ((by rw [hg]; exact Nat.ne_of_lt (blk_lt (g := gb785) (o := .cells #[.slice A0_0 l0_0.length c0_0, .slice A0_1 l0_1.length c0_1] 30 (0, 0)) (zb_ BK785.out)) : gb785 ≠ gb786)); have n6_ := Aside0.mk ((by rw [hg]; exact Nat.ne_of_gt (blk_lt (g := gb785) (o := .cells #[.slice A0_0 l0_0.length c0_0, .slice A0_1 l0_1.length c0_1] 30 (0, 0)) (zb_ BK785.out)) : gb786 ≠ gb785)); clear BK785; clear HB; have BK785 := n0_; have HB := n1_; have BK786 := n2_; have GW786 := n3_; have GE786 := n4_; have NB785_786 := n5_; have NB786_785 := n6_; clear n0_ n1_ n2_ n3_ n4_ n5_ n6_; clear hb hbox hg; have hnb47 := NB785_786.out; have hnc47 := NB786_785.out; have hcz48_0 : w46.cell? ⟨gb785, 0, none⟩ = some (.slice A0_0 l0_0.length c0_0) := (blk_cell BK785.out 0).trans rfl; have hcz48_1 : w46.cell? ⟨gb785, 1, none⟩ = some (.slice A0_1 l0_1.length c0_1) := (blk_cell BK785.out 1).trans rfl; have hfz48_0 := blk_frozen BK785.out 0; have hfz48_1 := blk_frozen BK785.out 1) | ((with_reducible refine gate_callee (f := 15) rfl ?_); refine goesL_ (some 11) rfl rfl Try.func15 (by kernel_rfl) rfl #[.agg #[.slice A0_0 l0_0.length c0_0, .slice A0_1 l0_1.length c0_1]] rfl zs_ ?_; (with_reducible refine (spec_FlashRight.calls k _ _ l0_0 _ _ l0_1 false _ ?side1 ?side2 ?side3 ?side4 A12.out).mono ?_); (case side1 => exact zc_ (Kd.C_below HR0_0.out HB.out)); (case side2 => exact HC0_0.out); (case side3 => exact zc_ (Kd.C_below HR0_1.out HB.out)); (case side4 => exact HC0_1.out); rintro e w49 ⟨rfl, hb⟩; refine ⟨_, rfl, ?_⟩; have n0_ := Aside0.mk (blk_below (g := gb785) (o := .cells #[.slice A0_0 l0_0.length c0_0, .slice A0_1 l0_1.length c0_1] 30 (0, 0)) (zb_ BK785.out) hb); have n1_ := Aside0.mk (blk_below (g := gb786) (o := .cells #[.slice none 0 0, .slice none 0 0, .string (⟨#[]⟩ : ByteArray), .int .i64 0] 35 (0, 0)) (zb_ BK786.out) hb); have n2_ := Aside0.mk (below_step (zg2_ HB.out GE785.out GE786.out) hb); clear BK785; clear BK786; clear HB; have BK785 := n0_; have BK786 := n1_; have HB := n2_; clear n0_ n1_ n2_; (try clear hb); (try clear hb2); (try clear hk); (try clear hi)) | ((with_reducible refine gate_callee (f := 77) rfl ?_); refine goesL_ (some 13) rfl rfl Try.func77 (by kernel_rfl) rfl #[.int .i64 1] rfl zs_ ?_; (with_reducible refine (spec_l03Ill.calls 1 t796 t799 t802 t803 _ A44.out).mono ?_); rintro e w50 ⟨v797, v800, rfl, ho0, ho1, hb⟩; refine ⟨_, rfl, ?_⟩; have n0_ := Aside0.mk (Kd.R_lower ho0 (below_size (zg2_ HB.out GE785.out GE786.out))); have n1_ := Aside0.mk (Kd.R_lower ho1 (below_size (zg2_ HB.out GE785.out GE786.out))); have n2_ := Aside0.mk (blk_below (g := gb785) (o := .cells #[.slice A0_0 l0_0.length c0_0, .slice A0_1 l0_1.length c0_1] 30 (0, 0)) (zb_ BK785.out) hb); have n3_ := Aside0.mk (blk_below (g := gb786) (o := .cells #[.slice none 0 0, .slice none 0 0, .string (⟨#[]⟩ : ByteArray), .int .i64 0] 35 (0, 0)) (zb_ BK786.out) hb); have n4_ := Aside0.mk (below_step (zg2_ HB.out GE785.out GE786.out) hb); clear BK785; clear BK786; clear HB; have HO798 := n0_; have HO801 := n1_; have BK785 := n2_; have BK786 := n3_; have HB := n4_; clear n0_ n1_ n2_ n3_ n4_; (try clear hb); (try clear hb2); (try clear hk); (try clear hi); (try clear ho0); (try clear ho1); obtain ⟨Ao51, co51, eo51⟩ := Kd.R_slice HO798.out; subst eo51; have hcz52_0 : w50.cell? ⟨gb786, 0, none⟩ = some (.slice none 0 0) := (blk_cell BK786.out 0).trans rfl; have hcz52_1 : w50.cell? ⟨gb786, 1, none⟩ = some (.slice none 0 0) := (blk_cell BK786.out 1).trans rfl; have hcz52_2 : w50.cell? ⟨gb786, 2, none⟩ = some (.string (⟨#[]⟩ : ByteArray)) := (blk_cell BK786.out 2).trans rfl; have hcz52_3 : w50.cell? ⟨gb786, 3, none⟩ = some (.int .i64 0) := (blk_cell BK786.out 3).trans rfl; have hfz52_0 := blk_frozen BK786.out 0; have hfz52_1 := blk_frozen BK786.out 1; have hfz52_2 := blk_frozen BK786.out 2; have hfz52_3 := blk_frozen BK786.out 3; obtain ⟨Ao53, co53, eo53⟩ := Kd.R_slice HO801.out; subst eo53))
   refine bodyPost_ret (results_cell_row rfl _ _ gb786 35 #[.slice Ao51 t796.length co51, .slice Ao53 t799.length co53, .string t802, .int .i64 t803] (0, 0) _ rfl (by (with_reducible repeat (first | refine blk_drewN ?_ _ | refine blk_drew ?_ | refine blk_alloc ?_ _)); refine blk_put (cs := #[.slice Ao51 t796.length co51, .slice Ao53 t799.length co53, .string t802, .int .i64 0]) ?_ 3 _ rfl; (with_reducible repeat (first | refine blk_drewN ?_ _ | refine blk_drew ?_ | refine blk_alloc ?_ _)); refine blk_put (cs := #[.slice Ao51 t796.length co51, .slice Ao53 t799.length co53, .string (⟨#[]⟩ : ByteArray), .int .i64 0]) ?_ 2 _ rfl; (with_reducible repeat (first | refine blk_drewN ?_ _ | refine blk_drew ?_ | refine blk_alloc ?_ _)); refine blk_put (cs := #[.slice Ao51 t796.length co51, .slice none 0 0, .string (⟨#[]⟩ : ByteArray), .int .i64 0]) ?_ 1 _ rfl; (with_reducible repeat (first | refine blk_drewN ?_ _ | refine blk_drew ?_ | refine blk_alloc ?_ _)); refine blk_put (cs := #[.slice none 0 0, .slice none 0 0, .string (⟨#[]⟩ : ByteArray), .int .i64 0]) ?_ 0 _ rfl; (with_reducible repeat (first | refine blk_drewN ?_ _ | refine blk_drew ?_ | refine blk_alloc ?_ _)); exact BK786.out) Try.underlying35 rfl (by kernel_rfl)) rfl ?_
   exact ⟨_, _, by first | rfl | (simp [errW_none, errW_some] <;> rfl) | (simp [*, errW_none, errW_some] <;> rfl), by (with_reducible repeat (first | apply Kd.R_alloc | apply Kd.R_drewN | apply Kd.R_drew)); exact Kd.R_mono (Kd.R_far (p := ⟨gb786, 3, none⟩) (Kd.R_far (p := ⟨gb786, 2, none⟩) (Kd.R_far (p := ⟨gb786, 1, none⟩) (Kd.R_far (p := ⟨gb786, 0, none⟩) (Kd.R_types HO798.out BK786.out (by decide)) (fun _ hk => hk.2) (.slice Ao51 t796.length co51)) (fun _ hk => hk.2) (.slice Ao53 t799.length co53)) (fun _ hk => hk.2) (.string t802)) (fun _ hk => hk.2) (.int .i64 t803)) (fun _ hk => trivial), by (with_reducible repeat (first | apply Kd.R_alloc | apply Kd.R_drewN | apply Kd.R_drew)); exact Kd.R_mono (Kd.R_far (p := ⟨gb786, 3, none⟩) (Kd.R_far (p := ⟨gb786, 2, none⟩) (Kd.R_far (p := ⟨gb786, 1, none⟩) (Kd.R_far (p := ⟨gb786, 0, none⟩) (Kd.R_types HO801.out BK786.out (by decide)) (fun _ hk => hk.2) (.slice Ao51 t796.length co51)) (fun _ hk => hk.2) (.slice Ao53 t799.length co53)) (fun _ hk => hk.2) (.string t802)) (fun _ hk => hk.2) (.int .i64 t803)) (fun _ hk => trivial), by repeat (first | (with_reducible first | exact HB.out | apply below_alloc | apply pw_below_drewN | apply below_drew1 | refine below_set ?_ GE785.out | refine below_set ?_ GE786.out) | exact HB.out)⟩

/-! ### laws_toAct: function 98 -/
def laws_toAct.f (a0_0 : Bool) (a0_1 : Int) (a0_2 : ByteArray) : Option (Bool × Int × ByteArray) := some (a0_0, a0_1, a0_2)
set_option maxHeartbeats 8000000 in
set_option maxRecDepth 100000 in
theorem laws_toAct.calls (a0_0 : Bool) (a0_1 : Int) (a0_2 : ByteArray) (r1 : Bool) (r2 : Int) (r3 : ByteArray) (w : World) (h : laws_toAct.f a0_0 a0_1 a0_2 = some (r1, r2, r3)) :
  Calls Try.prog 98 #[.agg #[.bool a0_0, .int .i64 a0_1, .string a0_2]] w fun e w' => e = .returned (.agg #[.bool r1, .int .i64 r2, .string r3]) ∧ Below w.heap.size w w' := by
 have hu115 := Try.underlying115
 have hu116 := Try.underlying116
 have HB := Aside0.mk (Below.refl w.heap.size w)
 have H : (some (a0_0, a0_1, a0_2)) = some (r1, r2, r3) := h
 clear h
 simp only [Option.some.injEq, Prod.mk.injEq] at H
 obtain ⟨rfl, rfl, rfl⟩ := H
 go_enter Try.func98, Try.ntmps98
 go_wp2_with (first | ((with_reducible refine gate_dst (N := 1) rfl ?_); refine box_event ?hg (N := 1) ?hd (cs := #[.bool a0_0, .int .i64 a0_1, .string a0_2]) (t := 115) ?hr ?_; (case hd => rfl); (case hg => rfl); (case hr => first | (go_simp; done) | (go_simp; rfl)); intro gb831 hg w2 hbox hb; have n0_ := Aside0.mk (below_step (zh_ HB.out) hb); have n1_ := Aside0.mk (hbox); have n2_ := Aside0.mk ((by rw [hg]; exact (below_size (zh_ HB.out)) : w.heap.size ≤ gb831)); have n3_ := Aside0.mk ((by rw [hg]; exact (below_size (zh_ HB.out)) : w.heap.size ≤ gb831)); clear HB; have HB := n0_; have BK831 := n1_; have GW831 := n2_; have GE831 := n3_; clear n0_ n1_ n2_ n3_; clear hb hbox hg) | ((with_reducible refine gate_dst (N := 2) rfl ?_); refine box_event ?hg (N := 2) ?hd (cs := #[.bool false, .int .i64 0, .string (⟨#[]⟩ : ByteArray)]) (t := 116) ?hr ?_; (case hd => rfl); (case hg => rfl); (case hr => first | (go_simp; done) | (go_simp; rfl)); intro gb832 hg w3 hbox hb; have n0_ := Aside0.mk (blk_below (g := gb831) (o := .cells #[.bool a0_0, .int .i64 a0_1, .string a0_2] 115 (0, 0)) (zb_ BK831.out) hb); have n1_ := Aside0.mk (below_step (zg1_ HB.out GE831.out) hb); have n2_ := Aside0.mk (hbox); have n3_ := Aside0.mk ((by rw [hg]; exact (below_size (zg1_ HB.out GE831.out)) : w.heap.size ≤ gb832)); have n4_ := Aside0.mk ((by rw [hg]; exact (below_size (zg1_ HB.out GE831.out)) : w.heap.size ≤ gb832)); have n5_ := Aside0.mk ((by rw [hg]; exact Nat.ne_of_lt (blk_lt (g := gb831) (o := .cells #[.bool a0_0, .int .i64 a0_1, .string a0_2] 115 (0, 0)) (zb_ BK831.out)) : gb831 ≠ gb832)); have n6_ := Aside0.mk ((by rw [hg]; exact Nat.ne_of_gt (blk_lt (g := gb831) (o := .cells #[.bool a0_0, .int .i64 a0_1, .string a0_2] 115 (0, 0)) (zb_ BK831.out)) : gb832 ≠ gb831)); clear BK831; clear HB; have BK831 := n0_; have HB := n1_; have BK832 := n2_; have GW832 := n3_; have GE832 := n4_; have NB831_832 := n5_; have NB832_831 := n6_; clear n0_ n1_ n2_ n3_ n4_ n5_ n6_; clear hb hbox hg) | ((with_reducible refine gate_dst (N := 3) rfl ?_); refine box_event ?hg (N := 3) ?hd (cs := #[.bool false, .int .i64 0, .string (⟨#[]⟩ : ByteArray)]) (t := 116) ?hr ?_; (case hd => rfl); (case hg => rfl); (case hr => first | (go_simp; done) | (go_simp; rfl)); intro gb833 hg w4 hbox hb; have n0_ := Aside0.mk (blk_below (g := gb831) (o := .cells #[.bool a0_0, .int .i64 a0_1, .string a0_2] 115 (0, 0)) (zb_ BK831.out) hb); have n1_ := Aside0.mk (blk_below (g := gb832) (o := .cells #[.bool false, .int .i64 0, .string (⟨#[]⟩ : ByteArray)] 116 (0, 0)) (zb_ BK832.out) hb); have n2_ := Aside0.mk (below_step (zg2_ HB.out GE831.out GE832.out) hb); have n3_ := Aside0.mk (hbox); have n4_ := Aside0.mk ((by rw [hg]; exact (below_size (zg2_ HB.out GE831.out GE832.out)) : w.heap.size ≤ gb833)); have n5_ := Aside0.mk ((by rw [hg]; exact (below_size (zg2_ HB.out GE831.out GE832.out)) : w.heap.size ≤ gb833)); have n6_ := Aside0.mk ((by rw [hg]; exact Nat.ne_of_lt (blk_lt (g := gb831) (o := .cells #[.bool a0_0, .int .i64 a0_1, .string a0_2] 115 (0, 0)) (zb_ BK831.out)) : gb831 ≠ gb833)); have n7_ := Aside0.mk ((by rw [hg]; exact Nat.ne_of_gt (blk_lt (g := gb831) (o := .cells #[.bool a0_0, .int .i64 a0_1, .string a0_2] 115 (0, 0)) (zb_ BK831.out)) : gb833 ≠ gb831)); have n8_ := Aside0.mk ((by rw [hg]; exact Nat.ne_of_lt (blk_lt (g := gb832) (o := .cells #[.bool false, .int .i64 0, .string (⟨#[]⟩ : ByteArray)] 116 (0, 0)) (zb_ BK832.out)) : gb832 ≠ gb833)); have n9_ := Aside0.mk ((by rw [hg]; exact Nat.ne_of_gt (blk_lt (g := gb832) (o := .cells #[.bool false, .int .i64 0, .string (⟨#[]⟩ : ByteArray)] 116 (0, 0)) (zb_ BK832.out)) : gb833 ≠ gb832)); clear BK831; clear BK832; clear HB; have BK831 := n0_; have BK832 := n1_; have HB := n2_; have BK833 := n3_; have GW833 := n4_; have GE833 := n5_; have NB831_833 := n6_; have NB833_831 := n7_; have NB832_833 := n8_; have NB833_832 := n9_; clear n0_ n1_ n2_ n3_ n4_ n5_ n6_ n7_ n8_ n9_; clear hb hbox hg; have hnb5 := NB831_832.out; have hnc5 := NB832_831.out; have hnb6 := NB831_833.out; have hnc6 := NB833_831.out; have hcz7_0 : w4.cell? ⟨gb831, 0, none⟩ = some (.bool a0_0) := (blk_cell BK831.out 0).trans rfl; have hcz7_1 : w4.cell? ⟨gb831, 1, none⟩ = some (.int .i64 a0_1) := (blk_cell BK831.out 1).trans rfl; have hcz7_2 : w4.cell? ⟨gb831, 2, none⟩ = some (.string a0_2) := (blk_cell BK831.out 2).trans rfl; have hfz7_0 := blk_frozen BK831.out 0; have hfz7_1 := blk_frozen BK831.out 1; have hfz7_2 := blk_frozen BK831.out 2; have hnb8 := NB833_832.out; have hnc8 := NB832_833.out; have hcz9_0 : w4.cell? ⟨gb833, 0, none⟩ = some (.bool false) := (blk_cell BK833.out 0).trans rfl; have hcz9_1 : w4.cell? ⟨gb833, 1, none⟩ = some (.int .i64 0) := (blk_cell BK833.out 1).trans rfl; have hcz9_2 : w4.cell? ⟨gb833, 2, none⟩ = some (.string (⟨#[]⟩ : ByteArray)) := (blk_cell BK833.out 2).trans rfl; have hfz9_0 := blk_frozen BK833.out 0; have hfz9_1 := blk_frozen BK833.out 1; have hfz9_2 := blk_frozen BK833.out 2; have hcz10_0 : w4.cell? ⟨gb832, 0, none⟩ = some (.bool false) := (blk_cell BK832.out 0).trans rfl; have hcz10_1 : w4.cell? ⟨gb832, 1, none⟩ = some (.int .i64 0) := (blk_cell BK832.out 1).trans rfl; have hcz10_2 : w4.cell? ⟨gb832, 2, none⟩ = some (.string (⟨#[]⟩ : ByteArray)) := (blk_cell BK832.out 2).trans rfl; have hfz10_0 := blk_frozen BK832.out 0; have hfz10_1 := blk_frozen BK832.out 1; have hfz10_2 := blk_frozen BK832.out 2))
 refine bodyPost_ret (results_cell_row rfl _ _ gb832 116 #[.bool a0_0, .int .i64 a0_1, .string a0_2] (0, 0) _ rfl (by (with_reducible repeat (first | refine blk_drewN ?_ _ | refine blk_drew ?_ | refine blk_alloc ?_ _)); refine blk_put (cs := #[.bool a0_0, .int .i64 a0_1, .string (⟨#[]⟩ : ByteArray)]) ?_ 2 _ rfl; (with_reducible repeat (first | refine blk_drewN ?_ _ | refine blk_drew ?_ | refine blk_alloc ?_ _)); refine blk_put (cs := #[.bool a0_0, .int .i64 0, .string (⟨#[]⟩ : ByteArray)]) ?_ 1 _ rfl; (with_reducible repeat (first | refine blk_drewN ?_ _ | refine blk_drew ?_ | refine blk_alloc ?_ _)); refine blk_put (cs := #[.bool false, .int .i64 0, .string (⟨#[]⟩ : ByteArray)]) ?_ 0 _ rfl; (with_reducible repeat (first | refine blk_drewN ?_ _ | refine blk_drew ?_ | refine blk_alloc ?_ _)); refine blk_far ?_ NB832_833.out _; (with_reducible repeat (first | refine blk_drewN ?_ _ | refine blk_drew ?_ | refine blk_alloc ?_ _)); refine blk_far ?_ NB832_833.out _; (with_reducible repeat (first | refine blk_drewN ?_ _ | refine blk_drew ?_ | refine blk_alloc ?_ _)); refine blk_far ?_ NB832_833.out _; (with_reducible repeat (first | refine blk_drewN ?_ _ | refine blk_drew ?_ | refine blk_alloc ?_ _)); exact BK832.out) Try.underlying116 rfl (by kernel_rfl)) rfl ?_
 exact ⟨by first | rfl | (simp [errW_none, errW_some] <;> rfl) | (simp [*, errW_none, errW_some] <;> rfl), by repeat (first | (with_reducible first | exact HB.out | apply below_alloc | apply pw_below_drewN | apply below_drew1 | refine below_set ?_ GE831.out | refine below_set ?_ GE832.out | refine below_set ?_ GE833.out) | exact HB.out)⟩

/-! ### laws_toActS: function 40 -/
def laws_toActS.l0 : Nat → List (S115) → List (S116) → Int → Option ((List (S116)))
 | 0, _, _, _ => none
 | k + 1, x0, x3, x4 => if x4 < (x0.length : Int) then (if 0 ≤ x4 then ((laws_toAct.f ((rd_T115 x0 x4).f0) ((rd_T115 x0 x4).f1) ((rd_T115 x0 x4).f2)).bind fun bt838 => (if x4 < (x3.length : Int) then (laws_toActS.l0 k x0 (x3.set (x4 : Int).toNat (⟨bt838.1, bt838.2.1, bt838.2.2⟩ : S116)) (wrap64 (x4 + 1))) else (none))) else (none)) else (some x3)
def laws_toActS.f (k : Nat) (l0 : List (S115)) : Option ((List (S116))) := if 0 ≤ (l0.length : Int) then (if ((l0.length : Int) : Int).toNat ≤ 8796093022208 then (laws_toActS.l0 k l0 (List.replicate ((l0.length : Int) : Int).toNat z116) 0) else (none)) else (none)
theorem laws_toActS.mono_l : ∀ k, (∀ y0 y1 y2, LeO (laws_toActS.l0 k y0 y1 y2) (laws_toActS.l0 (k + 1) y0 y1 y2))
 | 0 => fun _ _ _ r h => by simp [laws_toActS.l0] at h
 | k + 1 => by
  have ih0 := laws_toActS.mono_l k
  ·
   intro y0 y1 y2
   unfold laws_toActS.l0
   repeat' first
   | (with_reducible exact ih0 _ _ _)
   | (with_reducible exact LeO.refl _)
   | (with_reducible exact LeO.none _)
   | (with_reducible refine LeO.ite ?_ ?_)
   | (with_reducible refine LeO.bind ?_ (fun _ => ?_))
   | exact ih0 _ _ _
   | exact LeO.none _
   | refine LeO.ite ?_ ?_
   | refine LeO.bind ?_ (fun _ => ?_)
theorem laws_toActS.mono : ∀ a0 k, LeO (laws_toActS.f k a0) (laws_toActS.f (k + 1) a0) := by
 intro a0 k
 have ih0 := laws_toActS.mono_l k
 unfold laws_toActS.f
 repeat' first
   | (with_reducible exact ih0 _ _ _)
   | (with_reducible exact LeO.refl _)
   | (with_reducible exact LeO.none _)
   | (with_reducible refine LeO.ite ?_ ?_)
   | (with_reducible refine LeO.bind ?_ (fun _ => ?_))
   | exact ih0 _ _ _
   | exact LeO.none _
   | refine LeO.ite ?_ ?_
   | refine LeO.bind ?_ (fun _ => ?_)
set_option maxHeartbeats 8000000 in
set_option maxRecDepth 100000 in
theorem laws_toActS.calls (k : Nat) (A0 : Option Addr) (c0 : Nat) (l0 : List (S115)) (r : List (S116)) (w : World) (hr0 : Kd.C k115 w A0 l0.length l0) (hc0 : l0.length ≤ c0) (h : laws_toActS.f k l0 = some r) :
  Calls Try.prog 40 #[.slice A0 l0.length c0] w fun e w' => ∃ v0_ : Value, e = .returned (v0_) ∧ Kd.R k116 116 w' w.heap.size (fun _ => True) v0_ r ∧ Below w.heap.size w w' := by
 have hu115 := Try.underlying115
 have hu116 := Try.underlying116
 have HR0 := Aside0.mk hr0
 have HC0 := Aside0.mk hc0
 clear hr0 hc0
 have HB := Aside0.mk (Below.refl w.heap.size w)
 have H : (if 0 ≤ (l0.length : Int) then (if ((l0.length : Int) : Int).toNat ≤ 8796093022208 then (laws_toActS.l0 k l0 (List.replicate ((l0.length : Int) : Int).toNat z116) 0) else (none)) else (none)) = some r := h
 clear h
 by_cases c2 : 0 ≤ (l0.length : Int)
 ·
  rw [if_pos c2] at H
  have c2b0 := eq_true c2
  have c2b1 : decide (0 ≤ (l0.length : Int)) = true := decide_eq_true c2
  clear c2
  by_cases c3 : ((l0.length : Int) : Int).toNat ≤ 8796093022208
  ·
   rw [if_pos c3] at H
   have c3b0 := eq_true c3
   have c3b1 : decide (((l0.length : Int) : Int).toNat ≤ 8796093022208) = true := decide_eq_true c3
   clear c3
   obtain ⟨y834, hy834⟩ : ∃ y_ : List (S116), y_ = (List.replicate ((l0.length : Int) : Int).toNat z116) := ⟨_, rfl⟩
   replace H : (laws_toActS.l0 k l0 y834 0) = some r := by first | (rw [hy834]; with_reducible exact H) | (have H2_ := (Option.bind_some _ _).symm.trans H; rw [hy834]; with_reducible exact H2_) | (have H2_ := (Option.bind_some _ _).symm.trans H; with_reducible exact H2_) | with_reducible exact H | (rw [hy834]; exact H) | exact H
   have Ny834 := Aside0.mk hy834
   clear hy834
   have H' := Aside0.mk H
   clear H
   go_enter Try.func40, Try.ntmps40
   go_wp2_with (first | ((with_reducible refine gate_dst (N := 7) rfl ?_); refine Kd.R_make k116 _ 116 rfl (N := 7) rfl 58 _ _ rfl (l0.length : Int) rfl rfl Try.underlying58 (.agg #[(.bool false), (.int .i64 0), (.string ⟨#[]⟩)]) 32 info116 rfl (by decide) (by omega) z116 (ok := fun _ => True) (okp := fun _ => True) (k116_mkM _ _ _ z116 ) (fun _ hk => hk) trivial (of_decide_eq_true (by first | (with_reducible assumption) | assumption)) (Nat.le_trans (Nat.mul_le_mul_right _ (of_decide_eq_true (by first | (with_reducible assumption) | assumption) : (l0.length : Int).toNat ≤ 8796093022208)) (by omega)) (Below.refl _ _) (Nat.le_refl _) ?_; intro v835 w4 ho5 hb hg_ hnew_; clear hg_ hnew_; (first | rw [← Ny834.out] at ho5 | (simp only [Int.reduceToNat] at ho5; rw [← Ny834.out] at ho5)); have n0_ := Aside0.mk (Kd.R_lower ho5 (below_size (zh_ HB.out))); have n1_ := Aside0.mk (below_step (zh_ HB.out) hb); clear HB; have HO836 := n0_; have HB := n1_; clear n0_ n1_; clear hb ho5))
   go_loopg [4] k (fun kq v4 w' => ∃ (x3_1 : List (S116)) (x4_1 : Int), v4 = .int .i64 x4_1 ∧ Aside0 (laws_toActS.l0 kq l0 x3_1 x4_1 = some r) ∧ Aside0 (kq ≤ k) ∧ Aside0 (Kd.R k116 116 w' w.heap.size (fun _ => True) v835 x3_1) ∧ Aside0 (Below w.heap.size w w'))
   case atStart => exact ⟨(y834), (0), (by first | rfl | (simp; done) | (simp [*]; done)), H', ⟨Nat.le_refl _⟩, ⟨zr_ HO836.out⟩, ⟨zh_ HB.out⟩⟩
   case round =>
    clear H'
    try clear c2
    try clear c2b0
    try clear c2b1
    try clear p2
    try clear c3
    try clear c3b0
    try clear c3b1
    try clear c4
    obtain ⟨x3_1, x4_1, rfl, HA, HK1, HO_3, HB⟩ := hrel
    cases gk with
    | zero => exact absurd HA.out (by simp [laws_toActS.l0])
    | succ k1 =>
     have H := HA.out
     clear HA
     simp only [laws_toActS.l0] at H
     by_cases c6 : x4_1 < (l0.length : Int)
     ·
      rw [if_pos c6] at H
      have c6b0 : decide (x4_1 < (l0.length : Int)) = true := decide_eq_true c6
      clear c6
      by_cases c7 : 0 ≤ x4_1
      ·
       rw [if_pos c7] at H
       have c7b0 : decide (0 ≤ x4_1) = true := decide_eq_true c7
       clear c7
       replace H := Option.bind_eq_some_iff.mp H
       obtain ⟨⟨t838, t839, t840⟩, A80, H⟩ := H
       replace H : (if x4_1 < (x3_1.length : Int) then (laws_toActS.l0 k1 l0 (x3_1.set (x4_1 : Int).toNat (⟨t838, t839, t840⟩ : S116)) (wrap64 (x4_1 + 1))) else (none)) = some r := H
       have A8 := Aside0.mk A80
       clear A80
       by_cases c9 : x4_1 < (x3_1.length : Int)
       ·
        rw [if_pos c9] at H
        have c9b0 : decide (x4_1 < (x3_1.length : Int)) = true := decide_eq_true c9
        clear c9
        obtain ⟨y841, hy841⟩ : ∃ y_ : List (S116), y_ = (x3_1.set (x4_1 : Int).toNat (⟨t838, t839, t840⟩ : S116)) := ⟨_, rfl⟩
        replace H : (laws_toActS.l0 k1 l0 y841 (wrap64 (x4_1 + 1))) = some r := by first | (rw [hy841]; with_reducible exact H) | (have H2_ := (Option.bind_some _ _).symm.trans H; rw [hy841]; with_reducible exact H2_) | (have H2_ := (Option.bind_some _ _).symm.trans H; with_reducible exact H2_) | with_reducible exact H | (rw [hy841]; exact H) | exact H
        have Ny841 := Aside0.mk hy841
        clear hy841
        have H' := Aside0.mk H
        clear H
        have p837 : 0 ≤ (x4_1 : Int) := of_decide_eq_true (by first | (with_reducible assumption) | assumption)
        have q837 : x4_1 < (l0.length : Int) := of_decide_eq_true (by first | (with_reducible assumption) | assumption)
        obtain ⟨ad837, e837, hx837_0, hx837_1, hx837_2⟩ := at_T115 HR0.out x4_1 p837 q837
        cases e837
        replace hx837_0 := (HB.out.cell (World.block_lt_of_cell? _ _ hx837_0)).trans hx837_0
        replace hx837_1 := (HB.out.cell (World.block_lt_of_cell? _ _ hx837_1)).trans hx837_1
        replace hx837_2 := (HB.out.cell (World.block_lt_of_cell? _ _ hx837_2)).trans hx837_2
        replace p837 := eq_true p837
        replace q837 := eq_true q837
        go_wp2_with (first | ((with_reducible refine gate_callee (f := 98) rfl ?_); refine goesL_ (some 20) rfl rfl Try.func98 (by kernel_rfl) rfl #[.agg #[.bool ((rd_T115 l0 x4_1).f0), .int .i64 ((rd_T115 l0 x4_1).f1), .string ((rd_T115 l0 x4_1).f2)]] rfl zs_ ?_; (with_reducible refine (laws_toAct.calls ((rd_T115 l0 x4_1).f0) ((rd_T115 l0 x4_1).f1) ((rd_T115 l0 x4_1).f2) t838 t839 t840 _ A8.out).mono ?_); rintro e w11 ⟨rfl, hb⟩; refine ⟨_, rfl, ?_⟩; have n0_ := Aside0.mk (Kd.R_below (zr_ HO_3.out) hb); have n1_ := Aside0.mk (below_step (zh_ HB.out) hb); clear HO_3; clear HB; have HO_3 := n0_; have HB := n1_; clear n0_ n1_; (try clear hb); (try clear hb2); (try clear hk); (try clear hi); have p10 : 0 ≤ (x4_1 : Int) := of_decide_eq_true (by first | (with_reducible assumption) | assumption); have q10 : (x4_1 : Int) < ((x3_1.length : Int) : Int) := of_decide_eq_true (by first | (with_reducible assumption) | assumption); obtain ⟨go10, co10, eo10, gb10, gl10, cl10, HG10⟩ := Kd.R_form HO_3.out (by omega); (first | cases eo10 | (injection eo10 with ea_ en_ ec_; (first | subst ea_ | (injection ea_ with ea_; subst ea_)); subst ec_; clear en_)); have GB10 := Aside0.mk gb10; have GG10 := Aside0.mk HG10; clear gb10 gl10 HG10; obtain ⟨ce10, hcl10, hM10, hcc10, hfr10⟩ := Kd.R_elem HO_3.out z116 (x4_1 : Int) p10 q10; obtain rfl := k116_openM hM10; have hx10_0 : w11.cell? ⟨go10, (x4_1 : Int).toNat * 3, none⟩ = some (.bool ((rd_T116 x3_1 x4_1).f0)) := hcc10 0 _ rfl; have hx10_1 : w11.cell? ⟨go10, (x4_1 : Int).toNat * 3 + 1, none⟩ = some (.int .i64 ((rd_T116 x3_1 x4_1).f1)) := hcc10 1 _ rfl; have hx10_2 : w11.cell? ⟨go10, (x4_1 : Int).toNat * 3 + 2, none⟩ = some (.string ((rd_T116 x3_1 x4_1).f2)) := hcc10 2 _ rfl; have hf10_0 : w11.frozen? ⟨go10, (x4_1 : Int).toNat * 3, none⟩ = false := hfr10 0; have hf10_1 : w11.frozen? ⟨go10, (x4_1 : Int).toNat * 3 + 1, none⟩ = false := hfr10 1; have hf10_2 : w11.frozen? ⟨go10, (x4_1 : Int).toNat * 3 + 2, none⟩ = false := hfr10 2; clear hcl10 hcc10 hfr10 hM10; replace p10 := eq_true p10; replace q10 := eq_true q10; have HX12 := Aside0.mk (show Kd.R k116 116 w11 w.heap.size (fun _ => True) (.slice (some ⟨go10, 0, none⟩) x3_1.length co10) x3_1 from (zr_ HO_3.out)); obtain ⟨ce12, hcl12, hM12, hcc12, hfr12⟩ := Kd.R_elem HX12.out z116 (x4_1 : Int) (of_decide_eq_true (by first | (with_reducible assumption) | assumption)) (by have h_ : (x4_1 : Int) < ((x3_1.length : Int) : Int) := of_decide_eq_true (by first | (with_reducible assumption) | assumption); first | exact h_ | (have e_ := (Kd.R_reads' HO_3.out).1; omega) | simpa using h_); obtain rfl := k116_openM hM12; have HP12 := Kd.R_seg HX12.out (x4_1 : Int) (of_decide_eq_true (by first | (with_reducible assumption) | assumption)) (by have h_ : (x4_1 : Int) < ((x3_1.length : Int) : Int) := of_decide_eq_true (by first | (with_reducible assumption) | assumption); first | exact h_ | (have e_ := (Kd.R_reads' HO_3.out).1; omega) | simpa using h_) (seg := [.bool t838, .int .i64 t839, .string t840]) (j := 0) hcl12 hcc12 (show 3 ≤ 3 from by decide) (x' := (⟨t838, t839, t840⟩ : S116)) (k116_mkM _ _ _ (⟨t838, t839, t840⟩ : S116) ) (fun _ hk => hk); have hx12_0 := hcc12 0 _ rfl; (try simp only [show (k116).sz = 3 from rfl, Nat.mul_one, Nat.add_zero] at hx12_0); have hf12_0 := hfr12 0; (try simp only [show (k116).sz = 3 from rfl, Nat.mul_one, Nat.add_zero] at hf12_0); have hx12_1 := hcc12 1 _ rfl; (try simp only [show (k116).sz = 3 from rfl, Nat.mul_one, Nat.add_zero] at hx12_1); have hf12_1 := hfr12 1; (try simp only [show (k116).sz = 3 from rfl, Nat.mul_one, Nat.add_zero] at hf12_1); have hx12_2 := hcc12 2 _ rfl; (try simp only [show (k116).sz = 3 from rfl, Nat.mul_one, Nat.add_zero] at hx12_2); have hf12_2 := hfr12 2; (try simp only [show (k116).sz = 3 from rfl, Nat.mul_one, Nat.add_zero] at hf12_2); clear hcl12 hcc12 hfr12 hM12) | ((with_reducible refine gate_store (t := 116) (p := 21) rfl ?_); refine store_event (t := 116) (p := 21) (v := ?vo_w13) (w1 := (((w11.setCell ⟨go10, (x4_1 : Int).toNat * 3, none⟩ (.bool t838)).setCell ⟨go10, (x4_1 : Int).toNat * 3 + 1, none⟩ (.int .i64 t839)).setCell ⟨go10, (x4_1 : Int).toNat * 3 + 2, none⟩ (.string t840))) ?hg ?ho ?hn ?hr ?_; (case ho => rfl); (case hg => rfl); (case hn => rfl); (case hr => first | (go_simp; done) | (go_simp; rfl) | (have hq_ := HQ_.out; subst hq_; go_simp; done) | (have hq_ := HQ_.out; subst hq_; go_simp; rfl)); intro w13 hw; have hg : w11.grownBy w13 (some go10) := (by rw [hw]; exact HP12.2); have hp_ : Kd.R k116 116 w13 w.heap.size (fun _ => True) (.slice (some ⟨go10, 0, none⟩) x3_1.length co10) y841 := (by rw [hw, Ny841.out]; exact HP12.1); clear HP12; have n0_ := Aside0.mk (hp_); have n1_ := Aside0.mk ((by rw [hw]; exact below_set (below_set (below_set (HB.out) GB10.out) GB10.out) GB10.out : Below w.heap.size w w13)); clear HO_3; clear HB; have HO_3 := n0_; have HB := n1_; clear n0_ n1_; clear hg hw hp_))
        go_roundg k1
        case measure => have := HK1.out; omega
        case rel => exact ⟨(y841), (wrap64 (x4_1 + 1)), (by first | rfl | (simp; done) | (simp [*]; done)), H', ⟨by have := HK1.out; omega⟩, ⟨zr_ HO_3.out⟩, ⟨zh_ HB.out⟩⟩
       ·
        rw [if_neg c9] at H
        exact absurd H (by simp)
      ·
       rw [if_neg c7] at H
       exact absurd H (by simp)
     ·
      rw [if_neg c6] at H
      have c6b0 : decide (x4_1 < (l0.length : Int)) = false := decide_eq_false c6
      clear c6
      obtain rfl := Option.some.inj H
      go_wp2
      go_ret
      exact ⟨_, by first | rfl | (simp [errW_none, errW_some] <;> rfl) | (simp [*, errW_none, errW_some] <;> rfl), by (with_reducible repeat (first | apply Kd.R_alloc | apply Kd.R_drewN | apply Kd.R_drew)); exact HO_3.out, by repeat (first | (with_reducible first | exact HB.out | apply below_alloc | apply pw_below_drewN | apply below_drew1) | exact HB.out)⟩
  ·
   rw [if_neg c3] at H
   exact absurd H (by simp)
 ·
  rw [if_neg c2] at H
  exact absurd H (by simp)

-- NOT PRINTED: function 138 (impl_Act_138)

-- NOT PRINTED: function 99 (impl_Act_99)

/-! ### impl_ActsDo: function 41 -/
set_option maxHeartbeats 8000000 in
/-- A loop over structs with a predicate that keeps I. -/
theorem slices_IndexFunc_116.calls (I : World → Prop) (p : S116 → Bool) (g : Nat) (cap : Array Value) (eg : ∀ args w, (callFunc g args).run Try.prog w = .ok (.enter g args) w) (Ad : Option Addr) (c : Nat) (l : List S116) (w : World)
  (hR : Kd.C k116 w Ad l.length l) (hc : l.length ≤ c) (hbig : l.length ≤ 9223372036854775807) (hw : I w) (hI : ∀ W, I W → Below w.heap.size w W)
  (hp : ∀ (W : World), I W → ∀ x ∈ l, Calls Try.prog g (#[.agg #[.bool x.f0, .int .i64 x.f1, .string x.f2]] ++ cap) W fun e w' => e = .returned (.bool (p x)) ∧ I w') :
  Calls Try.prog 138 #[.slice Ad l.length c, .func (.func g) #[] cap] w fun e w' => e = .returned (.int .i64 (idxFrom p l 0)) ∧ I w' := by
 have HR := Aside0.mk hR
 clear hR
 go_enter Try.func138, Try.ntmps138
 go_wp2
 go_loopg [5, 8] l.length (fun gg _ s8 wr => ∃ kk : Nat, kk ≤ l.length ∧ l.length - kk ≤ gg ∧ s8 = .int .i64 kk ∧ Aside0 (I wr) ∧ Aside0 (idxFrom p l 0 = idxFrom p (l.drop kk) kk))
 case atStart => exact ⟨0, Nat.zero_le _, by omega, rfl, ⟨hw⟩, ⟨by simp⟩⟩
 case round =>
  obtain ⟨kk, hkk, hg, rfl, IW, IX⟩ := hrel
  by_cases hlt : kk < l.length
  ·
   have hltz : (kk : Int) < (l.length : Int) := by omega
   obtain ⟨ad, rfl, hx0, hx1, hx2⟩ := at_T116 HR.out (kk : Int) (by omega) hltz
   have hy : rd_T116 l (kk : Int) = l[kk] := by simp [rd_T116, hlt]
   rw [hy] at hx0; replace hx0 := ((hI wr IW.out).cell (World.block_lt_of_cell? _ _ hx0)).trans hx0; simp only [Int.toNat_natCast] at hx0
   rw [hy] at hx1; replace hx1 := ((hI wr IW.out).cell (World.block_lt_of_cell? _ _ hx1)).trans hx1; simp only [Int.toNat_natCast] at hx1
   rw [hy] at hx2; replace hx2 := ((hI wr IW.out).cell (World.block_lt_of_cell? _ _ hx2)).trans hx2; simp only [Int.toNat_natCast] at hx2
   have hcall := hp wr IW.out l[kk] (List.getElem_mem hlt)
   have IX2 := IX.out
   rw [idxFrom_drop l kk hlt, idxFrom] at IX2
   clear hp IX hy
   generalize l[kk] = y at hx0 hx1 hx2 hcall IX2
   have IX3 := Aside0.mk IX2
   clear IX2
   cases hq : p y with
   | true =>
    rw [hq] at hcall
    go_wp2_with (go_at_fn g; refine hcall.mono ?_; rintro e w' ⟨rfl, hb'⟩)
    go_ret
    exact ⟨by rw [IX3.out, if_pos hq]; rfl, hb'⟩
   | false =>
    rw [hq] at hcall
    go_wp2_with (go_at_fn g; refine hcall.mono ?_; rintro e w' ⟨rfl, hb'⟩)
    go_roundg (l.length - (kk + 1))
    case measure => omega
    case rel => exact ⟨kk + 1, by omega, by omega, by go_num, ⟨hb'⟩, ⟨by rw [IX3.out, hq]; simp⟩⟩
  ·
   have hltz : ¬ (kk : Int) < (l.length : Int) := by omega
   have : kk = l.length := by omega
   subst this
   go_wp2
   go_ret
   exact ⟨by rw [IX.out]; simp [idxFrom], IW.out⟩

set_option maxHeartbeats 8000000 in
theorem slices_ContainsFunc_116.calls (I : World → Prop) (p : S116 → Bool) (g : Nat) (cap : Array Value) (eg : ∀ args w, (callFunc g args).run Try.prog w = .ok (.enter g args) w) (Ad : Option Addr) (c : Nat) (l : List S116) (w : World)
  (hR : Kd.C k116 w Ad l.length l) (hc : l.length ≤ c) (hbig : l.length ≤ 9223372036854775807) (hw : I w) (hI : ∀ W, I W → Below w.heap.size w W)
  (hp : ∀ (W : World), I W → ∀ x ∈ l, Calls Try.prog g (#[.agg #[.bool x.f0, .int .i64 x.f1, .string x.f2]] ++ cap) W fun e w' => e = .returned (.bool (p x)) ∧ I w') :
  Calls Try.prog 99 #[.slice Ad l.length c, .func (.func g) #[] cap] w fun e w' => e = .returned (.bool (l.any p)) ∧ I w' := by
 have hcon := slices_IndexFunc_116.calls I p g cap eg Ad c l w hR hc hbig hw hI hp
 have hn := Aside0.mk (idxFrom_nonneg p l 0 (by omega))
 clear hp hR
 generalize idxFrom p l 0 = r at hcon hn
 go_enter Try.func99, Try.ntmps99
 go_wp2_with (go_at_call 138; refine hcon.mono ?_; rintro e w' ⟨rfl, hb'⟩)
 go_ret
 refine ⟨?_, hb'⟩
 have : decide (0 ≤ r) = l.any p := by rw [Bool.eq_iff_iff, decide_eq_true_iff]; exact hn.out
 rw [← this]; rfl

def impl_ActsDo.bad (x : S116) : Bool := x.f0 && (x.f1 != 0 || !(x.f2.toList == ([] : List UInt8)))
def impl_ActsDo.okD (S : List ByteArray) (D : List S92) : Bool := decide (D.length ≤ 1000000) && D.all (fun x => decide (0 ≤ x.f0 ∧ x.f0 < (S.length : Int)))
def impl_ActsDo.go : List S116 → List ByteArray → List S92 → Option (List ByteArray × List S92 × ByteArray × Int)
 | [], S, D => some (S, D, (⟨#[]⟩ : ByteArray), (0 : Int))
 | a :: r, S, D => if a.f0 = true then (if impl_ActsDo.okD S D = true then impl_ActsDo.go r (impl_Flash_synced S D) [] else none)
  else if (a.f2.size : Int) > 8000 then some (([] : List ByteArray), ([] : List S92), (⟨#[]⟩ : ByteArray), (2 : Int)) else if (a.f2.size : Int) > 96 then some (([] : List ByteArray), ([] : List S92), (⟨#[]⟩ : ByteArray), (1 : Int))
  else if S.length ≤ 1000000 then (if 0 ≤ a.f1 ∧ a.f1 ≤ (S.length : Int) - 1 then (if D.length ≤ 1000000 then impl_ActsDo.go r S (impl_Flash_put S D a.f1 a.f2) else none) else some (([] : List ByteArray), ([] : List S92), (⟨#[]⟩ : ByteArray), (8 : Int))) else none
def impl_ActsDo.f (l0_0 : List ByteArray) (l0_1 : List S92) (l1 : List S116) : Option (List ByteArray × List S92 × ByteArray × Int) :=
 if (l1.length : Int) > 400 then some (([] : List ByteArray), ([] : List S92), (⟨#[]⟩ : ByteArray), (2 : Int)) else
 (impl_isFlash.f l0_0 l0_1).bind fun t => (if t = true then (if l1.any impl_ActsDo.bad = true then some (([] : List ByteArray), ([] : List S92), (⟨#[]⟩ : ByteArray), (1 : Int)) else (impl_cloneFlash.f l0_0 l0_1).bind fun c => impl_ActsDo.go l1 c.1 c.2) else some (([] : List ByteArray), ([] : List S92), (⟨#[]⟩ : ByteArray), (1 : Int)))
theorem impl_ActsDo.pred (W0 W : World) (hB : Below W0.heap.size W0 W) (x : S116) :
  Calls Try.prog 100 (#[.agg #[.bool x.f0, .int .i64 x.f1, .string x.f2]] ++ #[]) W fun e w' => e = .returned (.bool (impl_ActsDo.bad x)) ∧ Below W0.heap.size W0 w' := by
 obtain ⟨x0, x1, x2⟩ := x
 show Calls Try.prog 100 #[.agg #[.bool x0, .int .i64 x1, .string x2]] W _
 have HB := Aside0.mk hB
 clear hB
 unfold impl_ActsDo.bad
 rcases (show ((x1 == 0) = true ∧ (x1 != 0) = false) ∨ ((x1 == 0) = false ∧ (x1 != 0) = true) by by_cases h : x1 = 0 <;> simp [h]) with ⟨b0, b1⟩ | ⟨b0, b1⟩ <;>
 rcases (show ((x2.toList == ([] : List UInt8)) = true ∧ (x2.toList != ([] : List UInt8)) = false) ∨ ((x2.toList == ([] : List UInt8)) = false ∧ (x2.toList != ([] : List UInt8)) = true) by by_cases h : x2.toList = [] <;> simp [h]) with ⟨d0, d1⟩ | ⟨d0, d1⟩
 all_goals
  cases x0
  all_goals
   go_enter Try.func100, Try.ntmps100
   go_wp2
   all_goals (go_ret; exact ⟨by first | rfl | (simp only [b1, d0, Bool.true_and, Bool.false_and, Bool.false_or, Bool.true_or]; rfl) | (simp only [b1, d0, d1, bne]; rfl) | (simp_all [bne]; done), by repeat (first | exact HB.out | apply pw_below_drewN | apply below_drew1 | apply below_alloc)⟩)
theorem FB.alloc {W : World} {base g : Nat} {S : List ByteArray} {D : List S92} (h : FB W base g S D) (o : Obj) : FB (W.alloc o) base g S D := FB.below h (below_alloc (Below.refl _ _) o)
set_option maxHeartbeats 8000000 in
set_option maxRecDepth 100000 in
theorem impl_ActsDo.calls (A0_0 : Option Addr) (c0_0 : Nat) (l0_0 : List ByteArray) (A0_1 : Option Addr) (c0_1 : Nat) (l0_1 : List S92) (A1 : Option Addr) (c1 : Nat) (l1 : List S116) (r1 : List ByteArray) (r2 : List S92) (r3 : ByteArray) (r4 : Int) (w : World) (hr0_0 : Kd.C Kd.string w A0_0 l0_0.length l0_0) (hc0_0 : l0_0.length ≤ c0_0) (hr0_1 : Kd.C k92 w A0_1 l0_1.length l0_1) (hc0_1 : l0_1.length ≤ c0_1) (hr1 : Kd.C k116 w A1 l1.length l1) (hc1 : l1.length ≤ c1) (h : impl_ActsDo.f l0_0 l0_1 l1 = some (r1, r2, r3, r4)) :
  Calls Try.prog 41 #[.agg #[.slice A0_0 l0_0.length c0_0, .slice A0_1 l0_1.length c0_1], .slice A1 l1.length c1] w fun e w' => ∃ v0_ v1_ : Value, e = .returned (.agg #[v0_, v1_, .string r3, .int .i64 r4]) ∧ Kd.R Kd.string 9 w' w.heap.size (fun _ => True) v0_ r1 ∧ Kd.R k92 92 w' w.heap.size (fun _ => True) v1_ r2 ∧ Below w.heap.size w w' := by
 unfold impl_ActsDo.f at h
 have hu30 := Try.underlying30
 have hu35 := Try.underlying35
 have HR0 := Aside0.mk hr0_0
 have HC0 := Aside0.mk hc0_0
 have HR1 := Aside0.mk hr0_1
 have HC1 := Aside0.mk hc0_1
 clear hr0_0 hc0_0 hr0_1 hc0_1
 have HRA := Aside0.mk hr1
 have HCA := Aside0.mk hc1
 clear hr1 hc1
 have HX0 := Aside0.mk (blk_alloc (blk_new w (.cells #[.slice A0_0 l0_0.length c0_0, .slice A0_1 l0_1.length c0_1] 30)) (.cells #[.slice none 0 0, .slice none 0 0, .string ⟨#[]⟩, .int .i64 0] 35))
 have hx1_ := blk_new (w.alloc (.cells #[.slice A0_0 l0_0.length c0_0, .slice A0_1 l0_1.length c0_1] 30)) (.cells #[.slice none 0 0, .slice none 0 0, .string ⟨#[]⟩, .int .i64 0] 35)
 rw [show (w.alloc (.cells #[.slice A0_0 l0_0.length c0_0, .slice A0_1 l0_1.length c0_1] 30)).heap.size = w.heap.size + 1 from by simp] at hx1_
 have HX1 := Aside0.mk hx1_
 clear hx1_
 have HW0 := Aside0.mk (show Below w.heap.size w ((w.alloc (.cells #[.slice A0_0 l0_0.length c0_0, .slice A0_1 l0_1.length c0_1] 30)).alloc (.cells #[.slice none 0 0, .slice none 0 0, .string ⟨#[]⟩, .int .i64 0] 35)) from below_alloc (below_alloc (Below.refl _ _) _) _)
 by_cases h4 : (l1.length : Int) > 400
 ·
  rw [if_pos h4] at h
  simp only [Option.some.injEq, Prod.mk.injEq] at h
  obtain ⟨rfl, rfl, rfl, rfl⟩ := h
  have g0 : decide ((l1.length : Int) > 400) = true := decide_eq_true h4
  have g1 : decide (400 < l1.length) = true := decide_eq_true (by omega)
  clear h4
  go_enter Try.func41, Try.ntmps41
  go_wp2
  refine bodyPost_ret (results_cell_row rfl _ _ (w.heap.size + 1) 35 #[.slice none 0 0, .slice none 0 0, .string ⟨#[]⟩, .int .i64 2] (0, 0) _ rfl (by have h_ := blk_new (w.alloc (.cells #[.slice A0_0 l0_0.length c0_0, .slice A0_1 l0_1.length c0_1] 30)) (.cells #[.slice none 0 0, .slice none 0 0, .string ⟨#[]⟩, .int .i64 2] 35); rw [show (w.alloc (.cells #[.slice A0_0 l0_0.length c0_0, .slice A0_1 l0_1.length c0_1] 30)).heap.size = w.heap.size + 1 from by simp] at h_; exact h_) Try.underlying35 rfl (by kernel_rfl)) rfl ?_
  exact ⟨_, _, rfl, Kd.R_nil _ _ _ _ _, Kd.R_nil _ _ _ _ _, below_alloc (below_alloc (Below.refl _ _) _) _⟩
 ·
  rw [if_neg h4] at h
  have g0 : decide ((l1.length : Int) > 400) = false := decide_eq_false h4
  have g1 : decide (400 < l1.length) = false := decide_eq_false (by omega)
  have HL8 := Aside0.mk (show l1.length ≤ 400 by omega)
  obtain ⟨t, ht, h⟩ := Option.bind_eq_some_iff.1 h
  have HF := Aside0.mk ht
  clear ht h4
  cases t with
  | false =>
   simp only [Bool.false_eq_true, if_false] at h
   simp only [Option.some.injEq, Prod.mk.injEq] at h
   obtain ⟨rfl, rfl, rfl, rfl⟩ := h
   go_enter Try.func41, Try.ntmps41
   go_wp2_with (fail)
   go_at_call 74
   refine (impl_isFlash.calls A0_0 c0_0 l0_0 A0_1 c0_1 l0_1 false _ (Kd.C_below HR0.out HW0.out) HC0.out (Kd.C_below HR1.out HW0.out) HC1.out HF.out).mono ?_
   rintro e w1 ⟨rfl, hb1⟩
   have HB1 := Aside0.mk (below_step HW0.out hb1)
   have hx0 := blk_below (by exact HX0.out) hb1
   have hx1 := blk_below (by exact HX1.out) hb1
   have HX01 := Aside0.mk hx0
   have HX11 := Aside0.mk hx1
   clear hb1
   have oc0 := blk_cell hx1 0
   have of0 := blk_frozen hx1 0
   have oc1 := blk_cell hx1 1
   have of1 := blk_frozen hx1 1
   have oc2 := blk_cell hx1 2
   have of2 := blk_frozen hx1 2
   have oc3 := blk_cell hx1 3
   have of3 := blk_frozen hx1 3
   clear hx0 hx1
   go_wp2
   refine bodyPost_ret (results_cell_row rfl _ _ (w.heap.size + 1) 35 #[.slice none 0 0, .slice none 0 0, .string ⟨#[]⟩, .int .i64 1] (0, 0) _ rfl (by refine blk_put (cs := #[.slice none 0 0, .slice none 0 0, .string ⟨#[]⟩, .int .i64 0]) ?_ 3 _ rfl; refine blk_put (cs := #[.slice none 0 0, .slice none 0 0, .string ⟨#[]⟩, .int .i64 0]) ?_ 2 _ rfl; refine blk_put (cs := #[.slice none 0 0, .slice none 0 0, .string ⟨#[]⟩, .int .i64 0]) ?_ 1 _ rfl; refine blk_put (cs := #[.slice none 0 0, .slice none 0 0, .string ⟨#[]⟩, .int .i64 0]) ?_ 0 _ rfl; (repeat (first | exact HX11.out | refine blk_drewN ?_ _ | refine blk_drew ?_))) Try.underlying35 rfl (by kernel_rfl)) rfl ?_
   exact ⟨_, _, rfl, Kd.R_nil _ _ _ _ _, Kd.R_nil _ _ _ _ _, ((((show Below w.heap.size w _ from by first | exact HB1.out | exact pw_below_drewN HB1.out _).setCell (Nat.le_succ _) _).setCell (Nat.le_succ _) _).setCell (Nat.le_succ _) _).setCell (Nat.le_succ _) _⟩
  | true =>
   simp only [if_true] at h
   have eg : ∀ args w, (callFunc 100 args).run Try.prog w = .ok (.enter 100 args) w := enters_of Try.func100 (by kernel_rfl) rfl
   have hcon := fun (W : World) (hR : Kd.C k116 W A1 l1.length l1) => slices_ContainsFunc_116.calls (fun W' => Below W.heap.size W W') impl_ActsDo.bad 100 #[] eg A1 c1 l1 W hR HCA.out (by have := HL8.out; omega) (Below.refl _ _) (fun _ h => h) (fun W' hb x _ => impl_ActsDo.pred W W' hb x)
   clear eg
   generalize l1.any impl_ActsDo.bad = vb at hcon h
   cases vb with
   | true =>
    simp only [if_true] at h
    simp only [Option.some.injEq, Prod.mk.injEq] at h
    obtain ⟨rfl, rfl, rfl, rfl⟩ := h
    go_enter Try.func41, Try.ntmps41
    go_wp2_with (fail)
    go_at_call 74
    refine (impl_isFlash.calls A0_0 c0_0 l0_0 A0_1 c0_1 l0_1 true _ (Kd.C_below HR0.out HW0.out) HC0.out (Kd.C_below HR1.out HW0.out) HC1.out HF.out).mono ?_
    rintro e w1 ⟨rfl, hb1⟩
    have HB1 := Aside0.mk (below_step HW0.out hb1)
    have hx0 := blk_below (by exact HX0.out) hb1
    have hx1 := blk_below (by exact HX1.out) hb1
    have HX01 := Aside0.mk hx0
    have HX11 := Aside0.mk hx1
    clear hb1
    clear hx0 hx1
    go_wp2_with (fail)
    go_at_call 99
    refine (hcon w1 (Kd.C_below HRA.out HB1.out)).mono ?_
    rintro e w1b ⟨rfl, hbc⟩
    have HB1_ := Aside0.mk (below_step HB1.out hbc)
    have hx0 := blk_below HX01.out hbc
    have hx1 := blk_below HX11.out hbc
    clear HB1 HX01 HX11 hbc hcon
    have HB1 := HB1_
    have HX01 := Aside0.mk hx0
    have HX11 := Aside0.mk hx1
    clear HB1_
    have oc0 := blk_cell hx1 0
    have of0 := blk_frozen hx1 0
    have oc1 := blk_cell hx1 1
    have of1 := blk_frozen hx1 1
    have oc2 := blk_cell hx1 2
    have of2 := blk_frozen hx1 2
    have oc3 := blk_cell hx1 3
    have of3 := blk_frozen hx1 3
    clear hx0 hx1
    go_wp2
    refine bodyPost_ret (results_cell_row rfl _ _ (w.heap.size + 1) 35 #[.slice none 0 0, .slice none 0 0, .string ⟨#[]⟩, .int .i64 1] (0, 0) _ rfl (by refine blk_put (cs := #[.slice none 0 0, .slice none 0 0, .string ⟨#[]⟩, .int .i64 0]) ?_ 3 _ rfl; refine blk_put (cs := #[.slice none 0 0, .slice none 0 0, .string ⟨#[]⟩, .int .i64 0]) ?_ 2 _ rfl; refine blk_put (cs := #[.slice none 0 0, .slice none 0 0, .string ⟨#[]⟩, .int .i64 0]) ?_ 1 _ rfl; refine blk_put (cs := #[.slice none 0 0, .slice none 0 0, .string ⟨#[]⟩, .int .i64 0]) ?_ 0 _ rfl; (repeat (first | exact HX11.out | refine blk_drewN ?_ _ | refine blk_drew ?_))) Try.underlying35 rfl (by kernel_rfl)) rfl ?_
    exact ⟨_, _, rfl, Kd.R_nil _ _ _ _ _, Kd.R_nil _ _ _ _ _, ((((show Below w.heap.size w _ from by first | exact HB1.out | exact pw_below_drewN HB1.out _).setCell (Nat.le_succ _) _).setCell (Nat.le_succ _) _).setCell (Nat.le_succ _) _).setCell (Nat.le_succ _) _⟩
   | false =>
    simp only [Bool.false_eq_true, if_false] at h
    obtain ⟨c, hc, h⟩ := Option.bind_eq_some_iff.1 h
    obtain ⟨cS, cD⟩ := c
    have HGO := Aside0.mk h
    have HCL := Aside0.mk hc
    clear h hc
    go_enter Try.func41, Try.ntmps41
    go_wp2_with (fail)
    go_at_call 74
    refine (impl_isFlash.calls A0_0 c0_0 l0_0 A0_1 c0_1 l0_1 true _ (Kd.C_below HR0.out HW0.out) HC0.out (Kd.C_below HR1.out HW0.out) HC1.out HF.out).mono ?_
    rintro e w1 ⟨rfl, hb1⟩
    have HB1 := Aside0.mk (below_step HW0.out hb1)
    have hx0 := blk_below (by exact HX0.out) hb1
    have hx1 := blk_below (by exact HX1.out) hb1
    have HX01 := Aside0.mk hx0
    have HX11 := Aside0.mk hx1
    clear hb1
    clear hx0 hx1
    go_wp2_with (fail)
    go_at_call 99
    refine (hcon w1 (Kd.C_below HRA.out HB1.out)).mono ?_
    rintro e w1b ⟨rfl, hbc⟩
    have HB1_ := Aside0.mk (below_step HB1.out hbc)
    have hx0 := blk_below HX01.out hbc
    have hx1 := blk_below HX11.out hbc
    clear HB1 HX01 HX11 hbc hcon
    have HB1 := HB1_
    have HX01 := Aside0.mk hx0
    have HX11 := Aside0.mk hx1
    clear HB1_
    have b0 := (blk_cell HX01.out 0).trans (rfl : _ = some (Value.slice A0_0 l0_0.length c0_0))
    have b1 := (blk_cell HX01.out 1).trans (rfl : _ = some (Value.slice A0_1 l0_1.length c0_1))
    clear hx0 hx1
    go_wp2_with (fail)
    go_at_call 79
    refine (impl_cloneFlash.calls A0_0 c0_0 l0_0 A0_1 c0_1 l0_1 cS cD _ (by repeat (first | exact (Kd.C_below HR0.out HB1.out) | (with_reducible refine Kd.C_drewN ?_ _))) HC0.out (by repeat (first | exact (Kd.C_below HR1.out HB1.out) | (with_reducible refine Kd.C_drewN ?_ _))) HC1.out HCL.out).mono ?_
    rintro e w2 ⟨v0, v1, rfl, hS, hD, hb2⟩
    obtain ⟨As, cs, rfl⟩ := Kd.R_slice hS
    obtain ⟨Ad, cd, rfl⟩ := Kd.R_slice hD
    have HFB := Aside0.mk (show FB (w2.alloc (.cells #[.slice As cS.length cs, .slice Ad cD.length cd] 30)) w1b.heap.size w2.heap.size cS cD from ⟨_, _, blk_new _ _, hb2.size, Kd.R_alloc hS _, Kd.R_alloc hD _⟩)
    have HB2 := Aside0.mk (show Below w1b.heap.size w1b (w2.alloc (.cells #[.slice As cS.length cs, .slice Ad cD.length cd] 30)) from below_alloc hb2 _)
    clear hS hD hb2
    obtain ⟨u0_, u1_, hkF_, _⟩ := HFB.out
    go_wp2_with (fail)
    clear hkF_
    go_loopg [24] l1.length (fun gg v24 wr => ∃ (kk : Nat) (S : List ByteArray) (D : List S92), v24 = .int .i64 kk ∧ Aside0 (kk ≤ l1.length ∧ l1.length - kk ≤ gg ∧ w1b.heap.size ≤ wr.heap.size) ∧ Aside0 (FB wr w1b.heap.size w2.heap.size S D) ∧ Aside0 (Below w1b.heap.size w1b wr) ∧ Aside0 (impl_ActsDo.go (l1.drop kk) S D = some (r1, r2, r3, r4)))
    case atStart => exact ⟨0, cS, cD, rfl, ⟨by have := HB2.out.size; omega⟩, HFB, HB2, ⟨HGO.out⟩⟩
    case round =>
     clear HFB HB2 HGO
     obtain ⟨kk, S, D, rfl, HN, HFB, HB2, HX⟩ := hrel
     have HXR := Aside0.mk ((HB2.out.block (w.heap.size + 1) (blk_lt HX11.out)).trans HX11.out)
     have HBW := Aside0.mk (below_step HB1.out HB2.out)
     by_cases hlt : kk < l1.length
     ·
      have hltz : decide ((kk : Int) < (l1.length : Int)) = true := decide_eq_true (by omega)
      have pk : (0 : Int) ≤ (kk : Int) := by omega
      have qk : (kk : Int) < (l1.length : Int) := by omega
      have ek : wrap64 ((kk : Int) + 1) = ((kk + 1 : Nat) : Int) := by have := HL8.out; unfold wrap64; omega
      obtain ⟨ad, rfl, hx0, hx1, hx2⟩ := at_T116 HRA.out (kk : Int) pk qk
      have hy : rd_T116 l1 (kk : Int) = l1[kk] := by simp [rd_T116, hlt]
      rw [hy] at hx0 hx1 hx2
      replace hx0 := (HBW.out.cell (World.block_lt_of_cell? _ _ hx0)).trans hx0
      replace hx1 := (HBW.out.cell (World.block_lt_of_cell? _ _ hx1)).trans hx1
      replace hx2 := (HBW.out.cell (World.block_lt_of_cell? _ _ hx2)).trans hx2
      simp only [Int.toNat_natCast] at hx0 hx1 hx2
      have HX2 := HX.out
      rw [idxFrom_drop l1 kk hlt, impl_ActsDo.go] at HX2
      clear HX hy
      generalize l1[kk] = x at hx0 hx1 hx2 HX2
      obtain ⟨a0, a1, a2⟩ := x
      simp only at hx0 hx1 hx2 HX2
      cases a0 with
      | true =>
       simp only [if_true] at HX2
       by_cases hok : impl_ActsDo.okD S D = true
       ·
        simp only [hok, if_true] at HX2
        unfold impl_ActsDo.okD at hok
        simp only [Bool.and_eq_true, decide_eq_true_eq, List.all_eq_true] at hok
        have HOK := Aside0.mk hok
        have HX := Aside0.mk HX2
        clear hok HX2
        go_wp2_with (fail)
        go_at_call 80
        refine (impl_Flash_sync.calls w1b w1b.heap.size _ S D _ (by exact FB.alloc HFB.out _) (by exact below_alloc HB2.out _) (by have := HN.out; simp; omega) HOK.out.1 HOK.out.2).mono ?_
        rintro e w3 ⟨rfl, hF3, hb3, hz3⟩
        go_wp2
        go_roundg (l1.length - (kk + 1))
        case measure => have := HN.out; omega
        case rel =>
         refine ⟨kk + 1, _, _, by rw [ek], ⟨by omega, Nat.le_refl _, ?_⟩, ⟨hF3⟩, ⟨hb3⟩, HX⟩
         have := HN.out
         simp at hz3
         omega
       ·
        simp only [hok] at HX2; cases HX2
      | false =>
       simp only [Bool.false_eq_true, if_false] at HX2
       have HBA := Aside0.mk (show Below w.heap.size w (wr.alloc (.cells #[.bool false, .int .i64 a1, .string a2] 116)) from below_alloc HBW.out _)
       by_cases h8 : (a2.size : Int) > 8000
       ·
        have g0 : decide ((a2.size : Int) > 8000) = true := decide_eq_true h8
        have g1 : decide (8000 < a2.size) = true := decide_eq_true (by omega)
        rw [if_pos h8] at HX2
        simp only [Option.some.injEq, Prod.mk.injEq] at HX2
        obtain ⟨rfl, rfl, rfl, rfl⟩ := HX2
        clear h8
        have oc0 : ∀ o, (wr.alloc o).cell? ⟨w.heap.size + 1, 0, none⟩ = _ := fun o => blk_cell (blk_alloc HXR.out o) 0
        have of0 : ∀ o, (wr.alloc o).frozen? ⟨w.heap.size + 1, 0, none⟩ = false := fun o => blk_frozen (blk_alloc HXR.out o) 0
        have oc1 : ∀ o, (wr.alloc o).cell? ⟨w.heap.size + 1, 1, none⟩ = _ := fun o => blk_cell (blk_alloc HXR.out o) 1
        have of1 : ∀ o, (wr.alloc o).frozen? ⟨w.heap.size + 1, 1, none⟩ = false := fun o => blk_frozen (blk_alloc HXR.out o) 1
        have oc2 : ∀ o, (wr.alloc o).cell? ⟨w.heap.size + 1, 2, none⟩ = _ := fun o => blk_cell (blk_alloc HXR.out o) 2
        have of2 : ∀ o, (wr.alloc o).frozen? ⟨w.heap.size + 1, 2, none⟩ = false := fun o => blk_frozen (blk_alloc HXR.out o) 2
        have oc3 : ∀ o, (wr.alloc o).cell? ⟨w.heap.size + 1, 3, none⟩ = _ := fun o => blk_cell (blk_alloc HXR.out o) 3
        have of3 : ∀ o, (wr.alloc o).frozen? ⟨w.heap.size + 1, 3, none⟩ = false := fun o => blk_frozen (blk_alloc HXR.out o) 3
        go_wp2
        refine bodyPost_ret (results_cell_row rfl _ _ (w.heap.size + 1) 35 #[.slice none 0 0, .slice none 0 0, .string ⟨#[]⟩, .int .i64 2] (0, 0) _ rfl (by refine blk_put (cs := #[.slice none 0 0, .slice none 0 0, .string ⟨#[]⟩, .int .i64 0]) ?_ 3 _ rfl; refine blk_put (cs := #[.slice none 0 0, .slice none 0 0, .string ⟨#[]⟩, .int .i64 0]) ?_ 2 _ rfl; refine blk_put (cs := #[.slice none 0 0, .slice none 0 0, .string ⟨#[]⟩, .int .i64 0]) ?_ 1 _ rfl; refine blk_put (cs := #[.slice none 0 0, .slice none 0 0, .string ⟨#[]⟩, .int .i64 0]) ?_ 0 _ rfl; (repeat (first | exact (blk_alloc HXR.out _) | refine blk_drewN ?_ _ | refine blk_drew ?_))) Try.underlying35 rfl (by kernel_rfl)) rfl ?_
        exact ⟨_, _, rfl, Kd.R_nil _ _ _ _ _, Kd.R_nil _ _ _ _ _, ((((show Below w.heap.size w _ from by first | exact HBA.out | exact pw_below_drewN HBA.out _).setCell (Nat.le_succ _) _).setCell (Nat.le_succ _) _).setCell (Nat.le_succ _) _).setCell (Nat.le_succ _) _⟩
       ·
        have g0 : decide ((a2.size : Int) > 8000) = false := decide_eq_false h8
        have g1 : decide (8000 < a2.size) = false := decide_eq_false (by omega)
        rw [if_neg h8] at HX2
        clear h8
        by_cases h9 : (a2.size : Int) > 96
        ·
         have g2 : decide ((a2.size : Int) > 96) = true := decide_eq_true h9
         have g3 : decide (96 < a2.size) = true := decide_eq_true (by omega)
         rw [if_pos h9] at HX2
         simp only [Option.some.injEq, Prod.mk.injEq] at HX2
         obtain ⟨rfl, rfl, rfl, rfl⟩ := HX2
         clear h9
         have oc0 : ∀ o, (wr.alloc o).cell? ⟨w.heap.size + 1, 0, none⟩ = _ := fun o => blk_cell (blk_alloc HXR.out o) 0
         have of0 : ∀ o, (wr.alloc o).frozen? ⟨w.heap.size + 1, 0, none⟩ = false := fun o => blk_frozen (blk_alloc HXR.out o) 0
         have oc1 : ∀ o, (wr.alloc o).cell? ⟨w.heap.size + 1, 1, none⟩ = _ := fun o => blk_cell (blk_alloc HXR.out o) 1
         have of1 : ∀ o, (wr.alloc o).frozen? ⟨w.heap.size + 1, 1, none⟩ = false := fun o => blk_frozen (blk_alloc HXR.out o) 1
         have oc2 : ∀ o, (wr.alloc o).cell? ⟨w.heap.size + 1, 2, none⟩ = _ := fun o => blk_cell (blk_alloc HXR.out o) 2
         have of2 : ∀ o, (wr.alloc o).frozen? ⟨w.heap.size + 1, 2, none⟩ = false := fun o => blk_frozen (blk_alloc HXR.out o) 2
         have oc3 : ∀ o, (wr.alloc o).cell? ⟨w.heap.size + 1, 3, none⟩ = _ := fun o => blk_cell (blk_alloc HXR.out o) 3
         have of3 : ∀ o, (wr.alloc o).frozen? ⟨w.heap.size + 1, 3, none⟩ = false := fun o => blk_frozen (blk_alloc HXR.out o) 3
         go_wp2
         refine bodyPost_ret (results_cell_row rfl _ _ (w.heap.size + 1) 35 #[.slice none 0 0, .slice none 0 0, .string ⟨#[]⟩, .int .i64 1] (0, 0) _ rfl (by refine blk_put (cs := #[.slice none 0 0, .slice none 0 0, .string ⟨#[]⟩, .int .i64 0]) ?_ 3 _ rfl; refine blk_put (cs := #[.slice none 0 0, .slice none 0 0, .string ⟨#[]⟩, .int .i64 0]) ?_ 2 _ rfl; refine blk_put (cs := #[.slice none 0 0, .slice none 0 0, .string ⟨#[]⟩, .int .i64 0]) ?_ 1 _ rfl; refine blk_put (cs := #[.slice none 0 0, .slice none 0 0, .string ⟨#[]⟩, .int .i64 0]) ?_ 0 _ rfl; (repeat (first | exact (blk_alloc HXR.out _) | refine blk_drewN ?_ _ | refine blk_drew ?_))) Try.underlying35 rfl (by kernel_rfl)) rfl ?_
         exact ⟨_, _, rfl, Kd.R_nil _ _ _ _ _, Kd.R_nil _ _ _ _ _, ((((show Below w.heap.size w _ from by first | exact HBA.out | exact pw_below_drewN HBA.out _).setCell (Nat.le_succ _) _).setCell (Nat.le_succ _) _).setCell (Nat.le_succ _) _).setCell (Nat.le_succ _) _⟩
        ·
         have g2 : decide ((a2.size : Int) > 96) = false := decide_eq_false h9
         have g3 : decide (96 < a2.size) = false := decide_eq_false (by omega)
         rw [if_neg h9] at HX2
         clear h9
         by_cases hsl : S.length ≤ 1000000
         ·
          rw [if_pos hsl] at HX2
          obtain ⟨u0, u1, hkF, hgF, hSF, hDF⟩ := FB.alloc HFB.out (.cells #[.bool false, .int .i64 a1, .string a2] 116)
          obtain ⟨Au, cu, rfl, hcu, hCu⟩ := Kd.R_reads hSF
          obtain ⟨Av, cv, rfl, hcv, hCv⟩ := Kd.R_reads hDF
          have e0 := (blk_cell hkF 0).trans (rfl : _ = some (Value.slice Au S.length cu))
          have e1 := (blk_cell hkF 1).trans (rfl : _ = some (Value.slice Av D.length cv))
          have HCu := Aside0.mk hCu
          have HCv := Aside0.mk hCv
          have Hcu := Aside0.mk hcu
          have Hcv := Aside0.mk hcv
          have hh : impl_Flash_has.f S D a1 = some (decide (0 ≤ a1 ∧ a1 ≤ (S.length : Int) - 1)) := by
           unfold impl_Flash_has.f
           rw [show impl_size_string.f S = some (S.length : Int) from rfl, Option.bind_some, show wrap64 ((S.length : Int) - 1) = (S.length : Int) - 1 from by unfold wrap64; omega, impl_isFlash.within_ a1 0 ((S.length : Int) - 1) _ rfl]
           rfl
          have HNW := Aside0.mk (blk_new wr (.cells #[.bool false, .int .i64 a1, .string a2] 116))
          have HXA := Aside0.mk (blk_alloc HXR.out (.cells #[.bool false, .int .i64 a1, .string a2] 116))
          have HFA := Aside0.mk (FB.alloc HFB.out (.cells #[.bool false, .int .i64 a1, .string a2] 116))
          have HB2A := Aside0.mk (below_alloc HB2.out (.cells #[.bool false, .int .i64 a1, .string a2] 116))
          clear hkF hgF hSF hDF hCu hCv hcu hcv hsl
          by_cases hin : 0 ≤ a1 ∧ a1 ≤ (S.length : Int) - 1
          ·
           rw [if_pos hin] at HX2
           rw [decide_eq_true hin] at hh
           have HH := Aside0.mk hh
           clear hh hin
           by_cases hdl : D.length ≤ 1000000
           ·
            rw [if_pos hdl] at HX2
            have HX := Aside0.mk HX2
            have HDL := Aside0.mk hdl
            clear HX2 hdl
            go_wp2_with (fail)
            go_at_call 89
            refine (impl_Flash_has.calls Au cu S Av cv D a1 true _ HCu.out Hcu.out HCv.out Hcv.out HH.out).mono ?_
            rintro e wh ⟨rfl, hbh⟩
            have hnw := blk_below HNW.out hbh
            have n1 := blk_cell hnw 1
            have n2 := blk_cell hnw 2
            have HFH := Aside0.mk (FB.below HFA.out hbh)
            have HBH := Aside0.mk (below_then HB2A.out HB2A.out.size hbh)
            have HZH := Aside0.mk hbh.size
            clear hbh hnw
            go_wp2_with (fail)
            go_at_call 92
            refine (impl_Flash_write.calls w1b w1b.heap.size _ S D a1 a2 _ (by exact HFH.out) (by exact HBH.out) HBH.out.size HDL.out).mono ?_
            rintro e w3 ⟨rfl, hF3, hb3, hz3⟩
            go_wp2
            go_roundg (l1.length - (kk + 1))
            case measure => have := HN.out; omega
            case rel =>
             refine ⟨kk + 1, _, _, by rw [ek], ⟨by omega, Nat.le_refl _, hb3.size⟩, ⟨hF3⟩, ⟨hb3⟩, HX⟩
           ·
            rw [if_neg hdl] at HX2; cases HX2
          ·
           rw [if_neg hin] at HX2
           rw [decide_eq_false hin] at hh
           have HH := Aside0.mk hh
           clear hh hin
           simp only [Option.some.injEq, Prod.mk.injEq] at HX2
           obtain ⟨rfl, rfl, rfl, rfl⟩ := HX2
           go_wp2_with (fail)
           go_at_call 89
           refine (impl_Flash_has.calls Au cu S Av cv D a1 false _ HCu.out Hcu.out HCv.out Hcv.out HH.out).mono ?_
           rintro e wh ⟨rfl, hbh⟩
           have hxh := blk_below HXA.out hbh
           have HXH := Aside0.mk hxh
           have HBH := Aside0.mk (below_step HBA.out hbh)
           clear hbh
           have oc0 := blk_cell hxh 0
           have of0 := blk_frozen hxh 0
           have oc1 := blk_cell hxh 1
           have of1 := blk_frozen hxh 1
           have oc2 := blk_cell hxh 2
           have of2 := blk_frozen hxh 2
           have oc3 := blk_cell hxh 3
           have of3 := blk_frozen hxh 3
           clear hxh
           go_wp2
           refine bodyPost_ret (results_cell_row rfl _ _ (w.heap.size + 1) 35 #[.slice none 0 0, .slice none 0 0, .string ⟨#[]⟩, .int .i64 8] (0, 0) _ rfl (by refine blk_put (cs := #[.slice none 0 0, .slice none 0 0, .string ⟨#[]⟩, .int .i64 0]) ?_ 3 _ rfl; refine blk_put (cs := #[.slice none 0 0, .slice none 0 0, .string ⟨#[]⟩, .int .i64 0]) ?_ 2 _ rfl; refine blk_put (cs := #[.slice none 0 0, .slice none 0 0, .string ⟨#[]⟩, .int .i64 0]) ?_ 1 _ rfl; refine blk_put (cs := #[.slice none 0 0, .slice none 0 0, .string ⟨#[]⟩, .int .i64 0]) ?_ 0 _ rfl; (repeat (first | exact HXH.out | refine blk_drewN ?_ _ | refine blk_drew ?_))) Try.underlying35 rfl (by kernel_rfl)) rfl ?_
           exact ⟨_, _, rfl, Kd.R_nil _ _ _ _ _, Kd.R_nil _ _ _ _ _, ((((show Below w.heap.size w _ from by first | exact HBH.out | exact pw_below_drewN HBH.out _).setCell (Nat.le_succ _) _).setCell (Nat.le_succ _) _).setCell (Nat.le_succ _) _).setCell (Nat.le_succ _) _⟩
         ·
          rw [if_neg hsl] at HX2; cases HX2
     ·
      have hltz : decide ((kk : Int) < (l1.length : Int)) = false := decide_eq_false (by omega)
      have hk : kk = l1.length := by have := HN.out; omega
      have HX2 := HX.out
      rw [hk, List.drop_length, impl_ActsDo.go] at HX2
      simp only [Option.some.injEq, Prod.mk.injEq] at HX2
      obtain ⟨rfl, rfl, rfl, rfl⟩ := HX2
      obtain ⟨u0, u1, hkF, hgF, hSF, hDF⟩ := HFB.out
      obtain ⟨Au, cu, rfl⟩ := Kd.R_slice hSF
      obtain ⟨Av, cv, rfl⟩ := Kd.R_slice hDF
      have e0 := (blk_cell hkF 0).trans (rfl : _ = some (Value.slice Au S.length cu))
      have e1 := (blk_cell hkF 1).trans (rfl : _ = some (Value.slice Av D.length cv))
      have HS3 := Aside0.mk hSF
      have HD3 := Aside0.mk hDF
      have hxr := HXR.out
      have oc0 := blk_cell hxr 0
      have of0 := blk_frozen hxr 0
      have oc1 := blk_cell hxr 1
      have of1 := blk_frozen hxr 1
      have oc2 := blk_cell hxr 2
      have of2 := blk_frozen hxr 2
      have oc3 := blk_cell hxr 3
      have of3 := blk_frozen hxr 3
      clear hxr hkF hgF hSF hDF
      go_wp2
      refine bodyPost_ret (results_cell_row rfl _ _ (w.heap.size + 1) 35 #[.slice Au S.length cu, .slice Av D.length cv, .string ⟨#[]⟩, .int .i64 0] (0, 0) _ rfl (by refine blk_put (cs := #[.slice Au S.length cu, .slice Av D.length cv, .string ⟨#[]⟩, .int .i64 0]) ?_ 3 _ rfl; refine blk_put (cs := #[.slice Au S.length cu, .slice Av D.length cv, .string ⟨#[]⟩, .int .i64 0]) ?_ 2 _ rfl; refine blk_put (cs := #[.slice Au S.length cu, .slice none 0 0, .string ⟨#[]⟩, .int .i64 0]) ?_ 1 _ rfl; refine blk_put (cs := #[.slice none 0 0, .slice none 0 0, .string ⟨#[]⟩, .int .i64 0]) ?_ 0 _ rfl; (repeat (first | exact HXR.out | refine blk_drewN ?_ _ | refine blk_drew ?_))) Try.underlying35 rfl (by kernel_rfl)) rfl ?_
      exact ⟨_, _, rfl, Kd.R_lower (FB.out4 HS3.out HXR.out (by decide) _ _ _ _) HB1.out.size, Kd.R_lower (FB.out4 HD3.out HXR.out (by decide) _ _ _ _) HB1.out.size, ((((show Below w.heap.size w _ from by first | exact HBW.out | exact pw_below_drewN HBW.out _).setCell (Nat.le_succ _) _).setCell (Nat.le_succ _) _).setCell (Nat.le_succ _) _).setCell (Nat.le_succ _) _⟩


end Go.Proofs.Ytibnmnkembbgeaa.Q
