/- For each Go function that the laws of this text reach: a Lean function, and the proof that the Go function returns what the Lean function tells, wherever it tells some value. Written by a program of this session. -/
import Derived.Test.YtbihlagdcbdiaaaKFnDiff0
import Derived.Test.YtbihlagdcbdiaaaKFnDiff1
import Derived.Test.YtbihlagdcbdiaaaKFnDiff2
namespace Go.Proofs.Ytbihlagdcbdiaaa.Q
open Go.RowKit Go.Proofs.YtbihlagdcbdiaaaW.PrintWords Go.Proofs.YtbihlagdcbdiaaaW.PrintLast Go.Proofs.YtbihlagdcbdiaaaW.PrintMore
attribute [local go_sem] max2_int min2_int max_two min_two max_three min_three max_four min_four Instr.field asAgg   -- for this text's walks alone
set_option linter.unusedVariables false
set_option linter.unusedSimpArgs false
/-! ### impl_isStep: function 48 -/
mutual
def impl_isStep.j0 : Nat → Int → Bool → Bool → Bool → Bool → Int → Int → Int → ByteArray → Option (Bool)
 | 0, _, _, _, _, _, _, _, _, _ => none
 | k + 1, x1, x5, x6, x7, x26, x332000, x332001, x332002, x332003 => if x26 = true then ((impl_within.f x332002 0 (wrap64 (x1 - 1))).bind fun t333 => (impl_isStep.j1 k x5 t333 x7 x332000 x332001 x332002 x332003)) else (impl_isStep.j1 k x5 x6 x7 x332000 x332001 x332002 x332003)
def impl_isStep.j1 : Nat → Bool → Bool → Bool → Int → Int → Int → ByteArray → Option (Bool)
 | 0, _, _, _, _, _, _, _ => none
 | k + 1, x5, x6, x7, x332000, x332001, x332002, x332003 => if x332000 = 2 then (impl_isStep.j2 k x5 x6 x7 true x332000 x332001 x332002 x332003) else (impl_isStep.j2 k x5 x6 x7 (x332000 == 4) x332000 x332001 x332002 x332003)
def impl_isStep.j2 : Nat → Bool → Bool → Bool → Bool → Int → Int → Int → ByteArray → Option (Bool)
 | 0, _, _, _, _, _, _, _, _ => none
 | k + 1, x5, x6, x7, x39, x332000, x332001, x332002, x332003 => if x39 = true then (impl_isStep.j3 k x5 x6 ((x332003.size : Int) == 8) x332000 x332001 x332002 x332003) else (impl_isStep.j3 k x5 x6 x7 x332000 x332001 x332002 x332003)
def impl_isStep.j3 : Nat → Bool → Bool → Bool → Int → Int → Int → ByteArray → Option (Bool)
 | 0, _, _, _, _, _, _, _ => none
 | k + 1, x5, x6, x7, x332000, x332001, x332002, x332003 => if x332000 = 5 then ((impl_isTime.f x332002).bind fun t334 => ((impl_within.f x332000 1 5).bind fun t335 => (if t335 = true then (if x332001 = 0 then (if t334 = true then (some x7) else (some false)) else (some false)) else (some false)))) else ((impl_within.f x332000 1 5).bind fun t336 => (if t336 = true then (if x5 = true then (if x6 = true then (some x7) else (some false)) else (some false)) else (some false)))
end
def impl_isStep.f (k : Nat) (a0_0 : Int) (a0_1 : Int) (a0_2 : Int) (a0_3 : ByteArray) (a1 : Int) : Option (Bool) := (impl_within.f a0_1 0 (wrap64 (a1 - 1))).bind fun t332 => (if a0_0 = 3 then (impl_isStep.j0 k a1 t332 (a0_2 == 0) (a0_3.toList == ([] : List UInt8)) true a0_0 a0_1 a0_2 a0_3) else (impl_isStep.j0 k a1 t332 (a0_2 == 0) (a0_3.toList == ([] : List UInt8)) (a0_0 == 4) a0_0 a0_1 a0_2 a0_3))
theorem impl_isStep.mono_l : ∀ k, (∀ y0 y1 y2 y3 y4 y5 y6 y7 y8, LeO (impl_isStep.j0 k y0 y1 y2 y3 y4 y5 y6 y7 y8) (impl_isStep.j0 (k + 1) y0 y1 y2 y3 y4 y5 y6 y7 y8)) ∧ (∀ y0 y1 y2 y3 y4 y5 y6, LeO (impl_isStep.j1 k y0 y1 y2 y3 y4 y5 y6) (impl_isStep.j1 (k + 1) y0 y1 y2 y3 y4 y5 y6)) ∧ (∀ y0 y1 y2 y3 y4 y5 y6 y7, LeO (impl_isStep.j2 k y0 y1 y2 y3 y4 y5 y6 y7) (impl_isStep.j2 (k + 1) y0 y1 y2 y3 y4 y5 y6 y7)) ∧ (∀ y0 y1 y2 y3 y4 y5 y6, LeO (impl_isStep.j3 k y0 y1 y2 y3 y4 y5 y6) (impl_isStep.j3 (k + 1) y0 y1 y2 y3 y4 y5 y6))
 | 0 => ⟨fun _ _ _ _ _ _ _ _ _ r h => by simp [impl_isStep.j0] at h, fun _ _ _ _ _ _ _ r h => by simp [impl_isStep.j1] at h, fun _ _ _ _ _ _ _ _ r h => by simp [impl_isStep.j2] at h, fun _ _ _ _ _ _ _ r h => by simp [impl_isStep.j3] at h⟩
 | k + 1 => by
  obtain ⟨ih0, ih1, ih2, ih3⟩ := impl_isStep.mono_l k
  refine ⟨?_, ?_, ?_, ?_⟩
  ·
   intro y0 y1 y2 y3 y4 y5 y6 y7 y8
   unfold impl_isStep.j0
   repeat' first
   | (with_reducible exact ih0 _ _ _ _ _ _ _ _ _)
   | (with_reducible exact ih1 _ _ _ _ _ _ _)
   | (with_reducible exact ih2 _ _ _ _ _ _ _ _)
   | (with_reducible exact ih3 _ _ _ _ _ _ _)
   | (with_reducible exact LeO.refl _)
   | (with_reducible exact LeO.none _)
   | (with_reducible refine LeO.ite ?_ ?_)
   | (with_reducible refine LeO.bind ?_ (fun _ => ?_))
   | exact ih0 _ _ _ _ _ _ _ _ _
   | exact ih1 _ _ _ _ _ _ _
   | exact ih2 _ _ _ _ _ _ _ _
   | exact ih3 _ _ _ _ _ _ _
   | exact LeO.none _
   | refine LeO.ite ?_ ?_
   | refine LeO.bind ?_ (fun _ => ?_)
  ·
   intro y0 y1 y2 y3 y4 y5 y6
   unfold impl_isStep.j1
   repeat' first
   | (with_reducible exact ih0 _ _ _ _ _ _ _ _ _)
   | (with_reducible exact ih1 _ _ _ _ _ _ _)
   | (with_reducible exact ih2 _ _ _ _ _ _ _ _)
   | (with_reducible exact ih3 _ _ _ _ _ _ _)
   | (with_reducible exact LeO.refl _)
   | (with_reducible exact LeO.none _)
   | (with_reducible refine LeO.ite ?_ ?_)
   | (with_reducible refine LeO.bind ?_ (fun _ => ?_))
   | exact ih0 _ _ _ _ _ _ _ _ _
   | exact ih1 _ _ _ _ _ _ _
   | exact ih2 _ _ _ _ _ _ _ _
   | exact ih3 _ _ _ _ _ _ _
   | exact LeO.none _
   | refine LeO.ite ?_ ?_
   | refine LeO.bind ?_ (fun _ => ?_)
  ·
   intro y0 y1 y2 y3 y4 y5 y6 y7
   unfold impl_isStep.j2
   repeat' first
   | (with_reducible exact ih0 _ _ _ _ _ _ _ _ _)
   | (with_reducible exact ih1 _ _ _ _ _ _ _)
   | (with_reducible exact ih2 _ _ _ _ _ _ _ _)
   | (with_reducible exact ih3 _ _ _ _ _ _ _)
   | (with_reducible exact LeO.refl _)
   | (with_reducible exact LeO.none _)
   | (with_reducible refine LeO.ite ?_ ?_)
   | (with_reducible refine LeO.bind ?_ (fun _ => ?_))
   | exact ih0 _ _ _ _ _ _ _ _ _
   | exact ih1 _ _ _ _ _ _ _
   | exact ih2 _ _ _ _ _ _ _ _
   | exact ih3 _ _ _ _ _ _ _
   | exact LeO.none _
   | refine LeO.ite ?_ ?_
   | refine LeO.bind ?_ (fun _ => ?_)
  ·
   intro y0 y1 y2 y3 y4 y5 y6
   unfold impl_isStep.j3
   repeat' first
   | (with_reducible exact ih0 _ _ _ _ _ _ _ _ _)
   | (with_reducible exact ih1 _ _ _ _ _ _ _)
   | (with_reducible exact ih2 _ _ _ _ _ _ _ _)
   | (with_reducible exact ih3 _ _ _ _ _ _ _)
   | (with_reducible exact LeO.refl _)
   | (with_reducible exact LeO.none _)
   | (with_reducible refine LeO.ite ?_ ?_)
   | (with_reducible refine LeO.bind ?_ (fun _ => ?_))
   | exact ih0 _ _ _ _ _ _ _ _ _
   | exact ih1 _ _ _ _ _ _ _
   | exact ih2 _ _ _ _ _ _ _ _
   | exact ih3 _ _ _ _ _ _ _
   | exact LeO.none _
   | refine LeO.ite ?_ ?_
   | refine LeO.bind ?_ (fun _ => ?_)
theorem impl_isStep.mono : ∀ a0 a1 a2 a3 a4 k, LeO (impl_isStep.f k a0 a1 a2 a3 a4) (impl_isStep.f (k + 1) a0 a1 a2 a3 a4) := by
 intro a0 a1 a2 a3 a4 k
 obtain ⟨ih0, ih1, ih2, ih3⟩ := impl_isStep.mono_l k
 unfold impl_isStep.f
 repeat' first
   | (with_reducible exact ih0 _ _ _ _ _ _ _ _ _)
   | (with_reducible exact ih1 _ _ _ _ _ _ _)
   | (with_reducible exact ih2 _ _ _ _ _ _ _ _)
   | (with_reducible exact ih3 _ _ _ _ _ _ _)
   | (with_reducible exact LeO.refl _)
   | (with_reducible exact LeO.none _)
   | (with_reducible refine LeO.ite ?_ ?_)
   | (with_reducible refine LeO.bind ?_ (fun _ => ?_))
   | exact ih0 _ _ _ _ _ _ _ _ _
   | exact ih1 _ _ _ _ _ _ _
   | exact ih2 _ _ _ _ _ _ _ _
   | exact ih3 _ _ _ _ _ _ _
   | exact LeO.none _
   | refine LeO.ite ?_ ?_
   | refine LeO.bind ?_ (fun _ => ?_)
set_option maxHeartbeats 8000000 in
set_option maxRecDepth 100000 in
theorem impl_isStep.calls (k : Nat) (a0_0 : Int) (a0_1 : Int) (a0_2 : Int) (a0_3 : ByteArray) (a1 : Int) (r : Bool) (w : World) (h : impl_isStep.f k a0_0 a0_1 a0_2 a0_3 a1 = some r) :
  Calls Try.prog 48 #[.agg #[.int .i64 a0_0, .int .i64 a0_1, .int .i64 a0_2, .string a0_3], .int .i64 a1] w fun e w' => e = .returned (.bool r) ∧ Below w.heap.size w w' := by
 have hu34 := Try.underlying34
 have HB := Aside0.mk (Below.refl w.heap.size w)
 have H : ((impl_within.f a0_1 0 (wrap64 (a1 - 1))).bind fun t332 => (if a0_0 = 3 then (impl_isStep.j0 k a1 t332 (a0_2 == 0) (a0_3.toList == ([] : List UInt8)) true a0_0 a0_1 a0_2 a0_3) else (impl_isStep.j0 k a1 t332 (a0_2 == 0) (a0_3.toList == ([] : List UInt8)) (a0_0 == 4) a0_0 a0_1 a0_2 a0_3))) = some r := h
 clear h
 replace H := Option.bind_eq_some_iff.mp H
 obtain ⟨t332, A30, H⟩ := H
 replace H : (if a0_0 = 3 then (impl_isStep.j0 k a1 t332 (a0_2 == 0) (a0_3.toList == ([] : List UInt8)) true a0_0 a0_1 a0_2 a0_3) else (impl_isStep.j0 k a1 t332 (a0_2 == 0) (a0_3.toList == ([] : List UInt8)) (a0_0 == 4) a0_0 a0_1 a0_2 a0_3)) = some r := H
 have A3 := Aside0.mk A30
 clear A30
 have HC4 := Aside0.mk H
 clear H
 go_enter Try.func48, Try.ntmps48
 go_upto_region 2 with (first | ((with_reducible refine gate_dst (N := 2) rfl ?_); refine box_event ?hg (N := 2) ?hd (cs := #[.int .i64 a0_0, .int .i64 a0_1, .int .i64 a0_2, .string a0_3]) (t := 34) ?hr ?_; (case hd => rfl); (case hg => rfl); (case hr => first | (go_simp; done) | (go_simp; rfl)); intro gb331 hg w5 hbox hb; have n0_ := Aside0.mk (below_step (by repeat (first | (with_reducible first | exact HB.out | apply below_alloc | apply pw_below_drewN | apply below_drew1) | exact HB.out)) hb); have n1_ := Aside0.mk (hbox); have n2_ := Aside0.mk ((by rw [hg]; exact (below_size (by repeat (first | (with_reducible first | exact HB.out | apply below_alloc | apply pw_below_drewN | apply below_drew1) | exact HB.out))) : w.heap.size ≤ gb331)); have n3_ := Aside0.mk ((by rw [hg]; exact (below_size (by repeat (first | (with_reducible first | exact HB.out | apply below_alloc | apply pw_below_drewN | apply below_drew1) | exact HB.out))) : w.heap.size ≤ gb331)); clear HB; have HB := n0_; have BK331 := n1_; have GW331 := n2_; have GE331 := n3_; clear n0_ n1_ n2_ n3_; clear hb hbox hg; have hcz6_0 : w5.cell? ⟨gb331, 0, none⟩ = some (.int .i64 a0_0) := (blk_cell BK331.out 0).trans rfl; have hcz6_1 : w5.cell? ⟨gb331, 1, none⟩ = some (.int .i64 a0_1) := (blk_cell BK331.out 1).trans rfl; have hcz6_2 : w5.cell? ⟨gb331, 2, none⟩ = some (.int .i64 a0_2) := (blk_cell BK331.out 2).trans rfl; have hcz6_3 : w5.cell? ⟨gb331, 3, none⟩ = some (.string a0_3) := (blk_cell BK331.out 3).trans rfl; have hfz6_0 := blk_frozen BK331.out 0; have hfz6_1 := blk_frozen BK331.out 1; have hfz6_2 := blk_frozen BK331.out 2; have hfz6_3 := blk_frozen BK331.out 3) | (go_at_call 53; (with_reducible refine (impl_within.calls a0_1 0 (wrap64 (a1 - 1)) t332 _ A3.out).mono ?_); rintro e w' ⟨rfl, ⟨nd, rfl⟩⟩; (try first | exact ⟨rfl, _, World.drewN_drewN _ _ _⟩ | exact ⟨rfl, _, Eq.trans (World.drewN_drewN _ _ _) (congrArg (World.drewN _) (Nat.add_assoc _ _ _))⟩)))
 repeat (go_quiet (first | ((with_reducible refine gate_dst (N := 2) rfl ?_); refine box_event ?hg (N := 2) ?hd (cs := #[.int .i64 a0_0, .int .i64 a0_1, .int .i64 a0_2, .string a0_3]) (t := 34) ?hr ?_; (case hd => rfl); (case hg => rfl); (case hr => first | (go_simp; done) | (go_simp; rfl)); intro gb331 hg w5 hbox hb; have n0_ := Aside0.mk (below_step (by repeat (first | (with_reducible first | exact HB.out | apply below_alloc | apply pw_below_drewN | apply below_drew1) | exact HB.out)) hb); have n1_ := Aside0.mk (hbox); have n2_ := Aside0.mk ((by rw [hg]; exact (below_size (by repeat (first | (with_reducible first | exact HB.out | apply below_alloc | apply pw_below_drewN | apply below_drew1) | exact HB.out))) : w.heap.size ≤ gb331)); have n3_ := Aside0.mk ((by rw [hg]; exact (below_size (by repeat (first | (with_reducible first | exact HB.out | apply below_alloc | apply pw_below_drewN | apply below_drew1) | exact HB.out))) : w.heap.size ≤ gb331)); clear HB; have HB := n0_; have BK331 := n1_; have GW331 := n2_; have GE331 := n3_; clear n0_ n1_ n2_ n3_; clear hb hbox hg; have hcz6_0 : w5.cell? ⟨gb331, 0, none⟩ = some (.int .i64 a0_0) := (blk_cell BK331.out 0).trans rfl; have hcz6_1 : w5.cell? ⟨gb331, 1, none⟩ = some (.int .i64 a0_1) := (blk_cell BK331.out 1).trans rfl; have hcz6_2 : w5.cell? ⟨gb331, 2, none⟩ = some (.int .i64 a0_2) := (blk_cell BK331.out 2).trans rfl; have hcz6_3 : w5.cell? ⟨gb331, 3, none⟩ = some (.string a0_3) := (blk_cell BK331.out 3).trans rfl; have hfz6_0 := blk_frozen BK331.out 0; have hfz6_1 := blk_frozen BK331.out 1; have hfz6_2 := blk_frozen BK331.out 2; have hfz6_3 := blk_frozen BK331.out 3) | (go_at_call 53; (with_reducible refine (impl_within.calls a0_1 0 (wrap64 (a1 - 1)) t332 _ A3.out).mono ?_); rintro e w' ⟨rfl, ⟨nd, rfl⟩⟩; (try first | exact ⟨rfl, _, World.drewN_drewN _ _ _⟩ | exact ⟨rfl, _, Eq.trans (World.drewN_drewN _ _ _) (congrArg (World.drewN _) (Nat.add_assoc _ _ _))⟩))); go_upto_region 2 with (first | ((with_reducible refine gate_dst (N := 2) rfl ?_); refine box_event ?hg (N := 2) ?hd (cs := #[.int .i64 a0_0, .int .i64 a0_1, .int .i64 a0_2, .string a0_3]) (t := 34) ?hr ?_; (case hd => rfl); (case hg => rfl); (case hr => first | (go_simp; done) | (go_simp; rfl)); intro gb331 hg w5 hbox hb; have n0_ := Aside0.mk (below_step (by repeat (first | (with_reducible first | exact HB.out | apply below_alloc | apply pw_below_drewN | apply below_drew1) | exact HB.out)) hb); have n1_ := Aside0.mk (hbox); have n2_ := Aside0.mk ((by rw [hg]; exact (below_size (by repeat (first | (with_reducible first | exact HB.out | apply below_alloc | apply pw_below_drewN | apply below_drew1) | exact HB.out))) : w.heap.size ≤ gb331)); have n3_ := Aside0.mk ((by rw [hg]; exact (below_size (by repeat (first | (with_reducible first | exact HB.out | apply below_alloc | apply pw_below_drewN | apply below_drew1) | exact HB.out))) : w.heap.size ≤ gb331)); clear HB; have HB := n0_; have BK331 := n1_; have GW331 := n2_; have GE331 := n3_; clear n0_ n1_ n2_ n3_; clear hb hbox hg; have hcz6_0 : w5.cell? ⟨gb331, 0, none⟩ = some (.int .i64 a0_0) := (blk_cell BK331.out 0).trans rfl; have hcz6_1 : w5.cell? ⟨gb331, 1, none⟩ = some (.int .i64 a0_1) := (blk_cell BK331.out 1).trans rfl; have hcz6_2 : w5.cell? ⟨gb331, 2, none⟩ = some (.int .i64 a0_2) := (blk_cell BK331.out 2).trans rfl; have hcz6_3 : w5.cell? ⟨gb331, 3, none⟩ = some (.string a0_3) := (blk_cell BK331.out 3).trans rfl; have hfz6_0 := blk_frozen BK331.out 0; have hfz6_1 := blk_frozen BK331.out 1; have hfz6_2 := blk_frozen BK331.out 2; have hfz6_3 := blk_frozen BK331.out 3) | (go_at_call 53; (with_reducible refine (impl_within.calls a0_1 0 (wrap64 (a1 - 1)) t332 _ A3.out).mono ?_); rintro e w' ⟨rfl, ⟨nd, rfl⟩⟩; (try first | exact ⟨rfl, _, World.drewN_drewN _ _ _⟩ | exact ⟨rfl, _, Eq.trans (World.drewN_drewN _ _ _) (congrArg (World.drewN _) (Nat.add_assoc _ _ _))⟩))))
 (try simp only [Act.put, List.setIfInBounds_toArray, List.set_cons_zero, List.set_cons_succ])
 go_cut [26] (fun v26 wc => ∃ (kq : Nat) (x26_3 : Bool), v26 = .bool x26_3 ∧ Aside0 (impl_isStep.j0 kq a1 t332 (a0_2 == 0) (a0_3.toList == ([] : List UInt8)) x26_3 a0_0 a0_1 a0_2 a0_3 = some r) ∧ Aside0 (kq ≤ k) ∧ Aside0 (wc.heap[gb331]? = some (.cells #[.int .i64 a0_0, .int .i64 a0_1, .int .i64 a0_2, .string a0_3] 34 (0, 0))) ∧ Aside0 (Below w.heap.size w wc))
 case first =>
  have H := HC4.out
  clear HC4
  by_cases c7 : a0_0 = 3
  ·
   rw [if_pos c7] at H
   have c7b0 : (a0_0 == 3) = true := beq_iff_eq.mpr c7
   have c7b1 : (a0_0 != 3) = false := bne_eq_false_iff_eq.mpr c7
   clear c7
   (first | rw [c7b0] | (simp only [i64_w, i32_w]; rw [c7b0]) | skip)
   have H' := Aside0.mk H
   clear H
   have hcz8_0 : w5.cell? ⟨gb331, 0, none⟩ = some (.int .i64 a0_0) := (blk_cell BK331.out 0).trans rfl
   have hcz8_1 : w5.cell? ⟨gb331, 1, none⟩ = some (.int .i64 a0_1) := (blk_cell BK331.out 1).trans rfl
   have hcz8_2 : w5.cell? ⟨gb331, 2, none⟩ = some (.int .i64 a0_2) := (blk_cell BK331.out 2).trans rfl
   have hcz8_3 : w5.cell? ⟨gb331, 3, none⟩ = some (.string a0_3) := (blk_cell BK331.out 3).trans rfl
   have hfz8_0 := blk_frozen BK331.out 0
   have hfz8_1 := blk_frozen BK331.out 1
   have hfz8_2 := blk_frozen BK331.out 2
   have hfz8_3 := blk_frozen BK331.out 3
   go_wp2
   repeat (go_quiet (fail); try go_wp2)
   go_meet
   case rel => exact ⟨_, (true), (by first | rfl | (simp; done) | (simp [*]; done)), H', ⟨by first | omega | exact Nat.le_refl _⟩, ⟨by (with_reducible repeat (first | refine blk_drewN ?_ _ | refine blk_drew ?_ | refine blk_alloc ?_ _)); exact BK331.out⟩, ⟨by repeat (first | (with_reducible first | exact HB.out | apply below_alloc | apply pw_below_drewN | apply below_drew1 | refine below_set ?_ GE331.out) | exact HB.out)⟩⟩
  ·
   rw [if_neg c7] at H
   have c7b0 : (a0_0 == 3) = false := beq_eq_false_iff_ne.mpr c7
   have c7b1 : (a0_0 != 3) = true := bne_iff_ne.mpr c7
   (first | rw [c7b0] | (simp only [i64_w, i32_w]; rw [c7b0]) | skip)
   have H' := Aside0.mk H
   clear H
   have hcz9_0 : w5.cell? ⟨gb331, 0, none⟩ = some (.int .i64 a0_0) := (blk_cell BK331.out 0).trans rfl
   have hcz9_1 : w5.cell? ⟨gb331, 1, none⟩ = some (.int .i64 a0_1) := (blk_cell BK331.out 1).trans rfl
   have hcz9_2 : w5.cell? ⟨gb331, 2, none⟩ = some (.int .i64 a0_2) := (blk_cell BK331.out 2).trans rfl
   have hcz9_3 : w5.cell? ⟨gb331, 3, none⟩ = some (.string a0_3) := (blk_cell BK331.out 3).trans rfl
   have hfz9_0 := blk_frozen BK331.out 0
   have hfz9_1 := blk_frozen BK331.out 1
   have hfz9_2 := blk_frozen BK331.out 2
   have hfz9_3 := blk_frozen BK331.out 3
   go_wp2
   repeat (go_quiet (fail); try go_wp2)
   go_meet
   case rel => exact ⟨_, ((a0_0 == 4)), (by first | rfl | (simp; done) | (simp [*]; done)), H', ⟨by first | omega | exact Nat.le_refl _⟩, ⟨by (with_reducible repeat (first | refine blk_drewN ?_ _ | refine blk_drew ?_ | refine blk_alloc ?_ _)); exact BK331.out⟩, ⟨by repeat (first | (with_reducible first | exact HB.out | apply below_alloc | apply pw_below_drewN | apply below_drew1 | refine below_set ?_ GE331.out) | exact HB.out)⟩⟩
 case rest =>
  clear HC4
  try clear p2
  try clear c4
  try clear p6
  try clear c7
  try clear c7b0
  try clear c7b1
  try clear hcz6_0
  try clear hcz6_1
  try clear hcz6_2
  try clear hcz6_3
  try clear hcz8_0
  try clear hcz8_1
  try clear hcz8_2
  try clear hcz8_3
  try clear hcz9_0
  try clear hcz9_1
  try clear hcz9_2
  try clear hcz9_3
  try clear hfz6_0
  try clear hfz6_1
  try clear hfz6_2
  try clear hfz6_3
  try clear hfz8_0
  try clear hfz8_1
  try clear hfz8_2
  try clear hfz8_3
  try clear hfz9_0
  try clear hfz9_1
  try clear hfz9_2
  try clear hfz9_3
  obtain ⟨kq, x26_3, rfl, HA, HJ3, BK331, HB⟩ := hcut
  cases kq with
  | zero => exact absurd HA.out (by simp [impl_isStep.j0])
  | succ kj3 =>
   have H := HA.out
   clear HA
   simp only [impl_isStep.j0] at H
   have HC10 := Aside0.mk H
   clear H
   go_upto_if 26 with (fail)
   repeat (go_quiet (fail); go_upto_if 26 with (fail))
   go_cut [6] (fun v6 wc => ∃ (kq : Nat) (x6_9 : Bool), v6 = .bool x6_9 ∧ Aside0 (impl_isStep.j1 kq t332 x6_9 (a0_3.toList == ([] : List UInt8)) a0_0 a0_1 a0_2 a0_3 = some r) ∧ Aside0 (kq ≤ kj3) ∧ Aside0 (wc.heap[gb331]? = some (.cells #[.int .i64 a0_0, .int .i64 a0_1, .int .i64 a0_2, .string a0_3] 34 (0, 0))) ∧ Aside0 (Below w.heap.size w wc))
   case first =>
    have H := HC10.out
    clear HC10
    by_cases c11 : x26_3 = true
    ·
     subst c11
     have H1 : ((impl_within.f a0_2 0 (wrap64 (a1 - 1))).bind fun t333 => (impl_isStep.j1 kj3 t332 t333 (a0_3.toList == ([] : List UInt8)) a0_0 a0_1 a0_2 a0_3)) = some r := by rw [if_pos rfl] at H; exact H
     clear H
     have H := H1
     clear H1
     replace H := Option.bind_eq_some_iff.mp H
     obtain ⟨t333, A120, H⟩ := H
     replace H : (impl_isStep.j1 kj3 t332 t333 (a0_3.toList == ([] : List UInt8)) a0_0 a0_1 a0_2 a0_3) = some r := H
     have A12 := Aside0.mk A120
     clear A120
     have H' := Aside0.mk H
     clear H
     have hcz13_0 : wc.cell? ⟨gb331, 0, none⟩ = some (.int .i64 a0_0) := (blk_cell BK331.out 0).trans rfl
     have hcz13_1 : wc.cell? ⟨gb331, 1, none⟩ = some (.int .i64 a0_1) := (blk_cell BK331.out 1).trans rfl
     have hcz13_2 : wc.cell? ⟨gb331, 2, none⟩ = some (.int .i64 a0_2) := (blk_cell BK331.out 2).trans rfl
     have hcz13_3 : wc.cell? ⟨gb331, 3, none⟩ = some (.string a0_3) := (blk_cell BK331.out 3).trans rfl
     have hfz13_0 := blk_frozen BK331.out 0
     have hfz13_1 := blk_frozen BK331.out 1
     have hfz13_2 := blk_frozen BK331.out 2
     have hfz13_3 := blk_frozen BK331.out 3
     go_wp2_with (first | (go_at_call 53; (with_reducible refine (impl_within.calls a0_2 0 (wrap64 (a1 - 1)) t333 _ A12.out).mono ?_); rintro e w' ⟨rfl, ⟨nd, rfl⟩⟩; (try first | exact ⟨rfl, _, World.drewN_drewN _ _ _⟩ | exact ⟨rfl, _, Eq.trans (World.drewN_drewN _ _ _) (congrArg (World.drewN _) (Nat.add_assoc _ _ _))⟩)))
     repeat (go_quiet (first | (go_at_call 53; (with_reducible refine (impl_within.calls a0_2 0 (wrap64 (a1 - 1)) t333 _ A12.out).mono ?_); rintro e w' ⟨rfl, ⟨nd, rfl⟩⟩; (try first | exact ⟨rfl, _, World.drewN_drewN _ _ _⟩ | exact ⟨rfl, _, Eq.trans (World.drewN_drewN _ _ _) (congrArg (World.drewN _) (Nat.add_assoc _ _ _))⟩))); try go_wp2_with (first | (go_at_call 53; (with_reducible refine (impl_within.calls a0_2 0 (wrap64 (a1 - 1)) t333 _ A12.out).mono ?_); rintro e w' ⟨rfl, ⟨nd, rfl⟩⟩; (try first | exact ⟨rfl, _, World.drewN_drewN _ _ _⟩ | exact ⟨rfl, _, Eq.trans (World.drewN_drewN _ _ _) (congrArg (World.drewN _) (Nat.add_assoc _ _ _))⟩))))
     go_meet
     case rel => exact ⟨_, (t333), (by first | rfl | (simp; done) | (simp [*]; done)), H', ⟨by have := HJ3.out; first | omega | exact Nat.le_refl _⟩, ⟨by (with_reducible repeat (first | refine blk_drewN ?_ _ | refine blk_drew ?_ | refine blk_alloc ?_ _)); exact BK331.out⟩, ⟨by repeat (first | (with_reducible first | exact HB.out | apply below_alloc | apply pw_below_drewN | apply below_drew1 | refine below_set ?_ GE331.out) | exact HB.out)⟩⟩
    ·
     replace c11 := Bool.eq_false_iff.mpr c11
     subst c11
     have H1 : (impl_isStep.j1 kj3 t332 (a0_2 == 0) (a0_3.toList == ([] : List UInt8)) a0_0 a0_1 a0_2 a0_3) = some r := by rw [if_neg (show ¬ (false = true) by decide)] at H; exact H
     clear H
     have H := H1
     clear H1
     have H' := Aside0.mk H
     clear H
     go_wp2
     repeat (go_quiet (fail); try go_wp2)
     go_meet
     case rel => exact ⟨_, ((a0_2 == 0)), (by first | rfl | (simp; done) | (simp [*]; done)), H', ⟨by have := HJ3.out; first | omega | exact Nat.le_refl _⟩, ⟨by (with_reducible repeat (first | refine blk_drewN ?_ _ | refine blk_drew ?_ | refine blk_alloc ?_ _)); exact BK331.out⟩, ⟨by repeat (first | (with_reducible first | exact HB.out | apply below_alloc | apply pw_below_drewN | apply below_drew1 | refine below_set ?_ GE331.out) | exact HB.out)⟩⟩
   case rest =>
    clear HC10
    try clear c1
    try clear p2
    try clear c4
    try clear p6
    try clear c7
    try clear c7b0
    try clear c7b1
    try clear c11
    try clear hcz13_0
    try clear hcz13_1
    try clear hcz13_2
    try clear hcz13_3
    try clear hcz6_0
    try clear hcz6_1
    try clear hcz6_2
    try clear hcz6_3
    try clear hcz8_0
    try clear hcz8_1
    try clear hcz8_2
    try clear hcz8_3
    try clear hcz9_0
    try clear hcz9_1
    try clear hcz9_2
    try clear hcz9_3
    try clear hfz13_0
    try clear hfz13_1
    try clear hfz13_2
    try clear hfz13_3
    try clear hfz6_0
    try clear hfz6_1
    try clear hfz6_2
    try clear hfz6_3
    try clear hfz8_0
    try clear hfz8_1
    try clear hfz8_2
    try clear hfz8_3
    try clear hfz9_0
    try clear hfz9_1
    try clear hfz9_2
    try clear hfz9_3
    try clear p2
    try clear p6
    obtain ⟨kq, x6_9, rfl, HA, HJ9, BK331, HB⟩ := hcut
    cases kq with
    | zero => exact absurd HA.out (by simp [impl_isStep.j1])
    | succ kj9 =>
     have H := HA.out
     clear HA
     simp only [impl_isStep.j1] at H
     have HC14 := Aside0.mk H
     clear H
     go_upto_region 4 with (fail)
     repeat (go_quiet (fail); go_upto_region 4 with (fail))
     go_cut [39] (fun v39 wc => ∃ (kq : Nat) (x39_13 : Bool), v39 = .bool x39_13 ∧ Aside0 (impl_isStep.j2 kq t332 x6_9 (a0_3.toList == ([] : List UInt8)) x39_13 a0_0 a0_1 a0_2 a0_3 = some r) ∧ Aside0 (kq ≤ kj9) ∧ Aside0 (wc.heap[gb331]? = some (.cells #[.int .i64 a0_0, .int .i64 a0_1, .int .i64 a0_2, .string a0_3] 34 (0, 0))) ∧ Aside0 (Below w.heap.size w wc))
     case first =>
      have H := HC14.out
      clear HC14
      by_cases c15 : a0_0 = 2
      ·
       rw [if_pos c15] at H
       have c15b0 : (a0_0 == 2) = true := beq_iff_eq.mpr c15
       have c15b1 : (a0_0 != 2) = false := bne_eq_false_iff_eq.mpr c15
       clear c15
       (first | rw [c15b0] | (simp only [i64_w, i32_w]; rw [c15b0]) | skip)
       have H' := Aside0.mk H
       clear H
       have hcz16_0 : wc.cell? ⟨gb331, 0, none⟩ = some (.int .i64 a0_0) := (blk_cell BK331.out 0).trans rfl
       have hcz16_1 : wc.cell? ⟨gb331, 1, none⟩ = some (.int .i64 a0_1) := (blk_cell BK331.out 1).trans rfl
       have hcz16_2 : wc.cell? ⟨gb331, 2, none⟩ = some (.int .i64 a0_2) := (blk_cell BK331.out 2).trans rfl
       have hcz16_3 : wc.cell? ⟨gb331, 3, none⟩ = some (.string a0_3) := (blk_cell BK331.out 3).trans rfl
       have hfz16_0 := blk_frozen BK331.out 0
       have hfz16_1 := blk_frozen BK331.out 1
       have hfz16_2 := blk_frozen BK331.out 2
       have hfz16_3 := blk_frozen BK331.out 3
       go_wp2
       repeat (go_quiet (fail); try go_wp2)
       go_meet
       case rel => exact ⟨_, (true), (by first | rfl | (simp; done) | (simp [*]; done)), H', ⟨by have := HJ3.out; have := HJ9.out; first | omega | exact Nat.le_refl _⟩, ⟨by (with_reducible repeat (first | refine blk_drewN ?_ _ | refine blk_drew ?_ | refine blk_alloc ?_ _)); exact BK331.out⟩, ⟨by repeat (first | (with_reducible first | exact HB.out | apply below_alloc | apply pw_below_drewN | apply below_drew1 | refine below_set ?_ GE331.out) | exact HB.out)⟩⟩
      ·
       rw [if_neg c15] at H
       have c15b0 : (a0_0 == 2) = false := beq_eq_false_iff_ne.mpr c15
       have c15b1 : (a0_0 != 2) = true := bne_iff_ne.mpr c15
       (first | rw [c15b0] | (simp only [i64_w, i32_w]; rw [c15b0]) | skip)
       have H' := Aside0.mk H
       clear H
       have hcz17_0 : wc.cell? ⟨gb331, 0, none⟩ = some (.int .i64 a0_0) := (blk_cell BK331.out 0).trans rfl
       have hcz17_1 : wc.cell? ⟨gb331, 1, none⟩ = some (.int .i64 a0_1) := (blk_cell BK331.out 1).trans rfl
       have hcz17_2 : wc.cell? ⟨gb331, 2, none⟩ = some (.int .i64 a0_2) := (blk_cell BK331.out 2).trans rfl
       have hcz17_3 : wc.cell? ⟨gb331, 3, none⟩ = some (.string a0_3) := (blk_cell BK331.out 3).trans rfl
       have hfz17_0 := blk_frozen BK331.out 0
       have hfz17_1 := blk_frozen BK331.out 1
       have hfz17_2 := blk_frozen BK331.out 2
       have hfz17_3 := blk_frozen BK331.out 3
       go_wp2
       repeat (go_quiet (fail); try go_wp2)
       go_meet
       case rel => exact ⟨_, ((a0_0 == 4)), (by first | rfl | (simp; done) | (simp [*]; done)), H', ⟨by have := HJ3.out; have := HJ9.out; first | omega | exact Nat.le_refl _⟩, ⟨by (with_reducible repeat (first | refine blk_drewN ?_ _ | refine blk_drew ?_ | refine blk_alloc ?_ _)); exact BK331.out⟩, ⟨by repeat (first | (with_reducible first | exact HB.out | apply below_alloc | apply pw_below_drewN | apply below_drew1 | refine below_set ?_ GE331.out) | exact HB.out)⟩⟩
     case rest =>
      clear HC14
      try clear c1
      try clear p2
      try clear c4
      try clear p6
      try clear c7
      try clear c7b0
      try clear c7b1
      try clear c11
      try clear c15
      try clear c15b0
      try clear c15b1
      try clear hcz13_0
      try clear hcz13_1
      try clear hcz13_2
      try clear hcz13_3
      try clear hcz16_0
      try clear hcz16_1
      try clear hcz16_2
      try clear hcz16_3
      try clear hcz17_0
      try clear hcz17_1
      try clear hcz17_2
      try clear hcz17_3
      try clear hcz6_0
      try clear hcz6_1
      try clear hcz6_2
      try clear hcz6_3
      try clear hcz8_0
      try clear hcz8_1
      try clear hcz8_2
      try clear hcz8_3
      try clear hcz9_0
      try clear hcz9_1
      try clear hcz9_2
      try clear hcz9_3
      try clear hfz13_0
      try clear hfz13_1
      try clear hfz13_2
      try clear hfz13_3
      try clear hfz16_0
      try clear hfz16_1
      try clear hfz16_2
      try clear hfz16_3
      try clear hfz17_0
      try clear hfz17_1
      try clear hfz17_2
      try clear hfz17_3
      try clear hfz6_0
      try clear hfz6_1
      try clear hfz6_2
      try clear hfz6_3
      try clear hfz8_0
      try clear hfz8_1
      try clear hfz8_2
      try clear hfz8_3
      try clear hfz9_0
      try clear hfz9_1
      try clear hfz9_2
      try clear hfz9_3
      try clear p2
      try clear p6
      obtain ⟨kq, x39_13, rfl, HA, HJ13, BK331, HB⟩ := hcut
      cases kq with
      | zero => exact absurd HA.out (by simp [impl_isStep.j2])
      | succ kj13 =>
       have H := HA.out
       clear HA
       simp only [impl_isStep.j2] at H
       have HC18 := Aside0.mk H
       clear H
       go_upto_if 39 with (fail)
       repeat (go_quiet (fail); go_upto_if 39 with (fail))
       go_cut [7] (fun v7 wc => ∃ (kq : Nat) (x7_17 : Bool), v7 = .bool x7_17 ∧ Aside0 (impl_isStep.j3 kq t332 x6_9 x7_17 a0_0 a0_1 a0_2 a0_3 = some r) ∧ Aside0 (kq ≤ kj13) ∧ Aside0 (wc.heap[gb331]? = some (.cells #[.int .i64 a0_0, .int .i64 a0_1, .int .i64 a0_2, .string a0_3] 34 (0, 0))) ∧ Aside0 (Below w.heap.size w wc))
       case first =>
        have H := HC18.out
        clear HC18
        by_cases c19 : x39_13 = true
        ·
         subst c19
         have H1 : (impl_isStep.j3 kj13 t332 x6_9 ((a0_3.size : Int) == 8) a0_0 a0_1 a0_2 a0_3) = some r := by rw [if_pos rfl] at H; exact H
         clear H
         have H := H1
         clear H1
         have H' := Aside0.mk H
         clear H
         have hcz20_0 : wc.cell? ⟨gb331, 0, none⟩ = some (.int .i64 a0_0) := (blk_cell BK331.out 0).trans rfl
         have hcz20_1 : wc.cell? ⟨gb331, 1, none⟩ = some (.int .i64 a0_1) := (blk_cell BK331.out 1).trans rfl
         have hcz20_2 : wc.cell? ⟨gb331, 2, none⟩ = some (.int .i64 a0_2) := (blk_cell BK331.out 2).trans rfl
         have hcz20_3 : wc.cell? ⟨gb331, 3, none⟩ = some (.string a0_3) := (blk_cell BK331.out 3).trans rfl
         have hfz20_0 := blk_frozen BK331.out 0
         have hfz20_1 := blk_frozen BK331.out 1
         have hfz20_2 := blk_frozen BK331.out 2
         have hfz20_3 := blk_frozen BK331.out 3
         go_wp2
         repeat (go_quiet (fail); try go_wp2)
         go_meet
         case rel => exact ⟨_, (((a0_3.size : Int) == 8)), (by first | rfl | (simp; done) | (simp [*]; done)), H', ⟨by have := HJ3.out; have := HJ9.out; have := HJ13.out; first | omega | exact Nat.le_refl _⟩, ⟨by (with_reducible repeat (first | refine blk_drewN ?_ _ | refine blk_drew ?_ | refine blk_alloc ?_ _)); exact BK331.out⟩, ⟨by repeat (first | (with_reducible first | exact HB.out | apply below_alloc | apply pw_below_drewN | apply below_drew1 | refine below_set ?_ GE331.out) | exact HB.out)⟩⟩
        ·
         replace c19 := Bool.eq_false_iff.mpr c19
         subst c19
         have H1 : (impl_isStep.j3 kj13 t332 x6_9 (a0_3.toList == ([] : List UInt8)) a0_0 a0_1 a0_2 a0_3) = some r := by rw [if_neg (show ¬ (false = true) by decide)] at H; exact H
         clear H
         have H := H1
         clear H1
         have H' := Aside0.mk H
         clear H
         go_wp2
         repeat (go_quiet (fail); try go_wp2)
         go_meet
         case rel => exact ⟨_, ((a0_3.toList == ([] : List UInt8))), (by first | rfl | (simp; done) | (simp [*]; done)), H', ⟨by have := HJ3.out; have := HJ9.out; have := HJ13.out; first | omega | exact Nat.le_refl _⟩, ⟨by (with_reducible repeat (first | refine blk_drewN ?_ _ | refine blk_drew ?_ | refine blk_alloc ?_ _)); exact BK331.out⟩, ⟨by repeat (first | (with_reducible first | exact HB.out | apply below_alloc | apply pw_below_drewN | apply below_drew1 | refine below_set ?_ GE331.out) | exact HB.out)⟩⟩
       case rest =>
        clear HC18
        try clear c1
        try clear p2
        try clear c4
        try clear p6
        try clear c7
        try clear c7b0
        try clear c7b1
        try clear c11
        try clear c15
        try clear c15b0
        try clear c15b1
        try clear c19
        try clear hcz13_0
        try clear hcz13_1
        try clear hcz13_2
        try clear hcz13_3
        try clear hcz16_0
        try clear hcz16_1
        try clear hcz16_2
        try clear hcz16_3
        try clear hcz17_0
        try clear hcz17_1
        try clear hcz17_2
        try clear hcz17_3
        try clear hcz20_0
        try clear hcz20_1
        try clear hcz20_2
        try clear hcz20_3
        try clear hcz6_0
        try clear hcz6_1
        try clear hcz6_2
        try clear hcz6_3
        try clear hcz8_0
        try clear hcz8_1
        try clear hcz8_2
        try clear hcz8_3
        try clear hcz9_0
        try clear hcz9_1
        try clear hcz9_2
        try clear hcz9_3
        try clear hfz13_0
        try clear hfz13_1
        try clear hfz13_2
        try clear hfz13_3
        try clear hfz16_0
        try clear hfz16_1
        try clear hfz16_2
        try clear hfz16_3
        try clear hfz17_0
        try clear hfz17_1
        try clear hfz17_2
        try clear hfz17_3
        try clear hfz20_0
        try clear hfz20_1
        try clear hfz20_2
        try clear hfz20_3
        try clear hfz6_0
        try clear hfz6_1
        try clear hfz6_2
        try clear hfz6_3
        try clear hfz8_0
        try clear hfz8_1
        try clear hfz8_2
        try clear hfz8_3
        try clear hfz9_0
        try clear hfz9_1
        try clear hfz9_2
        try clear hfz9_3
        try clear p2
        try clear p6
        obtain ⟨kq, x7_17, rfl, HA, HJ17, BK331, HB⟩ := hcut
        cases kq with
        | zero => exact absurd HA.out (by simp [impl_isStep.j3])
        | succ kj17 =>
         have H := HA.out
         clear HA
         simp only [impl_isStep.j3] at H
         by_cases c21 : a0_0 = 5
         ·
          rw [if_pos c21] at H
          have c21b0 : (a0_0 == 5) = true := beq_iff_eq.mpr c21
          have c21b1 : (a0_0 != 5) = false := bne_eq_false_iff_eq.mpr c21
          clear c21
          replace H := Option.bind_eq_some_iff.mp H
          obtain ⟨t334, A220, H⟩ := H
          replace H : ((impl_within.f a0_0 1 5).bind fun t335 => (if t335 = true then (if a0_1 = 0 then (if t334 = true then (some x7_17) else (some false)) else (some false)) else (some false))) = some r := H
          have A22 := Aside0.mk A220
          clear A220
          replace H := Option.bind_eq_some_iff.mp H
          obtain ⟨t335, A230, H⟩ := H
          replace H : (if t335 = true then (if a0_1 = 0 then (if t334 = true then (some x7_17) else (some false)) else (some false)) else (some false)) = some r := H
          have A23 := Aside0.mk A230
          clear A230
          by_cases c24 : t335 = true
          ·
           subst c24
           have H1 : (if a0_1 = 0 then (if t334 = true then (some x7_17) else (some false)) else (some false)) = some r := by rw [if_pos rfl] at H; exact H
           clear H
           have H := H1
           clear H1
           by_cases c25 : a0_1 = 0
           ·
            rw [if_pos c25] at H
            have c25b0 : (a0_1 == 0) = true := beq_iff_eq.mpr c25
            have c25b1 : (a0_1 != 0) = false := bne_eq_false_iff_eq.mpr c25
            clear c25
            by_cases c26 : t334 = true
            ·
             subst c26
             have H1 : (some x7_17) = some r := by rw [if_pos rfl] at H; exact H
             clear H
             have H := H1
             clear H1
             obtain rfl := Option.some.inj H
             have hcz27_0 : wc.cell? ⟨gb331, 0, none⟩ = some (.int .i64 a0_0) := (blk_cell BK331.out 0).trans rfl
             have hcz27_1 : wc.cell? ⟨gb331, 1, none⟩ = some (.int .i64 a0_1) := (blk_cell BK331.out 1).trans rfl
             have hcz27_2 : wc.cell? ⟨gb331, 2, none⟩ = some (.int .i64 a0_2) := (blk_cell BK331.out 2).trans rfl
             have hcz27_3 : wc.cell? ⟨gb331, 3, none⟩ = some (.string a0_3) := (blk_cell BK331.out 3).trans rfl
             have hfz27_0 := blk_frozen BK331.out 0
             have hfz27_1 := blk_frozen BK331.out 1
             have hfz27_2 := blk_frozen BK331.out 2
             have hfz27_3 := blk_frozen BK331.out 3
             go_wp2_with (first | (go_at_call 58; (with_reducible refine (impl_isTime.calls a0_2 true _ A22.out).mono ?_); rintro e w' ⟨rfl, ⟨nd, rfl⟩⟩; (try first | exact ⟨rfl, _, World.drewN_drewN _ _ _⟩ | exact ⟨rfl, _, Eq.trans (World.drewN_drewN _ _ _) (congrArg (World.drewN _) (Nat.add_assoc _ _ _))⟩)) | (go_at_call 53; (with_reducible refine (impl_within.calls a0_0 1 5 true _ A23.out).mono ?_); rintro e w' ⟨rfl, ⟨nd, rfl⟩⟩; (try first | exact ⟨rfl, _, World.drewN_drewN _ _ _⟩ | exact ⟨rfl, _, Eq.trans (World.drewN_drewN _ _ _) (congrArg (World.drewN _) (Nat.add_assoc _ _ _))⟩)))
             repeat (go_quiet (first | (go_at_call 58; (with_reducible refine (impl_isTime.calls a0_2 true _ A22.out).mono ?_); rintro e w' ⟨rfl, ⟨nd, rfl⟩⟩; (try first | exact ⟨rfl, _, World.drewN_drewN _ _ _⟩ | exact ⟨rfl, _, Eq.trans (World.drewN_drewN _ _ _) (congrArg (World.drewN _) (Nat.add_assoc _ _ _))⟩)) | (go_at_call 53; (with_reducible refine (impl_within.calls a0_0 1 5 true _ A23.out).mono ?_); rintro e w' ⟨rfl, ⟨nd, rfl⟩⟩; (try first | exact ⟨rfl, _, World.drewN_drewN _ _ _⟩ | exact ⟨rfl, _, Eq.trans (World.drewN_drewN _ _ _) (congrArg (World.drewN _) (Nat.add_assoc _ _ _))⟩))); try go_wp2_with (first | (go_at_call 58; (with_reducible refine (impl_isTime.calls a0_2 true _ A22.out).mono ?_); rintro e w' ⟨rfl, ⟨nd, rfl⟩⟩; (try first | exact ⟨rfl, _, World.drewN_drewN _ _ _⟩ | exact ⟨rfl, _, Eq.trans (World.drewN_drewN _ _ _) (congrArg (World.drewN _) (Nat.add_assoc _ _ _))⟩)) | (go_at_call 53; (with_reducible refine (impl_within.calls a0_0 1 5 true _ A23.out).mono ?_); rintro e w' ⟨rfl, ⟨nd, rfl⟩⟩; (try first | exact ⟨rfl, _, World.drewN_drewN _ _ _⟩ | exact ⟨rfl, _, Eq.trans (World.drewN_drewN _ _ _) (congrArg (World.drewN _) (Nat.add_assoc _ _ _))⟩))))
             go_ret
             exact ⟨by first | rfl | (simp [errW_none, errW_some] <;> rfl) | (simp [*, errW_none, errW_some] <;> rfl), by repeat (first | (with_reducible first | exact HB.out | apply below_alloc | apply pw_below_drewN | apply below_drew1 | refine below_set ?_ GE331.out) | exact HB.out)⟩
            ·
             replace c26 := Bool.eq_false_iff.mpr c26
             subst c26
             have H1 : (some false) = some r := by rw [if_neg (show ¬ (false = true) by decide)] at H; exact H
             clear H
             have H := H1
             clear H1
             obtain rfl := Option.some.inj H
             have hcz28_0 : wc.cell? ⟨gb331, 0, none⟩ = some (.int .i64 a0_0) := (blk_cell BK331.out 0).trans rfl
             have hcz28_1 : wc.cell? ⟨gb331, 1, none⟩ = some (.int .i64 a0_1) := (blk_cell BK331.out 1).trans rfl
             have hcz28_2 : wc.cell? ⟨gb331, 2, none⟩ = some (.int .i64 a0_2) := (blk_cell BK331.out 2).trans rfl
             have hcz28_3 : wc.cell? ⟨gb331, 3, none⟩ = some (.string a0_3) := (blk_cell BK331.out 3).trans rfl
             have hfz28_0 := blk_frozen BK331.out 0
             have hfz28_1 := blk_frozen BK331.out 1
             have hfz28_2 := blk_frozen BK331.out 2
             have hfz28_3 := blk_frozen BK331.out 3
             go_wp2_with (first | (go_at_call 58; (with_reducible refine (impl_isTime.calls a0_2 false _ A22.out).mono ?_); rintro e w' ⟨rfl, ⟨nd, rfl⟩⟩; (try first | exact ⟨rfl, _, World.drewN_drewN _ _ _⟩ | exact ⟨rfl, _, Eq.trans (World.drewN_drewN _ _ _) (congrArg (World.drewN _) (Nat.add_assoc _ _ _))⟩)) | (go_at_call 53; (with_reducible refine (impl_within.calls a0_0 1 5 true _ A23.out).mono ?_); rintro e w' ⟨rfl, ⟨nd, rfl⟩⟩; (try first | exact ⟨rfl, _, World.drewN_drewN _ _ _⟩ | exact ⟨rfl, _, Eq.trans (World.drewN_drewN _ _ _) (congrArg (World.drewN _) (Nat.add_assoc _ _ _))⟩)))
             repeat (go_quiet (first | (go_at_call 58; (with_reducible refine (impl_isTime.calls a0_2 false _ A22.out).mono ?_); rintro e w' ⟨rfl, ⟨nd, rfl⟩⟩; (try first | exact ⟨rfl, _, World.drewN_drewN _ _ _⟩ | exact ⟨rfl, _, Eq.trans (World.drewN_drewN _ _ _) (congrArg (World.drewN _) (Nat.add_assoc _ _ _))⟩)) | (go_at_call 53; (with_reducible refine (impl_within.calls a0_0 1 5 true _ A23.out).mono ?_); rintro e w' ⟨rfl, ⟨nd, rfl⟩⟩; (try first | exact ⟨rfl, _, World.drewN_drewN _ _ _⟩ | exact ⟨rfl, _, Eq.trans (World.drewN_drewN _ _ _) (congrArg (World.drewN _) (Nat.add_assoc _ _ _))⟩))); try go_wp2_with (first | (go_at_call 58; (with_reducible refine (impl_isTime.calls a0_2 false _ A22.out).mono ?_); rintro e w' ⟨rfl, ⟨nd, rfl⟩⟩; (try first | exact ⟨rfl, _, World.drewN_drewN _ _ _⟩ | exact ⟨rfl, _, Eq.trans (World.drewN_drewN _ _ _) (congrArg (World.drewN _) (Nat.add_assoc _ _ _))⟩)) | (go_at_call 53; (with_reducible refine (impl_within.calls a0_0 1 5 true _ A23.out).mono ?_); rintro e w' ⟨rfl, ⟨nd, rfl⟩⟩; (try first | exact ⟨rfl, _, World.drewN_drewN _ _ _⟩ | exact ⟨rfl, _, Eq.trans (World.drewN_drewN _ _ _) (congrArg (World.drewN _) (Nat.add_assoc _ _ _))⟩))))
             go_ret
             exact ⟨by first | rfl | (simp [errW_none, errW_some] <;> rfl) | (simp [*, errW_none, errW_some] <;> rfl), by repeat (first | (with_reducible first | exact HB.out | apply below_alloc | apply pw_below_drewN | apply below_drew1 | refine below_set ?_ GE331.out) | exact HB.out)⟩
           ·
            rw [if_neg c25] at H
            have c25b0 : (a0_1 == 0) = false := beq_eq_false_iff_ne.mpr c25
            have c25b1 : (a0_1 != 0) = true := bne_iff_ne.mpr c25
            obtain rfl := Option.some.inj H
            have hcz29_0 : wc.cell? ⟨gb331, 0, none⟩ = some (.int .i64 a0_0) := (blk_cell BK331.out 0).trans rfl
            have hcz29_1 : wc.cell? ⟨gb331, 1, none⟩ = some (.int .i64 a0_1) := (blk_cell BK331.out 1).trans rfl
            have hcz29_2 : wc.cell? ⟨gb331, 2, none⟩ = some (.int .i64 a0_2) := (blk_cell BK331.out 2).trans rfl
            have hcz29_3 : wc.cell? ⟨gb331, 3, none⟩ = some (.string a0_3) := (blk_cell BK331.out 3).trans rfl
            have hfz29_0 := blk_frozen BK331.out 0
            have hfz29_1 := blk_frozen BK331.out 1
            have hfz29_2 := blk_frozen BK331.out 2
            have hfz29_3 := blk_frozen BK331.out 3
            go_wp2_with (first | (go_at_call 58; (with_reducible refine (impl_isTime.calls a0_2 t334 _ A22.out).mono ?_); rintro e w' ⟨rfl, ⟨nd, rfl⟩⟩; (try first | exact ⟨rfl, _, World.drewN_drewN _ _ _⟩ | exact ⟨rfl, _, Eq.trans (World.drewN_drewN _ _ _) (congrArg (World.drewN _) (Nat.add_assoc _ _ _))⟩)) | (go_at_call 53; (with_reducible refine (impl_within.calls a0_0 1 5 true _ A23.out).mono ?_); rintro e w' ⟨rfl, ⟨nd, rfl⟩⟩; (try first | exact ⟨rfl, _, World.drewN_drewN _ _ _⟩ | exact ⟨rfl, _, Eq.trans (World.drewN_drewN _ _ _) (congrArg (World.drewN _) (Nat.add_assoc _ _ _))⟩)))
            repeat (go_quiet (first | (go_at_call 58; (with_reducible refine (impl_isTime.calls a0_2 t334 _ A22.out).mono ?_); rintro e w' ⟨rfl, ⟨nd, rfl⟩⟩; (try first | exact ⟨rfl, _, World.drewN_drewN _ _ _⟩ | exact ⟨rfl, _, Eq.trans (World.drewN_drewN _ _ _) (congrArg (World.drewN _) (Nat.add_assoc _ _ _))⟩)) | (go_at_call 53; (with_reducible refine (impl_within.calls a0_0 1 5 true _ A23.out).mono ?_); rintro e w' ⟨rfl, ⟨nd, rfl⟩⟩; (try first | exact ⟨rfl, _, World.drewN_drewN _ _ _⟩ | exact ⟨rfl, _, Eq.trans (World.drewN_drewN _ _ _) (congrArg (World.drewN _) (Nat.add_assoc _ _ _))⟩))); try go_wp2_with (first | (go_at_call 58; (with_reducible refine (impl_isTime.calls a0_2 t334 _ A22.out).mono ?_); rintro e w' ⟨rfl, ⟨nd, rfl⟩⟩; (try first | exact ⟨rfl, _, World.drewN_drewN _ _ _⟩ | exact ⟨rfl, _, Eq.trans (World.drewN_drewN _ _ _) (congrArg (World.drewN _) (Nat.add_assoc _ _ _))⟩)) | (go_at_call 53; (with_reducible refine (impl_within.calls a0_0 1 5 true _ A23.out).mono ?_); rintro e w' ⟨rfl, ⟨nd, rfl⟩⟩; (try first | exact ⟨rfl, _, World.drewN_drewN _ _ _⟩ | exact ⟨rfl, _, Eq.trans (World.drewN_drewN _ _ _) (congrArg (World.drewN _) (Nat.add_assoc _ _ _))⟩))))
            go_ret
            exact ⟨by first | rfl | (simp [errW_none, errW_some] <;> rfl) | (simp [*, errW_none, errW_some] <;> rfl), by repeat (first | (with_reducible first | exact HB.out | apply below_alloc | apply pw_below_drewN | apply below_drew1 | refine below_set ?_ GE331.out) | exact HB.out)⟩
          ·
           replace c24 := Bool.eq_false_iff.mpr c24
           subst c24
           have H1 : (some false) = some r := by rw [if_neg (show ¬ (false = true) by decide)] at H; exact H
           clear H
           have H := H1
           clear H1
           obtain rfl := Option.some.inj H
           have hcz30_0 : wc.cell? ⟨gb331, 0, none⟩ = some (.int .i64 a0_0) := (blk_cell BK331.out 0).trans rfl
           have hcz30_1 : wc.cell? ⟨gb331, 1, none⟩ = some (.int .i64 a0_1) := (blk_cell BK331.out 1).trans rfl
           have hcz30_2 : wc.cell? ⟨gb331, 2, none⟩ = some (.int .i64 a0_2) := (blk_cell BK331.out 2).trans rfl
           have hcz30_3 : wc.cell? ⟨gb331, 3, none⟩ = some (.string a0_3) := (blk_cell BK331.out 3).trans rfl
           have hfz30_0 := blk_frozen BK331.out 0
           have hfz30_1 := blk_frozen BK331.out 1
           have hfz30_2 := blk_frozen BK331.out 2
           have hfz30_3 := blk_frozen BK331.out 3
           go_wp2_with (first | (go_at_call 58; (with_reducible refine (impl_isTime.calls a0_2 t334 _ A22.out).mono ?_); rintro e w' ⟨rfl, ⟨nd, rfl⟩⟩; (try first | exact ⟨rfl, _, World.drewN_drewN _ _ _⟩ | exact ⟨rfl, _, Eq.trans (World.drewN_drewN _ _ _) (congrArg (World.drewN _) (Nat.add_assoc _ _ _))⟩)) | (go_at_call 53; (with_reducible refine (impl_within.calls a0_0 1 5 false _ A23.out).mono ?_); rintro e w' ⟨rfl, ⟨nd, rfl⟩⟩; (try first | exact ⟨rfl, _, World.drewN_drewN _ _ _⟩ | exact ⟨rfl, _, Eq.trans (World.drewN_drewN _ _ _) (congrArg (World.drewN _) (Nat.add_assoc _ _ _))⟩)))
           repeat (go_quiet (first | (go_at_call 58; (with_reducible refine (impl_isTime.calls a0_2 t334 _ A22.out).mono ?_); rintro e w' ⟨rfl, ⟨nd, rfl⟩⟩; (try first | exact ⟨rfl, _, World.drewN_drewN _ _ _⟩ | exact ⟨rfl, _, Eq.trans (World.drewN_drewN _ _ _) (congrArg (World.drewN _) (Nat.add_assoc _ _ _))⟩)) | (go_at_call 53; (with_reducible refine (impl_within.calls a0_0 1 5 false _ A23.out).mono ?_); rintro e w' ⟨rfl, ⟨nd, rfl⟩⟩; (try first | exact ⟨rfl, _, World.drewN_drewN _ _ _⟩ | exact ⟨rfl, _, Eq.trans (World.drewN_drewN _ _ _) (congrArg (World.drewN _) (Nat.add_assoc _ _ _))⟩))); try go_wp2_with (first | (go_at_call 58; (with_reducible refine (impl_isTime.calls a0_2 t334 _ A22.out).mono ?_); rintro e w' ⟨rfl, ⟨nd, rfl⟩⟩; (try first | exact ⟨rfl, _, World.drewN_drewN _ _ _⟩ | exact ⟨rfl, _, Eq.trans (World.drewN_drewN _ _ _) (congrArg (World.drewN _) (Nat.add_assoc _ _ _))⟩)) | (go_at_call 53; (with_reducible refine (impl_within.calls a0_0 1 5 false _ A23.out).mono ?_); rintro e w' ⟨rfl, ⟨nd, rfl⟩⟩; (try first | exact ⟨rfl, _, World.drewN_drewN _ _ _⟩ | exact ⟨rfl, _, Eq.trans (World.drewN_drewN _ _ _) (congrArg (World.drewN _) (Nat.add_assoc _ _ _))⟩))))
           go_ret
           exact ⟨by first | rfl | (simp [errW_none, errW_some] <;> rfl) | (simp [*, errW_none, errW_some] <;> rfl), by repeat (first | (with_reducible first | exact HB.out | apply below_alloc | apply pw_below_drewN | apply below_drew1 | refine below_set ?_ GE331.out) | exact HB.out)⟩
         ·
          rw [if_neg c21] at H
          have c21b0 : (a0_0 == 5) = false := beq_eq_false_iff_ne.mpr c21
          have c21b1 : (a0_0 != 5) = true := bne_iff_ne.mpr c21
          replace H := Option.bind_eq_some_iff.mp H
          obtain ⟨t336, A310, H⟩ := H
          replace H : (if t336 = true then (if t332 = true then (if x6_9 = true then (some x7_17) else (some false)) else (some false)) else (some false)) = some r := H
          have A31 := Aside0.mk A310
          clear A310
          by_cases c32 : t336 = true
          ·
           subst c32
           have H1 : (if t332 = true then (if x6_9 = true then (some x7_17) else (some false)) else (some false)) = some r := by rw [if_pos rfl] at H; exact H
           clear H
           have H := H1
           clear H1
           by_cases c33 : t332 = true
           ·
            subst c33
            have H1 : (if x6_9 = true then (some x7_17) else (some false)) = some r := by rw [if_pos rfl] at H; exact H
            clear H
            have H := H1
            clear H1
            by_cases c34 : x6_9 = true
            ·
             subst c34
             have H1 : (some x7_17) = some r := by rw [if_pos rfl] at H; exact H
             clear H
             have H := H1
             clear H1
             obtain rfl := Option.some.inj H
             have hcz35_0 : wc.cell? ⟨gb331, 0, none⟩ = some (.int .i64 a0_0) := (blk_cell BK331.out 0).trans rfl
             have hcz35_1 : wc.cell? ⟨gb331, 1, none⟩ = some (.int .i64 a0_1) := (blk_cell BK331.out 1).trans rfl
             have hcz35_2 : wc.cell? ⟨gb331, 2, none⟩ = some (.int .i64 a0_2) := (blk_cell BK331.out 2).trans rfl
             have hcz35_3 : wc.cell? ⟨gb331, 3, none⟩ = some (.string a0_3) := (blk_cell BK331.out 3).trans rfl
             have hfz35_0 := blk_frozen BK331.out 0
             have hfz35_1 := blk_frozen BK331.out 1
             have hfz35_2 := blk_frozen BK331.out 2
             have hfz35_3 := blk_frozen BK331.out 3
             go_wp2_with (first | (go_at_call 53; (with_reducible refine (impl_within.calls a0_0 1 5 true _ A31.out).mono ?_); rintro e w' ⟨rfl, ⟨nd, rfl⟩⟩; (try first | exact ⟨rfl, _, World.drewN_drewN _ _ _⟩ | exact ⟨rfl, _, Eq.trans (World.drewN_drewN _ _ _) (congrArg (World.drewN _) (Nat.add_assoc _ _ _))⟩)))
             repeat (go_quiet (first | (go_at_call 53; (with_reducible refine (impl_within.calls a0_0 1 5 true _ A31.out).mono ?_); rintro e w' ⟨rfl, ⟨nd, rfl⟩⟩; (try first | exact ⟨rfl, _, World.drewN_drewN _ _ _⟩ | exact ⟨rfl, _, Eq.trans (World.drewN_drewN _ _ _) (congrArg (World.drewN _) (Nat.add_assoc _ _ _))⟩))); try go_wp2_with (first | (go_at_call 53; (with_reducible refine (impl_within.calls a0_0 1 5 true _ A31.out).mono ?_); rintro e w' ⟨rfl, ⟨nd, rfl⟩⟩; (try first | exact ⟨rfl, _, World.drewN_drewN _ _ _⟩ | exact ⟨rfl, _, Eq.trans (World.drewN_drewN _ _ _) (congrArg (World.drewN _) (Nat.add_assoc _ _ _))⟩))))
             go_ret
             exact ⟨by first | rfl | (simp [errW_none, errW_some] <;> rfl) | (simp [*, errW_none, errW_some] <;> rfl), by repeat (first | (with_reducible first | exact HB.out | apply below_alloc | apply pw_below_drewN | apply below_drew1 | refine below_set ?_ GE331.out) | exact HB.out)⟩
            ·
             replace c34 := Bool.eq_false_iff.mpr c34
             subst c34
             have H1 : (some false) = some r := by rw [if_neg (show ¬ (false = true) by decide)] at H; exact H
             clear H
             have H := H1
             clear H1
             obtain rfl := Option.some.inj H
             have hcz36_0 : wc.cell? ⟨gb331, 0, none⟩ = some (.int .i64 a0_0) := (blk_cell BK331.out 0).trans rfl
             have hcz36_1 : wc.cell? ⟨gb331, 1, none⟩ = some (.int .i64 a0_1) := (blk_cell BK331.out 1).trans rfl
             have hcz36_2 : wc.cell? ⟨gb331, 2, none⟩ = some (.int .i64 a0_2) := (blk_cell BK331.out 2).trans rfl
             have hcz36_3 : wc.cell? ⟨gb331, 3, none⟩ = some (.string a0_3) := (blk_cell BK331.out 3).trans rfl
             have hfz36_0 := blk_frozen BK331.out 0
             have hfz36_1 := blk_frozen BK331.out 1
             have hfz36_2 := blk_frozen BK331.out 2
             have hfz36_3 := blk_frozen BK331.out 3
             go_wp2_with (first | (go_at_call 53; (with_reducible refine (impl_within.calls a0_0 1 5 true _ A31.out).mono ?_); rintro e w' ⟨rfl, ⟨nd, rfl⟩⟩; (try first | exact ⟨rfl, _, World.drewN_drewN _ _ _⟩ | exact ⟨rfl, _, Eq.trans (World.drewN_drewN _ _ _) (congrArg (World.drewN _) (Nat.add_assoc _ _ _))⟩)))
             repeat (go_quiet (first | (go_at_call 53; (with_reducible refine (impl_within.calls a0_0 1 5 true _ A31.out).mono ?_); rintro e w' ⟨rfl, ⟨nd, rfl⟩⟩; (try first | exact ⟨rfl, _, World.drewN_drewN _ _ _⟩ | exact ⟨rfl, _, Eq.trans (World.drewN_drewN _ _ _) (congrArg (World.drewN _) (Nat.add_assoc _ _ _))⟩))); try go_wp2_with (first | (go_at_call 53; (with_reducible refine (impl_within.calls a0_0 1 5 true _ A31.out).mono ?_); rintro e w' ⟨rfl, ⟨nd, rfl⟩⟩; (try first | exact ⟨rfl, _, World.drewN_drewN _ _ _⟩ | exact ⟨rfl, _, Eq.trans (World.drewN_drewN _ _ _) (congrArg (World.drewN _) (Nat.add_assoc _ _ _))⟩))))
             go_ret
             exact ⟨by first | rfl | (simp [errW_none, errW_some] <;> rfl) | (simp [*, errW_none, errW_some] <;> rfl), by repeat (first | (with_reducible first | exact HB.out | apply below_alloc | apply pw_below_drewN | apply below_drew1 | refine below_set ?_ GE331.out) | exact HB.out)⟩
           ·
            replace c33 := Bool.eq_false_iff.mpr c33
            subst c33
            have H1 : (some false) = some r := by rw [if_neg (show ¬ (false = true) by decide)] at H; exact H
            clear H
            have H := H1
            clear H1
            obtain rfl := Option.some.inj H
            have hcz37_0 : wc.cell? ⟨gb331, 0, none⟩ = some (.int .i64 a0_0) := (blk_cell BK331.out 0).trans rfl
            have hcz37_1 : wc.cell? ⟨gb331, 1, none⟩ = some (.int .i64 a0_1) := (blk_cell BK331.out 1).trans rfl
            have hcz37_2 : wc.cell? ⟨gb331, 2, none⟩ = some (.int .i64 a0_2) := (blk_cell BK331.out 2).trans rfl
            have hcz37_3 : wc.cell? ⟨gb331, 3, none⟩ = some (.string a0_3) := (blk_cell BK331.out 3).trans rfl
            have hfz37_0 := blk_frozen BK331.out 0
            have hfz37_1 := blk_frozen BK331.out 1
            have hfz37_2 := blk_frozen BK331.out 2
            have hfz37_3 := blk_frozen BK331.out 3
            go_wp2_with (first | (go_at_call 53; (with_reducible refine (impl_within.calls a0_0 1 5 true _ A31.out).mono ?_); rintro e w' ⟨rfl, ⟨nd, rfl⟩⟩; (try first | exact ⟨rfl, _, World.drewN_drewN _ _ _⟩ | exact ⟨rfl, _, Eq.trans (World.drewN_drewN _ _ _) (congrArg (World.drewN _) (Nat.add_assoc _ _ _))⟩)))
            repeat (go_quiet (first | (go_at_call 53; (with_reducible refine (impl_within.calls a0_0 1 5 true _ A31.out).mono ?_); rintro e w' ⟨rfl, ⟨nd, rfl⟩⟩; (try first | exact ⟨rfl, _, World.drewN_drewN _ _ _⟩ | exact ⟨rfl, _, Eq.trans (World.drewN_drewN _ _ _) (congrArg (World.drewN _) (Nat.add_assoc _ _ _))⟩))); try go_wp2_with (first | (go_at_call 53; (with_reducible refine (impl_within.calls a0_0 1 5 true _ A31.out).mono ?_); rintro e w' ⟨rfl, ⟨nd, rfl⟩⟩; (try first | exact ⟨rfl, _, World.drewN_drewN _ _ _⟩ | exact ⟨rfl, _, Eq.trans (World.drewN_drewN _ _ _) (congrArg (World.drewN _) (Nat.add_assoc _ _ _))⟩))))
            go_ret
            exact ⟨by first | rfl | (simp [errW_none, errW_some] <;> rfl) | (simp [*, errW_none, errW_some] <;> rfl), by repeat (first | (with_reducible first | exact HB.out | apply below_alloc | apply pw_below_drewN | apply below_drew1 | refine below_set ?_ GE331.out) | exact HB.out)⟩
          ·
           replace c32 := Bool.eq_false_iff.mpr c32
           subst c32
           have H1 : (some false) = some r := by rw [if_neg (show ¬ (false = true) by decide)] at H; exact H
           clear H
           have H := H1
           clear H1
           obtain rfl := Option.some.inj H
           have hcz38_0 : wc.cell? ⟨gb331, 0, none⟩ = some (.int .i64 a0_0) := (blk_cell BK331.out 0).trans rfl
           have hcz38_1 : wc.cell? ⟨gb331, 1, none⟩ = some (.int .i64 a0_1) := (blk_cell BK331.out 1).trans rfl
           have hcz38_2 : wc.cell? ⟨gb331, 2, none⟩ = some (.int .i64 a0_2) := (blk_cell BK331.out 2).trans rfl
           have hcz38_3 : wc.cell? ⟨gb331, 3, none⟩ = some (.string a0_3) := (blk_cell BK331.out 3).trans rfl
           have hfz38_0 := blk_frozen BK331.out 0
           have hfz38_1 := blk_frozen BK331.out 1
           have hfz38_2 := blk_frozen BK331.out 2
           have hfz38_3 := blk_frozen BK331.out 3
           go_wp2_with (first | (go_at_call 53; (with_reducible refine (impl_within.calls a0_0 1 5 false _ A31.out).mono ?_); rintro e w' ⟨rfl, ⟨nd, rfl⟩⟩; (try first | exact ⟨rfl, _, World.drewN_drewN _ _ _⟩ | exact ⟨rfl, _, Eq.trans (World.drewN_drewN _ _ _) (congrArg (World.drewN _) (Nat.add_assoc _ _ _))⟩)))
           repeat (go_quiet (first | (go_at_call 53; (with_reducible refine (impl_within.calls a0_0 1 5 false _ A31.out).mono ?_); rintro e w' ⟨rfl, ⟨nd, rfl⟩⟩; (try first | exact ⟨rfl, _, World.drewN_drewN _ _ _⟩ | exact ⟨rfl, _, Eq.trans (World.drewN_drewN _ _ _) (congrArg (World.drewN _) (Nat.add_assoc _ _ _))⟩))); try go_wp2_with (first | (go_at_call 53; (with_reducible refine (impl_within.calls a0_0 1 5 false _ A31.out).mono ?_); rintro e w' ⟨rfl, ⟨nd, rfl⟩⟩; (try first | exact ⟨rfl, _, World.drewN_drewN _ _ _⟩ | exact ⟨rfl, _, Eq.trans (World.drewN_drewN _ _ _) (congrArg (World.drewN _) (Nat.add_assoc _ _ _))⟩))))
           go_ret
           exact ⟨by first | rfl | (simp [errW_none, errW_some] <;> rfl) | (simp [*, errW_none, errW_some] <;> rfl), by repeat (first | (with_reducible first | exact HB.out | apply below_alloc | apply pw_below_drewN | apply below_drew1 | refine below_set ?_ GE331.out) | exact HB.out)⟩

/-! ### impl_touches: function 49 -/
set_option maxHeartbeats 8000000 in
/-- A loop over structs with a predicate that keeps I. -/
theorem slices_IndexFunc_34.calls (I : World → Prop) (p : S34 → Bool) (g : Nat) (cap : Array Value) (eg : ∀ args w, (callFunc g args).run Try.prog w = .ok (.enter g args) w) (Ad : Option Addr) (c : Nat) (l : List S34) (w : World)
  (hR : Kd.C k34 w Ad l.length l) (hc : l.length ≤ c) (hbig : l.length ≤ 9223372036854775807) (hw : I w) (hI : ∀ W, I W → Below w.heap.size w W)
  (hp : ∀ (W : World), I W → ∀ x ∈ l, Calls Try.prog g (#[.agg #[.int .i64 x.f0, .int .i64 x.f1, .int .i64 x.f2, .string x.f3]] ++ cap) W fun e w' => e = .returned (.bool (p x)) ∧ I w') :
  Calls Try.prog 57 #[.slice Ad l.length c, .func (.func g) #[] cap] w fun e w' => e = .returned (.int .i64 (idxFrom p l 0)) ∧ I w' := by
 have HR := Aside0.mk hR
 clear hR
 go_enter Try.func57, Try.ntmps57
 go_wp2
 go_loopg [5, 8] l.length (fun gg _ s8 wr => ∃ kk : Nat, kk ≤ l.length ∧ l.length - kk ≤ gg ∧ s8 = .int .i64 kk ∧ Aside0 (I wr) ∧ Aside0 (idxFrom p l 0 = idxFrom p (l.drop kk) kk))
 case atStart => exact ⟨0, Nat.zero_le _, by omega, rfl, ⟨hw⟩, ⟨by simp⟩⟩
 case round =>
  obtain ⟨kk, hkk, hg, rfl, IW, IX⟩ := hrel
  by_cases hlt : kk < l.length
  ·
   have hltz : (kk : Int) < (l.length : Int) := by omega
   obtain ⟨ad, rfl, hx0, hx1, hx2, hx3⟩ := at_T34 HR.out (kk : Int) (by omega) hltz
   have hy : rd_T34 l (kk : Int) = l[kk] := by simp [rd_T34, hlt]
   rw [hy] at hx0; replace hx0 := ((hI wr IW.out).cell (World.block_lt_of_cell? _ _ hx0)).trans hx0; simp only [Int.toNat_natCast] at hx0
   rw [hy] at hx1; replace hx1 := ((hI wr IW.out).cell (World.block_lt_of_cell? _ _ hx1)).trans hx1; simp only [Int.toNat_natCast] at hx1
   rw [hy] at hx2; replace hx2 := ((hI wr IW.out).cell (World.block_lt_of_cell? _ _ hx2)).trans hx2; simp only [Int.toNat_natCast] at hx2
   rw [hy] at hx3; replace hx3 := ((hI wr IW.out).cell (World.block_lt_of_cell? _ _ hx3)).trans hx3; simp only [Int.toNat_natCast] at hx3
   have hcall := hp wr IW.out l[kk] (List.getElem_mem hlt)
   have IX2 := IX.out
   rw [idxFrom_drop l kk hlt, idxFrom] at IX2
   clear hp IX hy
   generalize l[kk] = y at hx0 hx1 hx2 hx3 hcall IX2
   have IX3 := Aside0.mk IX2
   clear IX2
   cases hq : p y with
   | true =>
    rw [hq] at hcall
    go_wp2_with (go_at_fn g; refine hcall.mono ?_; rintro e w' ⟨rfl, hb'⟩)
    go_ret
    exact ⟨by rw [IX3.out, if_pos hq]; rfl, hb'⟩
   | false =>
    rw [hq] at hcall
    go_wp2_with (go_at_fn g; refine hcall.mono ?_; rintro e w' ⟨rfl, hb'⟩)
    go_roundg (l.length - (kk + 1))
    case measure => omega
    case rel => exact ⟨kk + 1, by omega, by omega, by go_num, ⟨hb'⟩, ⟨by rw [IX3.out, hq]; simp⟩⟩
  ·
   have hltz : ¬ (kk : Int) < (l.length : Int) := by omega
   have : kk = l.length := by omega
   subst this
   go_wp2
   go_ret
   exact ⟨by rw [IX.out]; simp [idxFrom], IW.out⟩

def impl_touches.is (b : Int) (x : S34) : Bool := x.f0 != 5 && x.f1 == b
def impl_touches.f (l0 : List S34) (a1 : Int) : Option Int := if l0.length ≤ 9223372036854775807 then some (idxFrom (impl_touches.is a1) l0 0) else none
theorem impl_touches.pred (a1 : Int) (gb : Nat) (W0 W : World) (hc : W0.cell? ⟨gb, 0, none⟩ = some (.int .i64 a1)) (hB : Below W0.heap.size W0 W) (x : S34) :
  Calls Try.prog 59 (#[.agg #[.int .i64 x.f0, .int .i64 x.f1, .int .i64 x.f2, .string x.f3]] ++ #[.pointer (some ⟨gb, 0, none⟩)]) W fun e w' => e = .returned (.bool (impl_touches.is a1 x)) ∧ Below W0.heap.size W0 w' := by
 have hc' := (hB.cell (World.block_lt_of_cell? _ _ hc)).trans hc
 have hc2 : ∀ o, (W.alloc o).cell? ⟨gb, 0, none⟩ = some (.int .i64 a1) := fun o => (Below.cell (below_alloc (Below.refl _ W) o) (World.block_lt_of_cell? _ _ hc')).trans hc'
 show Calls Try.prog 59 #[.agg #[.int .i64 x.f0, .int .i64 x.f1, .int .i64 x.f2, .string x.f3], .pointer (some ⟨gb, 0, none⟩)] W _
 have HB := Aside0.mk hB
 clear hB hc
 unfold impl_touches.is
 rcases (show ((x.f0 == 5) = true ∧ (x.f0 != 5) = false) ∨ ((x.f0 == 5) = false ∧ (x.f0 != 5) = true) by by_cases h : x.f0 = 5 <;> simp [h]) with ⟨b0, b1⟩ | ⟨b0, b1⟩
 all_goals
  go_enter Try.func59, Try.ntmps59
  go_wp2
  go_ret
  exact ⟨by first | rfl | (simp only [b1, Bool.true_and, Bool.false_and]; rfl), by repeat (first | exact HB.out | apply pw_below_drewN | apply below_drew1 | apply below_alloc)⟩
theorem impl_touches.calls (A0 : Option Addr) (c0 : Nat) (l0 : List S34) (a1 : Int) (r : Int) (w : World) (hr0 : Kd.C k34 w A0 l0.length l0) (hc0 : l0.length ≤ c0) (h : impl_touches.f l0 a1 = some r) :
  Calls Try.prog 49 #[.slice A0 l0.length c0, .int .i64 a1] w fun e w' => e = .returned (.int .i64 r) ∧ Below w.heap.size w w' := by
 unfold impl_touches.f at h
 by_cases hbig : l0.length ≤ 9223372036854775807
 ·
  rw [if_pos hbig] at h
  obtain rfl := Option.some.inj h
  clear h
  have eg : ∀ args w, (callFunc 59 args).run Try.prog w = .ok (.enter 59 args) w := enters_of Try.func59 (by kernel_rfl) rfl
  have hcon := fun (W : World) (hR : Kd.C k34 W A0 l0.length l0) (gb : Nat) (hc : W.cell? ⟨gb, 0, none⟩ = some (.int .i64 a1)) => slices_IndexFunc_34.calls (fun W' => Below W.heap.size W W') (impl_touches.is a1) 59 #[.pointer (some ⟨gb, 0, none⟩)] eg A0 c0 l0 W hR hc0 hbig (Below.refl _ _) (fun _ h => h) (fun W' hb x _ => impl_touches.pred a1 gb W W' hc hb x)
  have HR0 := Aside0.mk hr0
  clear hr0
  go_enter Try.func49, Try.ntmps49
  go_wp2_with (go_at_call 57; refine (hcon _ (by repeat (first | exact HR0.out | (with_reducible refine Kd.C_alloc ?_ _) | (with_reducible refine Kd.C_drewN ?_ _) | (with_reducible refine Kd.C_drew ?_))) _ (by go_simp)).mono ?_; rintro e w' ⟨rfl, hb'⟩)
  go_ret
  exact ⟨rfl, below_step (by repeat (first | exact Below.refl _ _ | apply pw_below_drewN | apply below_drew1 | apply below_alloc)) hb'⟩
 ·
  rw [if_neg hbig] at h; cases h


/-! ### impl_stepsCode: function 28 -/
set_option maxHeartbeats 8000000 in
theorem slices_ContainsFunc_34.calls (I : World → Prop) (p : S34 → Bool) (g : Nat) (cap : Array Value) (eg : ∀ args w, (callFunc g args).run Try.prog w = .ok (.enter g args) w) (Ad : Option Addr) (c : Nat) (l : List S34) (w : World)
  (hR : Kd.C k34 w Ad l.length l) (hc : l.length ≤ c) (hbig : l.length ≤ 9223372036854775807) (hw : I w) (hI : ∀ W, I W → Below w.heap.size w W)
  (hp : ∀ (W : World), I W → ∀ x ∈ l, Calls Try.prog g (#[.agg #[.int .i64 x.f0, .int .i64 x.f1, .int .i64 x.f2, .string x.f3]] ++ cap) W fun e w' => e = .returned (.bool (p x)) ∧ I w') :
  Calls Try.prog 46 #[.slice Ad l.length c, .func (.func g) #[] cap] w fun e w' => e = .returned (.bool (l.any p)) ∧ I w' := by
 have hcon := slices_IndexFunc_34.calls I p g cap eg Ad c l w hR hc hbig hw hI hp
 have hn := Aside0.mk (idxFrom_nonneg p l 0 (by omega))
 clear hp hR
 generalize idxFrom p l 0 = r at hcon hn
 go_enter Try.func46, Try.ntmps46
 go_wp2_with (go_at_call 57; refine hcon.mono ?_; rintro e w' ⟨rfl, hb'⟩)
 go_ret
 refine ⟨?_, hb'⟩
 have : decide (0 ≤ r) = l.any p := by rw [Bool.eq_iff_iff, decide_eq_true_iff]; exact hn.out
 rw [← this]; rfl

def impl_stepsCode.ok (k : Nat) (n : Int) (x : S34) : Option Bool := impl_isStep.f k x.f0 x.f1 x.f2 x.f3 n
def impl_stepsCode.bad (k : Nat) (n : Int) (x : S34) : Bool := !((impl_stepsCode.ok k n x).getD false)
def impl_stepsCode.scan (L : List S34) : List S34 → Int → Int → Bool → Int
 | [], _, _, up => if up = true then 0 else 8
 | x :: r, i, label, up => if x.f0 = 5 then impl_stepsCode.scan L r (i + 1) x.f2 (up && decide (label < x.f2)) else if idxFrom (impl_touches.is x.f1) L 0 < i then 12 else impl_stepsCode.scan L r (i + 1) label up
def impl_stepsCode.form (k : Nat) (l0 : List S34) (n : Int) : Bool := decide (1 ≤ n ∧ n ≤ 8) && decide ((l0.length : Int) ≤ 20) && !(l0.any (impl_stepsCode.bad k n))
def impl_stepsCode.f (k : Nat) (l0 : List S34) (a1 : Int) : Option Int :=
 if l0.length ≤ 9223372036854775807 ∧ ((1 ≤ a1 ∧ a1 ≤ 8) → (l0.length : Int) ≤ 20 → ∀ x ∈ l0, (impl_stepsCode.ok k a1 x).isSome = true) then
  some (if impl_stepsCode.form k l0 a1 = true then impl_stepsCode.scan l0 l0 0 (-1) true else 1) else none
theorem impl_stepsCode.mono : ∀ a0 a1 k, LeO (impl_stepsCode.f k a0 a1) (impl_stepsCode.f (k + 1) a0 a1) := by
 intro a0 a1 k r h
 unfold impl_stepsCode.f at h ⊢
 by_cases hc : a0.length ≤ 9223372036854775807 ∧ ((1 ≤ a1 ∧ a1 ≤ 8) → (a0.length : Int) ≤ 20 → ∀ x ∈ a0, (impl_stepsCode.ok k a1 x).isSome = true)
 ·
  rw [if_pos hc] at h
  have e : ∀ x : S34, (impl_stepsCode.ok k a1 x).isSome = true → impl_stepsCode.ok (k + 1) a1 x = impl_stepsCode.ok k a1 x := by
   intro x hx
   obtain ⟨v, hv⟩ := Option.isSome_iff_exists.1 hx
   rw [hv]
   exact impl_isStep.mono _ _ _ _ _ _ _ hv
  rw [if_pos ⟨hc.1, fun h1 h2 x hx => by rw [e x (hc.2 h1 h2 x hx)]; exact hc.2 h1 h2 x hx⟩, ← h]
  have ef : impl_stepsCode.form (k + 1) a0 a1 = impl_stepsCode.form k a0 a1 := by
   unfold impl_stepsCode.form
   by_cases h1 : 1 ≤ a1 ∧ a1 ≤ 8
   ·
    by_cases h2 : (a0.length : Int) ≤ 20
    ·
     have ea : a0.any (impl_stepsCode.bad (k + 1) a1) = a0.any (impl_stepsCode.bad k a1) := by
      rw [Bool.eq_iff_iff, List.any_eq_true, List.any_eq_true]
      constructor
      ·
       rintro ⟨x, hx, hb⟩; exact ⟨x, hx, by unfold impl_stepsCode.bad at hb ⊢; rw [e x (hc.2 h1 h2 x hx)] at hb; exact hb⟩
      ·
       rintro ⟨x, hx, hb⟩; exact ⟨x, hx, by unfold impl_stepsCode.bad at hb ⊢; rw [e x (hc.2 h1 h2 x hx)]; exact hb⟩
     rw [ea]
    ·
     simp [h2]
   ·
    simp [h1]
  rw [ef]
 ·
  rw [if_neg hc] at h; cases h
theorem impl_stepsCode.pred (k : Nat) (a1 : Int) (gb : Nat) (W0 W : World) (hc : W0.cell? ⟨gb, 0, none⟩ = some (.int .i64 a1)) (hB : Below W0.heap.size W0 W) (x : S34) (hs : (impl_stepsCode.ok k a1 x).isSome = true) :
  Calls Try.prog 47 (#[.agg #[.int .i64 x.f0, .int .i64 x.f1, .int .i64 x.f2, .string x.f3]] ++ #[.pointer (some ⟨gb, 0, none⟩)]) W fun e w' => e = .returned (.bool (impl_stepsCode.bad k a1 x)) ∧ Below W0.heap.size W0 w' := by
 have hc' := (hB.cell (World.block_lt_of_cell? _ _ hc)).trans hc
 have hc2 : ∀ o, (W.alloc o).cell? ⟨gb, 0, none⟩ = some (.int .i64 a1) := fun o => (Below.cell (below_alloc (Below.refl _ W) o) (World.block_lt_of_cell? _ _ hc')).trans hc'
 obtain ⟨v, hv⟩ := Option.isSome_iff_exists.1 hs
 have hcall := fun W => impl_isStep.calls k x.f0 x.f1 x.f2 x.f3 a1 v W hv
 have e : impl_stepsCode.bad k a1 x = !v := by unfold impl_stepsCode.bad; rw [hv]; rfl
 rw [e]
 show Calls Try.prog 47 #[.agg #[.int .i64 x.f0, .int .i64 x.f1, .int .i64 x.f2, .string x.f3], .pointer (some ⟨gb, 0, none⟩)] W _
 have HB := Aside0.mk hB
 clear hB hc hv hs e
 go_enter Try.func47, Try.ntmps47
 go_wp2_with (go_at_call 48; refine (hcall _).mono ?_; rintro e w' ⟨rfl, hb'⟩)
 go_ret
 exact ⟨rfl, below_then (by repeat (first | exact HB.out | apply pw_below_drewN | apply below_drew1 | apply below_alloc)) (by exact (below_size (by repeat (first | exact HB.out | apply pw_below_drewN | apply below_drew1 | apply below_alloc)))) hb'⟩
set_option maxHeartbeats 8000000 in
set_option maxRecDepth 100000 in
theorem impl_stepsCode.calls (k : Nat) (A0 : Option Addr) (c0 : Nat) (l0 : List S34) (a1 : Int) (r : Int) (w : World) (hr0 : Kd.C k34 w A0 l0.length l0) (hc0 : l0.length ≤ c0) (h : impl_stepsCode.f k l0 a1 = some r) :
  Calls Try.prog 28 #[.slice A0 l0.length c0, .int .i64 a1] w fun e w' => e = .returned (.int .i64 r) ∧ Below w.heap.size w w' := by
 unfold impl_stepsCode.f at h
 by_cases hc : l0.length ≤ 9223372036854775807 ∧ ((1 ≤ a1 ∧ a1 ≤ 8) → (l0.length : Int) ≤ 20 → ∀ x ∈ l0, (impl_stepsCode.ok k a1 x).isSome = true)
 ·
  rw [if_pos hc] at h
  obtain ⟨hbig, hs⟩ := hc
  obtain rfl := Option.some.inj h
  clear h
  have HR0 := Aside0.mk hr0
  have HC0 := Aside0.mk hc0
  have HBIG := Aside0.mk hbig
  have hb : ∀ d : Bool, decide (1 ≤ a1 ∧ a1 ≤ 8) = d → impl_isBlocks.f a1 = some d := by
   intro d hd
   rw [← hd]
   unfold impl_isBlocks.f impl_within.f
   by_cases h1 : a1 ≥ 1
   ·
    rw [if_pos h1, Option.bind_some]; congr 1; rw [Bool.eq_iff_iff]; simp; omega
   ·
    rw [if_neg h1, Option.bind_some]; congr 1; rw [eq_comm, decide_eq_false_iff_not]; omega
  unfold impl_stepsCode.form
  by_cases h1 : 1 ≤ a1 ∧ a1 ≤ 8
  ·
   have HD := Aside0.mk (hb true (decide_eq_true h1))
   rw [decide_eq_true h1, Bool.true_and]
   by_cases h2 : (l0.length : Int) ≤ 20
   ·
    have h2b : decide ((l0.length : Int) > 20) = false := decide_eq_false (by omega)
    rw [decide_eq_true h2, Bool.true_and]
    have eg : ∀ args w, (callFunc 47 args).run Try.prog w = .ok (.enter 47 args) w := enters_of Try.func47 (by kernel_rfl) rfl
    have hcon := fun (W : World) (hR : Kd.C k34 W A0 l0.length l0) (gb : Nat) (hc : W.cell? ⟨gb, 0, none⟩ = some (.int .i64 a1)) => slices_ContainsFunc_34.calls (fun W' => Below W.heap.size W W') (impl_stepsCode.bad k a1) 47 #[.pointer (some ⟨gb, 0, none⟩)] eg A0 c0 l0 W hR hc0 hbig (Below.refl _ _) (fun _ h => h) (fun W' hb x hx => impl_stepsCode.pred k a1 gb W W' hc hb x (hs h1 h2 x hx))
    clear hb hs hr0 hc0 h1 hbig h2
    generalize l0.any (impl_stepsCode.bad k a1) = v at hcon ⊢
    cases v with
    | true =>
     go_enter Try.func28, Try.ntmps28
     go_wp2_with (first
      | (go_at_call 34; refine (impl_isBlocks.calls _ _ _ HD.out).mono ?_; rintro e w1 ⟨rfl, ⟨n1, rfl⟩⟩)
      | (go_at_call 46; refine (hcon _ (by repeat (first | exact HR0.out | (with_reducible refine Kd.C_alloc ?_ _) | (with_reducible refine Kd.C_drewN ?_ _) | (with_reducible refine Kd.C_drew ?_))) _ (by go_simp)).mono ?_; rintro e w' ⟨rfl, hb'⟩))
     go_ret
     exact ⟨rfl, below_step (by repeat (first | exact Below.refl _ _ | apply pw_below_drewN | apply below_drew1 | apply below_alloc)) hb'⟩
    | false =>
     go_enter Try.func28, Try.ntmps28
     go_wp2_with (first
      | (go_at_call 34; refine (impl_isBlocks.calls _ _ _ HD.out).mono ?_; rintro e w1 ⟨rfl, ⟨n1, rfl⟩⟩)
      | (go_at_call 46; refine (hcon _ (by repeat (first | exact HR0.out | (with_reducible refine Kd.C_alloc ?_ _) | (with_reducible refine Kd.C_drewN ?_ _) | (with_reducible refine Kd.C_drew ?_))) _ (by go_simp)).mono ?_; rintro e w' ⟨rfl, hb'⟩; have HB := Aside0.mk (show Below w.heap.size w w' from below_step (by repeat (first | exact Below.refl _ _ | apply pw_below_drewN | apply below_drew1 | apply below_alloc)) hb'); clear hb' hcon))
     clear eg h2b HD
     go_loopg [5, 6, 7, 8, 24] l0.length (fun gg v5 v6 _ _ v24 wr => ∃ (kk : Nat) (lb : Int) (up : Bool), v5 = .int .i64 lb ∧ v6 = .bool up ∧ v24 = .int .i64 kk ∧ Aside0 (kk ≤ l0.length) ∧ Aside0 (l0.length - kk ≤ gg) ∧ Aside0 (Below w.heap.size w wr) ∧ Aside0 (impl_stepsCode.scan l0 l0 0 (-1) true = impl_stepsCode.scan l0 (l0.drop kk) kk lb up))
     case atStart => exact ⟨0, -1, true, rfl, rfl, rfl, ⟨Nat.zero_le _⟩, ⟨Nat.le_refl _⟩, HB, ⟨rfl⟩⟩
     case round =>
      clear HB
      obtain ⟨kk, lb, up, rfl, rfl, rfl, HK, HG, HB, HS⟩ := hrel
      by_cases hlt : kk < l0.length
      ·
       have hltz : decide ((kk : Int) < (l0.length : Int)) = true := decide_eq_true (by omega)
       have p0 : (0 : Int) ≤ (kk : Int) := by omega
       have q0 : (kk : Int) < (l0.length : Int) := by omega
       obtain ⟨ad, rfl, hx0, hx1, hx2, hx3⟩ := at_T34 HR0.out (kk : Int) p0 q0
       have hy : rd_T34 l0 (kk : Int) = l0[kk] := by simp [rd_T34, hlt]
       rw [hy] at hx0; replace hx0 := (HB.out.cell (World.block_lt_of_cell? _ _ hx0)).trans hx0; simp only [Int.toNat_natCast] at hx0
       rw [hy] at hx1; replace hx1 := (HB.out.cell (World.block_lt_of_cell? _ _ hx1)).trans hx1; simp only [Int.toNat_natCast] at hx1
       rw [hy] at hx2; replace hx2 := (HB.out.cell (World.block_lt_of_cell? _ _ hx2)).trans hx2; simp only [Int.toNat_natCast] at hx2
       rw [hy] at hx3; replace hx3 := (HB.out.cell (World.block_lt_of_cell? _ _ hx3)).trans hx3; simp only [Int.toNat_natCast] at hx3
       have HS2 := HS.out
       rw [idxFrom_drop l0 kk hlt, impl_stepsCode.scan] at HS2
       clear HS hy
       generalize l0[kk] = x at hx0 hx1 hx2 hx3 HS2
       have htch : impl_touches.f l0 x.f1 = some (idxFrom (impl_touches.is x.f1) l0 0) := by unfold impl_touches.f; rw [if_pos HBIG.out]
       have e24 : wrap64 ((kk : Int) + 1) = ((kk + 1 : Nat) : Int) := by have := HBIG.out; unfold wrap64; omega
       generalize idxFrom (impl_touches.is x.f1) l0 0 = tv at htch HS2
       have HT := Aside0.mk htch
       clear htch
       by_cases h5 : x.f0 = 5
       ·
        have b0 : (x.f0 == 5) = true := beq_iff_eq.mpr h5
        have b1 : (x.f0 != 5) = false := bne_eq_false_iff_eq.mpr h5
        rw [if_pos h5] at HS2
        have HS := Aside0.mk HS2
        clear h5 HS2
        cases up with
        | true =>
         go_wp2
         go_roundg (l0.length - (kk + 1))
         case measure => have := HG.out; omega
         case rel => exact ⟨kk + 1, x.f2, decide (lb < x.f2), by rfl, by rfl, by rw [e24], ⟨by omega⟩, ⟨Nat.le_refl _⟩, ⟨by repeat (first | exact HB.out | apply pw_below_drewN | apply below_drew1 | apply below_alloc)⟩, ⟨by have e : ((kk + 1 : Nat) : Int) = (kk : Int) + 1 := (by omega); rw [HS.out, e]; simp⟩⟩
        | false =>
         go_wp2
         go_roundg (l0.length - (kk + 1))
         case measure => have := HG.out; omega
         case rel => exact ⟨kk + 1, x.f2, false, by rfl, by rfl, by rw [e24], ⟨by omega⟩, ⟨Nat.le_refl _⟩, ⟨by repeat (first | exact HB.out | apply pw_below_drewN | apply below_drew1 | apply below_alloc)⟩, ⟨by have e : ((kk + 1 : Nat) : Int) = (kk : Int) + 1 := (by omega); rw [HS.out, e]; simp⟩⟩
       ·
        have b0 : (x.f0 == 5) = false := beq_eq_false_iff_ne.mpr h5
        have b1 : (x.f0 != 5) = true := bne_iff_ne.mpr h5
        rw [if_neg h5] at HS2
        by_cases ht : tv < (kk : Int)
        ·
         have htb : decide (tv < (kk : Int)) = true := decide_eq_true ht
         rw [if_pos ht] at HS2
         have HS := Aside0.mk HS2
         clear h5 HS2 ht
         go_wp2_with (go_at_call 49; refine (impl_touches.calls _ _ l0 x.f1 tv _ (Kd.C_below HR0.out (by repeat (first | exact HB.out | apply pw_below_drewN | apply below_drew1 | apply below_alloc))) HC0.out HT.out).mono ?_; rintro e w2 ⟨rfl, hb2⟩)
         go_ret
         exact ⟨by rw [HS.out]; rfl, below_then (by repeat (first | exact HB.out | apply pw_below_drewN | apply below_drew1 | apply below_alloc)) (below_size (by repeat (first | exact HB.out | apply pw_below_drewN | apply below_drew1 | apply below_alloc))) hb2⟩
        ·
         have htb : decide (tv < (kk : Int)) = false := decide_eq_false ht
         rw [if_neg ht] at HS2
         have HS := Aside0.mk HS2
         clear h5 HS2 ht
         go_wp2_with (go_at_call 49; refine (impl_touches.calls _ _ l0 x.f1 tv _ (Kd.C_below HR0.out (by repeat (first | exact HB.out | apply pw_below_drewN | apply below_drew1 | apply below_alloc))) HC0.out HT.out).mono ?_; rintro e w2 ⟨rfl, hb2⟩)
         go_roundg (l0.length - (kk + 1))
         case measure => have := HG.out; omega
         case rel => exact ⟨kk + 1, lb, up, by rfl, by rfl, by rw [e24], ⟨by omega⟩, ⟨Nat.le_refl _⟩, ⟨below_then (by repeat (first | exact HB.out | apply pw_below_drewN | apply below_drew1 | apply below_alloc)) (below_size (by repeat (first | exact HB.out | apply pw_below_drewN | apply below_drew1 | apply below_alloc))) hb2⟩, ⟨by have e : ((kk + 1 : Nat) : Int) = (kk : Int) + 1 := (by omega); rw [HS.out, e]⟩⟩
      ·
       have hltz : decide ((kk : Int) < (l0.length : Int)) = false := decide_eq_false (by omega)
       have hk : kk = l0.length := by have := HK.out; omega
       have HS2 := HS.out
       rw [hk, List.drop_length, impl_stepsCode.scan] at HS2
       have HS := Aside0.mk HS2
       clear HS2
       cases up with
       | true =>
        go_wp2
        go_ret
        exact ⟨by rw [HS.out]; rfl, HB.out⟩
       | false =>
        go_wp2
        go_ret
        exact ⟨by rw [HS.out]; rfl, HB.out⟩
   ·
    have h2b : decide ((l0.length : Int) > 20) = true := decide_eq_true (by omega)
    rw [decide_eq_false h2]
    clear hb hs hr0 hc0 h1 hbig h2
    go_enter Try.func28, Try.ntmps28
    go_wp2_with (first
     | (go_at_call 34; refine (impl_isBlocks.calls _ _ _ HD.out).mono ?_; rintro e w1 ⟨rfl, ⟨n1, rfl⟩⟩))
    go_ret
    exact ⟨rfl, by repeat (first | exact Below.refl _ _ | apply pw_below_drewN | apply below_drew1 | apply below_alloc)⟩
  ·
   have HD := Aside0.mk (hb false (decide_eq_false h1))
   rw [decide_eq_false h1]
   clear hb hs hr0 hc0 h1 hbig
   go_enter Try.func28, Try.ntmps28
   go_wp2_with (first
    | (go_at_call 34; refine (impl_isBlocks.calls _ _ _ HD.out).mono ?_; rintro e w1 ⟨rfl, ⟨n1, rfl⟩⟩))
   go_ret
   exact ⟨rfl, by repeat (first | exact Below.refl _ _ | apply pw_below_drewN | apply below_drew1 | apply below_alloc)⟩
 ·
  rw [if_neg hc] at h; cases h


/-! ### slices_Clone_string_string: function 50 -/
def slices_Clone_string_string.f (l0 : List ByteArray) : Option (List ByteArray) := if l0.length * 16 ≤ 140737488355328 then some l0 else none
set_option maxHeartbeats 8000000 in
set_option maxRecDepth 100000 in
theorem slices_Clone_string_string.some_ (ad : Addr) (c0 : Nat) (l0 : List ByteArray) (w : World) (hr0 : Kd.C Kd.string w (some ad) l0.length l0) (hc0 : l0.length ≤ c0) (hb : l0.length * 16 ≤ 140737488355328) :
  Calls Try.prog 50 #[.slice (some ad) l0.length c0] w fun e w' => ∃ v0_ : Value, e = .returned (v0_) ∧ Kd.R Kd.string 9 w' w.heap.size (fun _ => True) v0_ l0 ∧ Below w.heap.size w w' := by
 have HR0 := Aside0.mk hr0
 have HC0 := Aside0.mk hc0
 have HL := Aside0.mk hb
 clear hr0 hc0 hb
 have HB := Aside0.mk (Below.refl w.heap.size w)
 obtain ⟨y1, hy1⟩ : ∃ y_ : List ByteArray, y_ = ([] : List ByteArray) := ⟨_, rfl⟩
 have Ny1 := Aside0.mk hy1
 clear hy1
 have hq : ∀ W : World, (binOp .eql 22 (.slice (some ad) l0.length c0) (.slice none 0 0)).run Try.prog W = .ok (.bool false) W := fun W => Lib.run_eql_slice_nil W _ _ (some ad) _ _ _ _ Try.underlying22
 go_enter Try.func50, Try.ntmps50
 go_wp2_with (first | ((with_reducible refine gate_dst (N := 5) rfl ?_); refine Kd.R_lit Kd.string _ 9 ?hg (N := 5) ?hd (xs := ([] : List ByteArray)) (inner := []) (ok := fun _ => True) (okp := fun _ => True) ?hr ?hp (fun _ hk => hk) trivial (Below.refl _ _) (Nat.le_refl _) (by simp) ?_; (case hd => rfl); (case hg => rfl); (case hr => first | (go_simp; done) | (go_simp; rfl)); (case hp => exact (Reps.none _ _)); intro v2 w2 ho3 hb hg_ hnew_; clear hg_ hnew_; (first | rw [← Ny1.out] at ho3 | (simp only [Int.reduceToNat] at ho3; rw [← Ny1.out] at ho3)); have n0_ := Aside0.mk (Kd.R_lower ho3 (below_size (by repeat (first | (with_reducible first | exact HB.out | apply below_alloc | apply pw_below_drewN | apply below_drew1) | exact HB.out)))); have n1_ := Aside0.mk (below_step (by repeat (first | (with_reducible first | exact HB.out | apply below_alloc | apply pw_below_drewN | apply below_drew1) | exact HB.out)) hb); clear HB; have HO3 := n0_; have HB := n1_; clear n0_ n1_; clear hb ho3) | ((with_reducible refine gate_builtin (b := .append) (xs := #[.tmp 5, .tmp 6]) rfl ?_); at_builtin; refine Kd.R_append_rows Kd.string (w0 := w) w.heap.size rfl (.tmp 5) (.tmp 6) 22 9 (.string ⟨#[]⟩) 16 rfl Try.underlying22 info9 rfl (by decide) (by omega) v2 y1 l0 _ _ _ (fun _ => True) (fun _ => False) rfl rfl ?aO ?aR (fun _ _ h => h) (fun _ h => h.elim) ?aF ?aB ?aS ?aL ?_; (case aR => repeat (first | exact (Kd.C_below HR0.out HB.out) | (with_reducible refine Kd.C_alloc ?_ _) | (with_reducible refine Kd.C_drewN ?_ _) | (with_reducible refine Kd.C_drew ?_))); (case aB => exact (by repeat (first | (with_reducible first | exact HB.out | apply below_alloc | apply pw_below_drewN | apply below_drew1) | exact HB.out))); (case aF => exact (fun _ _ => trivial)); (case aO => exact (by (with_reducible repeat (first | apply Kd.R_alloc | apply Kd.R_drewN | apply Kd.R_drew)); exact HO3.out)); (case aS => exact (below_size (by repeat (first | (with_reducible first | exact HB.out | apply below_alloc | apply pw_below_drewN | apply below_drew1) | exact HB.out)))); (case aL => have h1 := HL.out; have h2 := Ny1.out; subst h2; simpa using h1); intro v4 w4 ho hb hg hat; have n0_ := Aside0.mk (hb); have n1_ := Aside0.mk (ho); clear HB; clear HO3; have HB := n0_; have HO4 := n1_; clear n0_ n1_; clear ho hb hg hat))
 go_ret
 have e1 : y1 ++ l0 = l0 := by rw [Ny1.out, List.nil_append]
 rw [e1] at HO4
 exact ⟨_, rfl, HO4.out, HB.out⟩
set_option maxHeartbeats 8000000 in
set_option maxRecDepth 100000 in
theorem slices_Clone_string_string.calls (A0 : Option Addr) (c0 : Nat) (l0 : List ByteArray) (r : List ByteArray) (w : World) (hr0 : Kd.C Kd.string w A0 l0.length l0) (hc0 : l0.length ≤ c0) (h : slices_Clone_string_string.f l0 = some r) :
  Calls Try.prog 50 #[.slice A0 l0.length c0] w fun e w' => ∃ v0_ : Value, e = .returned (v0_) ∧ Kd.R Kd.string 9 w' w.heap.size (fun _ => True) v0_ r ∧ Below w.heap.size w w' := by
 unfold slices_Clone_string_string.f at h
 by_cases hb : l0.length * 16 ≤ 140737488355328
 ·
  rw [if_pos hb] at h
  obtain rfl := Option.some.inj h
  cases A0 with
  | some ad => exact slices_Clone_string_string.some_ ad c0 l0 w hr0 hc0 hb
  | none =>
   have hl : l0.length = 0 := by
    rcases Nat.eq_zero_or_pos l0.length with h0 | h0
    ·
     exact h0
    ·
     obtain ⟨ad, _, e, _⟩ := Kd.C_get hr0 ByteArray.empty 0 (by omega) (by omega)
     cases e
   obtain rfl : l0 = [] := List.eq_nil_of_length_eq_zero hl
   clear hr0 h hb hl
   have hq : ∀ W : World, (binOp .eql 22 (.slice none 0 c0) (.slice none 0 0)).run Try.prog W = .ok (.bool true) W := fun W => Lib.run_eql_slice_nil W _ _ none _ _ _ _ Try.underlying22
   go_enter Try.func50, Try.ntmps50

   go_wp2
   all_goals (try go_ret)
   all_goals exact ⟨_, rfl, Kd.R_nil _ _ _ _ _, by repeat (first | exact Below.refl _ _ | apply below_alloc | apply pw_below_drewN | apply below_drew1)⟩
 ·
  rw [if_neg hb] at h; cases h


-- NOT PRINTED: function 60 (impl_Step_60)

/-! ### impl_Step_61: function 61 -/
def slices_Clone_S34.f (l0 : List S34) : Option (List S34) := if l0.length * 40 ≤ 140737488355328 then some l0 else none
set_option maxHeartbeats 8000000 in
set_option maxRecDepth 100000 in
theorem slices_Clone_S34.some_ (ad : Addr) (c0 : Nat) (l0 : List S34) (w : World) (hr0 : Kd.C k34 w (some ad) l0.length l0) (hc0 : l0.length ≤ c0) (hb : l0.length * 40 ≤ 140737488355328) :
  Calls Try.prog 61 #[.slice (some ad) l0.length c0] w fun e w' => ∃ v0_ : Value, e = .returned (v0_) ∧ Kd.R k34 34 w' w.heap.size (fun _ => True) v0_ l0 ∧ Below w.heap.size w w' := by
 have HR0 := Aside0.mk hr0
 have HC0 := Aside0.mk hc0
 have HL := Aside0.mk hb
 clear hr0 hc0 hb
 have HB := Aside0.mk (Below.refl w.heap.size w)
 obtain ⟨y1, hy1⟩ : ∃ y_ : List S34, y_ = ([] : List S34) := ⟨_, rfl⟩
 have Ny1 := Aside0.mk hy1
 clear hy1
 have hq : ∀ W : World, (binOp .eql 24 (.slice (some ad) l0.length c0) (.slice none 0 0)).run Try.prog W = .ok (.bool false) W := fun W => Lib.run_eql_slice_nil W _ _ (some ad) _ _ _ _ Try.underlying24
 go_enter Try.func61, Try.ntmps61
 go_wp2_with (first | ((with_reducible refine gate_dst (N := 5) rfl ?_); refine Kd.R_lit k34 _ 34 ?hg (N := 5) ?hd (xs := ([] : List S34)) (inner := []) (ok := fun _ => True) (okp := fun _ => True) ?hr ?hp (fun _ hk => hk) trivial (Below.refl _ _) (Nat.le_refl _) (by simp) ?_; (case hd => rfl); (case hg => rfl); (case hr => first | (go_simp; done) | (go_simp; rfl)); (case hp => exact (Reps.none _ _)); intro v2 w2 ho3 hb hg_ hnew_; clear hg_ hnew_; (first | rw [← Ny1.out] at ho3 | (simp only [Int.reduceToNat] at ho3; rw [← Ny1.out] at ho3)); have n0_ := Aside0.mk (Kd.R_lower ho3 (below_size (by repeat (first | (with_reducible first | exact HB.out | apply below_alloc | apply pw_below_drewN | apply below_drew1) | exact HB.out)))); have n1_ := Aside0.mk (below_step (by repeat (first | (with_reducible first | exact HB.out | apply below_alloc | apply pw_below_drewN | apply below_drew1) | exact HB.out)) hb); clear HB; have HO3 := n0_; have HB := n1_; clear n0_ n1_; clear hb ho3) | ((with_reducible refine gate_builtin (b := .append) (xs := #[.tmp 5, .tmp 6]) rfl ?_); at_builtin; refine Kd.R_append_rows k34 (w0 := w) w.heap.size rfl (.tmp 5) (.tmp 6) 24 34 (.agg #[(.int .i64 0), (.int .i64 0), (.int .i64 0), (.string ⟨#[]⟩)]) 40 rfl Try.underlying24 info34 rfl (by decide) (by omega) v2 y1 l0 _ _ _ (fun _ => True) (fun _ => False) rfl rfl ?aO ?aR (fun _ _ h => h) (fun _ h => h.elim) ?aF ?aB ?aS ?aL ?_; (case aR => repeat (first | exact (Kd.C_below HR0.out HB.out) | (with_reducible refine Kd.C_alloc ?_ _) | (with_reducible refine Kd.C_drewN ?_ _) | (with_reducible refine Kd.C_drew ?_))); (case aB => exact (by repeat (first | (with_reducible first | exact HB.out | apply below_alloc | apply pw_below_drewN | apply below_drew1) | exact HB.out))); (case aF => exact (fun _ _ => trivial)); (case aO => exact (by (with_reducible repeat (first | apply Kd.R_alloc | apply Kd.R_drewN | apply Kd.R_drew)); exact HO3.out)); (case aS => exact (below_size (by repeat (first | (with_reducible first | exact HB.out | apply below_alloc | apply pw_below_drewN | apply below_drew1) | exact HB.out)))); (case aL => have h1 := HL.out; have h2 := Ny1.out; subst h2; simpa using h1); intro v4 w4 ho hb hg hat; have n0_ := Aside0.mk (hb); have n1_ := Aside0.mk (ho); clear HB; clear HO3; have HB := n0_; have HO4 := n1_; clear n0_ n1_; clear ho hb hg hat))
 go_ret
 have e1 : y1 ++ l0 = l0 := by rw [Ny1.out, List.nil_append]
 rw [e1] at HO4
 exact ⟨_, rfl, HO4.out, HB.out⟩
set_option maxHeartbeats 8000000 in
set_option maxRecDepth 100000 in
theorem slices_Clone_S34.calls (A0 : Option Addr) (c0 : Nat) (l0 : List S34) (r : List S34) (w : World) (hr0 : Kd.C k34 w A0 l0.length l0) (hc0 : l0.length ≤ c0) (h : slices_Clone_S34.f l0 = some r) :
  Calls Try.prog 61 #[.slice A0 l0.length c0] w fun e w' => ∃ v0_ : Value, e = .returned (v0_) ∧ Kd.R k34 34 w' w.heap.size (fun _ => True) v0_ r ∧ Below w.heap.size w w' := by
 unfold slices_Clone_S34.f at h
 by_cases hb : l0.length * 40 ≤ 140737488355328
 ·
  rw [if_pos hb] at h
  obtain rfl := Option.some.inj h
  cases A0 with
  | some ad => exact slices_Clone_S34.some_ ad c0 l0 w hr0 hc0 hb
  | none =>
   have hl : l0.length = 0 := by
    rcases Nat.eq_zero_or_pos l0.length with h0 | h0
    ·
     exact h0
    ·
     obtain ⟨ad, _, e, _⟩ := Kd.C_get hr0 z34 0 (by omega) (by omega)
     cases e
   obtain rfl : l0 = [] := List.eq_nil_of_length_eq_zero hl
   clear hr0 h hb hl
   have hq : ∀ W : World, (binOp .eql 24 (.slice none 0 c0) (.slice none 0 0)).run Try.prog W = .ok (.bool true) W := fun W => Lib.run_eql_slice_nil W _ _ none _ _ _ _ Try.underlying24
   go_enter Try.func61, Try.ntmps61

   go_wp2
   all_goals (try go_ret)
   all_goals exact ⟨_, rfl, Kd.R_nil _ _ _ _ _, by repeat (first | exact Below.refl _ _ | apply below_alloc | apply pw_below_drewN | apply below_drew1)⟩
 ·
  rw [if_neg hb] at h; cases h


/-! ### impl_writes: function 51 -/
/-- A row that is cut, and whose cells behind the cut are written. -/
theorem slices_DeleteFunc_34.cut {W : World} {base g n cap : Nat} {L : List S34} (h : Kd.R k34 34 W base (fun _ => True) (.slice (some ⟨g, 0, none⟩) n cap) L) (i : Nat) (hi : i ≤ n) (zs : List Value) (hz : zs.length = (n - i) * 4) :
  Kd.R k34 34 (W.setCells g (i * 4) zs) base (fun _ => True) (.slice (some ⟨g, 0, none⟩) i cap) (L.take i) := by
 have hn := (Kd.R_reads' h).1
 have h' := Kd.R_take h (m := i) (by omega)
 obtain ⟨hok, inner, ⟨ho1, ho2⟩, hr⟩ := h'
 obtain ⟨_, inn0, ⟨_, ho0⟩, _⟩ := h
 rcases ho0 with ⟨hv, _⟩ | ⟨g0, cap0, cur0, hv0, hb0, hh0, hnc0, hcm0, hcs0, ht0⟩
 ·
  cases hv
 injection hv0 with ha0 _ hc0
 injection ha0 with ha0
 injection ha0 with hg0
 subst hg0; subst hc0
 rcases ho2 with ⟨hv, _⟩ | ⟨g', cap', cur, hv, hb, hh, hnc', hcm, hcs, ht⟩
 ·
  cases hv
 injection hv with ha _ hc
 injection ha with ha
 injection ha with hg
 subst hg; subst hc
 have hl : (L.take i).length = i := by rw [List.length_take]; omega
 rw [hl, show (k34).sz = 4 from rfl] at ht
 have e : cur0 = cur := by rw [hh0] at hh; injection hh with hh; injection hh
 subst e
 have hfit : i * 4 + zs.length ≤ cur0.size := by
  have h1 : L.length * 4 ≤ cap * 4 := Nat.mul_le_mul_right _ hnc0
  have h2 : cur0.size = cap * 4 := hcs0
  rw [hz, h2]; omega
 obtain ⟨cur', h3, h4, h5⟩ := setCells_row zs (i * 4) W cur0 hh hfit
 refine ⟨hok, inner, ⟨ho1, .inr ⟨g, cap, cur', by rw [hl], hb, h3, hnc', hcm, by rw [h4]; exact hcs, ?_⟩⟩, ?_⟩
 ·
  rw [hl, show (k34).sz = 4 from rfl, ← ht, h5, List.append_assoc, List.take_append_of_le_length (by rw [List.length_take, Array.length_toList]; omega), List.take_take, Nat.min_self]
 ·
  refine Reps.imp_ hr (fun p c hp => ?_)
  obtain rfl := k34_openM hp
  exact k34_mkM _ _ _ p
theorem slices_DeleteFunc_34.below {base g : Nat} {w0 W : World} (h : Below base w0 W) (hg : base ≤ g) (o : Nat) (zs : List Value) : Below base w0 (W.setCells g o zs) := by
 obtain ⟨s1, s2, s3, s4⟩ := setCells_same g zs o W
 exact ⟨s1.trans h.os, s2.trans h.tape, s3.trans h.output, by rw [s4]; exact h.size, fun k hk => (setCells_far zs o k (by omega)).trans (h.block k hk)⟩
theorem slices_DeleteFunc_34.zeros (W : World) (ty : TypeId) (g o m c : Nat) (hm : 0 < m) (hc : ∀ j, j < m * 4 → (W.cell? ⟨g, o + j, none⟩).isSome = true) (hf : ∀ j, j < m * 4 → W.frozen? ⟨g, o + j, none⟩ = false) :
  (Builtin.clear_ #[24] ty #[.slice (some ⟨g, o, none⟩) m c]).run Try.prog W = .ok (.tuple #[]) (W.setCells g o (Builtin.zeroCells #[.int .i64 0, .int .i64 0, .int .i64 0, .string ⟨#[]⟩] m).toList) := by
 have hzl : (Builtin.zeroCells #[.int .i64 0, .int .i64 0, .int .i64 0, .string ⟨#[]⟩] m).toList.length = m * 4 := by simp [Builtin.zeroCells]
 have hst := run_storeCells_cells (P := Try.prog) g o (Builtin.zeroCells #[.int .i64 0, .int .i64 0, .int .i64 0, .string ⟨#[]⟩] m).toList 0 W (by rw [hzl]; simpa using hc) (by rw [hzl]; simpa using hf) (by
  intro v hv
  simp only [Builtin.zeroCells, Array.toList_map, List.mem_map] at hv
  obtain ⟨j, _, rfl⟩ := hv
  have hj : j % (#[.int .i64 0, .int .i64 0, .int .i64 0, .string ⟨#[]⟩] : Array Value).size < 4 := Nat.mod_lt _ (by decide)
  generalize j % (#[.int .i64 0, .int .i64 0, .int .i64 0, .string ⟨#[]⟩] : Array Value).size = q at hj
  have : q = 0 ∨ q = 1 ∨ q = 2 ∨ q = 3 := by omega
  rcases this with rfl | rfl | rfl | rfl <;> rfl)
 simp only [Nat.add_zero] at hst
 obtain ⟨m, rfl⟩ : ∃ q, m = q + 1 := ⟨m - 1, by omega⟩
 have hv := Try.zeroValue34
 simp [Builtin.clear_, run_underlying Try.underlying24, hv, Value.cells, hst]
theorem idxFrom_spec_34 (p : S34 → Bool) : ∀ (l : List S34) (i : Nat), (idxFrom p l i = -1 ∧ ∀ x ∈ l, p x = false) ∨ ∃ k, ∃ hk : k < l.length, idxFrom p l i = ((i + k : Nat) : Int) ∧ p l[k] = true ∧ ∀ x ∈ l.take k, p x = false := by
 intro l
 induction l with
 | nil => intro i; exact .inl ⟨rfl, fun x hx => by cases hx⟩
 | cons a r ih =>
  intro i
  rw [idxFrom]
  by_cases h : p a = true
  ·
   rw [if_pos h]; exact .inr ⟨0, by simp, by simp, h, fun x hx => by simp at hx⟩
  ·
   rw [if_neg h]
   have h' : p a = false := by simpa using h
   have e : ((i : Int) + 1) = ((i + 1 : Nat) : Int) := by omega
   rw [e]
   rcases ih (i + 1) with ⟨e1, ha⟩ | ⟨k, hk, e1, ht, ha⟩
   ·
    exact .inl ⟨e1, fun x hx => by rcases List.mem_cons.1 hx with rfl | hx; exact h'; exact ha x hx⟩
   ·
    refine .inr ⟨k + 1, by simpa using hk, by rw [e1]; omega, by simpa using ht, fun x hx => ?_⟩
    rw [List.take_succ_cons] at hx
    rcases List.mem_cons.1 hx with rfl | hx
    ·
     exact h'
    ·
     exact ha x hx
def slices_DeleteFunc_34.DI (p : S34 → Bool) (l0 : List S34) (i j : Nat) (L : List S34) : Prop := L.length = l0.length ∧ L.drop j = l0.drop j ∧ L.take i = (l0.take j).filter (fun x => !p x)
theorem slices_DeleteFunc_34.DI.start {p : S34 → Bool} {l0 : List S34} {k : Nat} (hk : k < l0.length) (ht : p l0[k] = true) (ha : ∀ x ∈ l0.take k, p x = false) : slices_DeleteFunc_34.DI p l0 k (k + 1) l0 := by
 refine ⟨rfl, rfl, ?_⟩
 rw [List.take_succ_eq_append_getElem hk, List.filter_append, List.filter_eq_self.2 (fun x hx => by rw [ha x hx]; rfl)]
 simp [ht]
theorem slices_DeleteFunc_34.DI.at_ {p : S34 → Bool} {l0 L : List S34} {i j : Nat} (h : slices_DeleteFunc_34.DI p l0 i j L) (hj : j < l0.length) : rd_T34 L (j : Int) = l0[j] := by
 have h1 := congrArg (fun l => l[0]?) h.2.1
 have hl := h.1
 simp only [List.getElem?_drop, Nat.add_zero] at h1
 unfold rd_T34
 rw [Int.toNat_natCast, List.getD_eq_getElem?_getD, h1, List.getElem?_eq_getElem hj]
 rfl
theorem slices_DeleteFunc_34.DI.skip {p : S34 → Bool} {l0 L : List S34} {i j : Nat} (h : slices_DeleteFunc_34.DI p l0 i j L) (hj : j < l0.length) (ht : p l0[j] = true) : slices_DeleteFunc_34.DI p l0 i (j + 1) L := by
 obtain ⟨h1, h2, h3⟩ := h
 refine ⟨h1, ?_, ?_⟩
 ·
  rw [← List.drop_drop, h2, List.drop_drop]
 ·
  rw [List.take_succ_eq_append_getElem hj, List.filter_append, h3]; simp [ht]
theorem slices_DeleteFunc_34.DI.keep {p : S34 → Bool} {l0 L : List S34} {i j : Nat} (h : slices_DeleteFunc_34.DI p l0 i j L) (hij : i < j) (hj : j < l0.length) (ht : p l0[j] = false) : slices_DeleteFunc_34.DI p l0 (i + 1) (j + 1) (L.set i l0[j]) := by
 obtain ⟨h1, h2, h3⟩ := h
 refine ⟨by rw [List.length_set, h1], ?_, ?_⟩
 ·
  rw [List.drop_set_of_lt (by omega), ← List.drop_drop, h2, List.drop_drop]
 ·
  rw [List.take_succ_eq_append_getElem hj, List.filter_append, ← h3, List.take_succ_eq_append_getElem (by rw [List.length_set]; omega), List.take_set_of_le (Nat.le_refl _)]
  simp [ht]
theorem slices_DeleteFunc_34.DI.done {p : S34 → Bool} {l0 L : List S34} {i : Nat} (h : slices_DeleteFunc_34.DI p l0 i l0.length L) : L.take i = l0.filter (fun x => !p x) := by
 have := h.2.2
 rwa [List.take_length] at this
set_option maxHeartbeats 8000000 in
set_option maxRecDepth 100000 in
theorem slices_DeleteFunc_34.calls (p : S34 → Bool) (g : Nat) (eg : ∀ args w, (callFunc g args).run Try.prog w = .ok (.enter g args) w)
  (hp : ∀ (W : World) (x : S34), Calls Try.prog g #[.agg #[.int .i64 x.f0, .int .i64 x.f1, .int .i64 x.f2, .string x.f3]] W fun e w' => e = .returned (.bool (p x)) ∧ Below W.heap.size W w')
  (base : Nat) (w0 : World) (v : Value) (l0 : List S34) (w : World) (hR : Kd.R k34 34 w base (fun _ => True) v l0) (hB : Below base w0 w) (hbase : base ≤ w.heap.size) (hbig : l0.length ≤ 9223372036854775807) :
  Calls Try.prog 60 #[v, .func (.func g) #[] #[]] w fun e w' => ∃ v0_ : Value, e = .returned v0_ ∧ Kd.R k34 34 w' base (fun _ => True) v0_ (l0.filter (fun x => !p x)) ∧ Below base w0 w' := by
 obtain ⟨Ad, c, rfl, hc, hC⟩ := Kd.R_reads hR
 have hIF := slices_IndexFunc_34.calls (fun W' => Below w.heap.size w W') p g #[] eg Ad c l0 w hC hc hbig (Below.refl _ _) (fun _ h => h) (fun W hW x hx => (hp W x).mono (fun e w' ⟨he, hb⟩ => ⟨he, below_step hW hb⟩))
 rcases idxFrom_spec_34 p l0 0 with ⟨e1, hall⟩ | ⟨k0, hk0, e1, ht, hall⟩
 ·
  rw [show idxFrom p l0 0 = -1 from e1] at hIF
  have hf : l0.filter (fun x => !p x) = l0 := List.filter_eq_self.2 (fun x hx => by rw [hall x hx]; rfl)
  rw [hf]
  have HR := Aside0.mk hR
  have HB := Aside0.mk hB
  have HBASE := Aside0.mk hbase
  clear hR hB hC hp hall hbase e1 hf
  go_enter Try.func60, Try.ntmps60
  go_wp2_with (go_at_call 57; refine hIF.mono ?_; rintro e w' ⟨rfl, hb'⟩)
  go_ret
  exact ⟨_, rfl, Kd.R_below HR.out hb', below_then HB.out HBASE.out hb'⟩
 ·
  rw [show idxFrom p l0 0 = (k0 : Int) by rw [← Int.natCast_zero, e1]; omega] at hIF
  have hne1 : ((k0 : Int) == -1) = false := beq_eq_false_iff_ne.2 (by omega)
  obtain ⟨gb, cp, ef, hge, hglt, cells, hcells⟩ := Kd.R_form hR (by omega)
  cases ef
  have HD0 := Aside0.mk (slices_DeleteFunc_34.DI.start hk0 ht hall)
  have HR := Aside0.mk hR
  have HB := Aside0.mk hB
  have HC := Aside0.mk hc
  have HBASE := Aside0.mk hbase
  have HBIG := Aside0.mk hbig
  have HGE := Aside0.mk hge
  have HK0 := Aside0.mk hk0
  have HP := Aside0.mk hp
  clear hR hB hC hp hall hbase e1 ht hcells hglt hge hbig hc hk0
  go_enter Try.func60, Try.ntmps60
  go_wp2_with (go_at_call 57; refine hIF.mono ?_; rintro e w1 ⟨rfl, hb1⟩; have HR1 := Aside0.mk (Kd.R_below HR.out hb1); have HB1 := Aside0.mk (below_then HB.out HBASE.out hb1); have HBASE1 := Aside0.mk (Nat.le_trans HBASE.out hb1.size); clear hIF HR HB HBASE hb1)
  go_loopg [5, 6, 7] l0.length (fun gg s5 s6 _ wr => ∃ (i j : Nat) (L : List S34), s5 = .int .i64 i ∧ s6 = .int .i64 j ∧ Aside0 (j ≤ l0.length ∧ l0.length - j ≤ gg ∧ i < j ∧ base ≤ wr.heap.size) ∧ Aside0 (slices_DeleteFunc_34.DI p l0 i j L) ∧ Aside0 (Kd.R k34 34 wr base (fun _ => True) (.slice (some ⟨gb, 0, none⟩) l0.length c) L) ∧ Aside0 (Below base w0 wr))
  case atStart => exact ⟨k0, k0 + 1, l0, rfl, by have h1 := HK0.out; have h2 := HBIG.out; rw [show wrap64 ((k0 : Int) + 1) = ((k0 + 1 : Nat) : Int) from by unfold wrap64; omega], ⟨by have := HK0.out; have := HBASE1.out; omega⟩, HD0, HR1, HB1⟩
  case round =>
   clear HR1 HB1 HBASE1 HD0 HK0
   obtain ⟨i, j, L, rfl, rfl, HN, HD, HR, HB⟩ := hrel
   by_cases hlt : j < l0.length
   ·
    have hltz : decide ((j : Int) < (l0.length : Int)) = true := decide_eq_true (by omega)
    have pj : (0 : Int) ≤ (j : Int) := by omega
    have qj : (j : Int) < (l0.length : Int) := by omega
    obtain ⟨ce, hcl, hM, hcc, hfr⟩ := Kd.R_elem HR.out z34 (j : Int) pj qj
    obtain rfl := k34_openM hM
    have hy : L.getD (j : Int).toNat z34 = l0[j] := HD.out.at_ hlt
    rw [hy] at hcc
    have hx0 : wr.cell? ⟨gb, (j : Int).toNat * 4, none⟩ = some (.int .i64 (l0[j]).f0) := hcc 0 _ rfl; simp only [Int.toNat_natCast] at hx0
    have hx1 : wr.cell? ⟨gb, (j : Int).toNat * 4 + 1, none⟩ = some (.int .i64 (l0[j]).f1) := hcc 1 _ rfl; simp only [Int.toNat_natCast] at hx1
    have hx2 : wr.cell? ⟨gb, (j : Int).toNat * 4 + 2, none⟩ = some (.int .i64 (l0[j]).f2) := hcc 2 _ rfl; simp only [Int.toNat_natCast] at hx2
    have hx3 : wr.cell? ⟨gb, (j : Int).toNat * 4 + 3, none⟩ = some (.string (l0[j]).f3) := hcc 3 _ rfl; simp only [Int.toNat_natCast] at hx3
    clear hcc hfr hcl hM hy
    have hyv : ∃ y, y = l0[j] := ⟨_, rfl⟩
    obtain ⟨y, hyv⟩ := hyv
    rw [← hyv] at hx0 hx1 hx2 hx3
    have HY := Aside0.mk hyv
    clear hyv
    have hcall := HP.out (wr.alloc (.cells #[.int .i64 y.f0, .int .i64 y.f1, .int .i64 y.f2, .string y.f3] 34)) y
    have HW := Aside0.mk (blk_new wr (.cells #[.int .i64 y.f0, .int .i64 y.f1, .int .i64 y.f2, .string y.f3] 34))
    have HRA := Aside0.mk (Kd.R_alloc HR.out (.cells #[.int .i64 y.f0, .int .i64 y.f1, .int .i64 y.f2, .string y.f3] 34))
    have HBA := Aside0.mk (HB.out.alloc HN.out.2.2.2 (.cells #[.int .i64 y.f0, .int .i64 y.f1, .int .i64 y.f2, .string y.f3] 34))
    have ej : wrap64 ((j : Int) + 1) = ((j + 1 : Nat) : Int) := by have := HBIG.out; unfold wrap64; omega
    cases hq : p y with
    | true =>
     rw [hq] at hcall
     go_wp2_with (go_at_fn g; refine hcall.mono ?_; rintro e w2 ⟨rfl, hb2⟩)
     go_roundg (l0.length - (j + 1))
     case measure => have := HN.out; omega
     case rel => exact ⟨i, j + 1, L, rfl, by rw [ej], ⟨by have := HN.out; have h1 := hb2.size; simp at h1; omega⟩, ⟨HD.out.skip hlt (by rw [← HY.out]; exact hq)⟩, ⟨Kd.R_below HRA.out hb2⟩, ⟨below_then HBA.out (by have := HN.out; simp; omega) hb2⟩⟩
    | false =>
     rw [hq] at hcall
     go_wp2
     refine hcall.mono ?_; rintro e w2 ⟨rfl, hb2⟩; have HR2 := Aside0.mk (Kd.R_below HRA.out hb2); have HB2 := Aside0.mk (below_then HBA.out (show base ≤ _ by have := HN.out; simp; omega) hb2); have hblk := blk_below HW.out hb2; have HSZ := Aside0.mk hb2.size; clear hb2 hcall; have hn0 : w2.cell? ⟨wr.heap.size, 0, none⟩ = some (.int .i64 y.f0) := (blk_cell hblk 0).trans rfl; have hn1 : w2.cell? ⟨wr.heap.size, 1, none⟩ = some (.int .i64 y.f1) := (blk_cell hblk 1).trans rfl; have hn2 : w2.cell? ⟨wr.heap.size, 2, none⟩ = some (.int .i64 y.f2) := (blk_cell hblk 2).trans rfl; have hn3 : w2.cell? ⟨wr.heap.size, 3, none⟩ = some (.string y.f3) := (blk_cell hblk 3).trans rfl; clear hblk; obtain ⟨ci, hcl, hM, hcc, hfr⟩ := Kd.R_elem HR2.out z34 (i : Int) (by omega) (show (i : Int) < (l0.length : Int) by have := HN.out; omega); obtain rfl := k34_openM hM; have hi0 : w2.cell? ⟨gb, (i : Int).toNat * 4, none⟩ = some _ := hcc 0 _ rfl; simp only [Int.toNat_natCast] at hi0; have hf0 : w2.frozen? ⟨gb, (i : Int).toNat * 4, none⟩ = false := hfr 0; simp only [Int.toNat_natCast] at hf0; have hi1 : w2.cell? ⟨gb, (i : Int).toNat * 4 + 1, none⟩ = some _ := hcc 1 _ rfl; simp only [Int.toNat_natCast] at hi1; have hf1 : w2.frozen? ⟨gb, (i : Int).toNat * 4 + 1, none⟩ = false := hfr 1; simp only [Int.toNat_natCast] at hf1; have hi2 : w2.cell? ⟨gb, (i : Int).toNat * 4 + 2, none⟩ = some _ := hcc 2 _ rfl; simp only [Int.toNat_natCast] at hi2; have hf2 : w2.frozen? ⟨gb, (i : Int).toNat * 4 + 2, none⟩ = false := hfr 2; simp only [Int.toNat_natCast] at hf2; have hi3 : w2.cell? ⟨gb, (i : Int).toNat * 4 + 3, none⟩ = some _ := hcc 3 _ rfl; simp only [Int.toNat_natCast] at hi3; have hf3 : w2.frozen? ⟨gb, (i : Int).toNat * 4 + 3, none⟩ = false := hfr 3; simp only [Int.toNat_natCast] at hf3; have HP2 := Aside0.mk (Kd.R_seg HR2.out (i : Int) (by omega) (show (i : Int) < (l0.length : Int) by have := HN.out; omega) (seg := [.int .i64 y.f0, .int .i64 y.f1, .int .i64 y.f2, .string y.f3]) (j := 0) hcl hcc (show 4 ≤ 4 from by decide) (x' := y) (k34_mkM _ _ _ y) (fun _ hk => hk)); clear hcc hfr hcl hM; have pi : (0 : Int) ≤ (i : Int) := (by omega); have qi : (i : Int) < (l0.length : Int) := (by have := HN.out; omega)
     go_wp2
     go_roundg (l0.length - (j + 1))
     case measure => have := HN.out; omega
     case rel =>
      have ei : wrap64 ((i : Int) + 1) = ((i + 1 : Nat) : Int) := by have := HBIG.out; have := HN.out; unfold wrap64; omega
      have hk := HD.out.keep HN.out.2.2.1 hlt (by rw [← HY.out]; exact hq)
      rw [← HY.out] at hk
      have hb3 := slices_DeleteFunc_34.below HB2.out HGE.out (i * 4) [.int .i64 y.f0, .int .i64 y.f1, .int .i64 y.f2, .string y.f3]
      have hs3 := (setCells_same gb [.int .i64 y.f0, .int .i64 y.f1, .int .i64 y.f2, .string y.f3] (i * 4) w2).2.2.2
      refine ⟨i + 1, j + 1, L.set i y, by rw [ei], by rw [ej], ⟨?_⟩, ⟨hk⟩, ⟨HP2.out.1⟩, ⟨hb3⟩⟩
      have h1 := HN.out
      have h2 := HSZ.out
      simp at h2
      refine ⟨by omega, by omega, by omega, ?_⟩
      exact Nat.le_trans (Nat.le_trans h1.2.2.2 (by omega : wr.heap.size ≤ w2.heap.size)) (Nat.le_of_eq hs3.symm)
   ·
    obtain rfl : j = l0.length := by have := HN.out; omega
    have hltz : decide ((l0.length : Int) < (l0.length : Int)) = false := decide_eq_false (by omega)
    have hin : i < l0.length := HN.out.2.2.1
    have pi : (0 : Int) ≤ (i : Int) := by omega
    have qi : (i : Int) ≤ (l0.length : Int) := by omega
    have hcl : ∀ ty, (Builtin.clear_ #[24] ty #[.slice (some ⟨gb, i * 4, none⟩) (l0.length - i) (c - i)]).run Try.prog wr = .ok (.tuple #[]) (wr.setCells gb (i * 4) (Builtin.zeroCells #[.int .i64 0, .int .i64 0, .int .i64 0, .string ⟨#[]⟩] (l0.length - i)).toList) := by
     intro ty
     obtain ⟨_, inn0, ⟨hl0, ho0⟩, hr0⟩ := HR.out
     rcases ho0 with ⟨hv, _⟩ | ⟨g0, cap0, cur0, hv0, hb0, hh0, hnc0, hcm0, hcs0, ht0⟩
     ·
      cases hv
     injection hv0 with ha0 _ hc0
     injection ha0 with ha0
     injection ha0 with hg0
     subst hg0; subst hc0
     have hz0 : cur0.size = c * 4 := hcs0
     refine slices_DeleteFunc_34.zeros wr ty gb _ _ _ (by omega) (fun q hq => ?_) (fun q _ => by simp [World.frozen?, hh0])
     have hq2 : i * 4 + q < cur0.size := by have := HC.out; omega
     rw [cell_of_row wr gb _ cur0 _ _ hh0, Array.getElem?_eq_getElem hq2]
     rfl
    have hzl : (Builtin.zeroCells #[.int .i64 0, .int .i64 0, .int .i64 0, .string ⟨#[]⟩] (l0.length - i)).toList.length = (l0.length - i) * 4 := by simp [Builtin.zeroCells]
    have HRE := Aside0.mk (slices_DeleteFunc_34.cut HR.out i (by omega) _ hzl)
    have HBE := Aside0.mk (slices_DeleteFunc_34.below HB.out HGE.out (i * 4) (Builtin.zeroCells #[.int .i64 0, .int .i64 0, .int .i64 0, .string ⟨#[]⟩] (l0.length - i)).toList)
    clear hzl
    have hci : ¬ c = i := by have := HC.out; omega
    have hic : i ≤ c := by have := HC.out; omega
    have hc0 : ¬ c = 0 := by have := HC.out; omega
    go_wp2
    go_ret
    exact ⟨_, rfl, by rw [← HD.out.done]; exact HRE.out, HBE.out⟩

def impl_writes.f (l0 : List S34) : Option (List S34) := if l0.length * 40 ≤ 140737488355328 then some (l0.filter (fun x => !(x.f0 == 5))) else none
theorem impl_writes.pred (W : World) (x : S34) :
  Calls Try.prog 62 #[.agg #[.int .i64 x.f0, .int .i64 x.f1, .int .i64 x.f2, .string x.f3]] W fun e w' => e = .returned (.bool (x.f0 == 5)) ∧ Below W.heap.size W w' := by
 go_enter Try.func62, Try.ntmps62
 go_wp2
 all_goals (go_ret; exact ⟨rfl, by repeat (first | exact Below.refl _ _ | apply pw_below_drewN | apply below_drew1 | apply below_alloc)⟩)
set_option maxRecDepth 100000 in
theorem impl_writes.calls (A0 : Option Addr) (c0 : Nat) (l0 : List S34) (r : List S34) (w : World) (hr0 : Kd.C k34 w A0 l0.length l0) (hc0 : l0.length ≤ c0) (h : impl_writes.f l0 = some r) :
  Calls Try.prog 51 #[.slice A0 l0.length c0] w fun e w' => ∃ v0_ : Value, e = .returned (v0_) ∧ Kd.R k34 34 w' w.heap.size (fun _ => True) v0_ r ∧ Below w.heap.size w w' := by
 unfold impl_writes.f at h
 by_cases hb : l0.length * 40 ≤ 140737488355328
 ·
  rw [if_pos hb] at h
  obtain rfl := Option.some.inj h
  have eg : ∀ args w, (callFunc 62 args).run Try.prog w = .ok (.enter 62 args) w := enters_of Try.func62 (by kernel_rfl) rfl
  have HR0 := Aside0.mk hr0
  have HC0 := Aside0.mk hc0
  have HF := Aside0.mk (show slices_Clone_S34.f l0 = some l0 by unfold slices_Clone_S34.f; rw [if_pos hb])
  have HBIG := Aside0.mk (show l0.length ≤ 9223372036854775807 by omega)
  have HB := Aside0.mk (Below.refl w.heap.size w)
  clear hr0 hc0 h hb
  have hdel := fun (v : Value) (W : World) (hR : Kd.R k34 34 W w.heap.size (fun _ => True) v l0) (hB : Below w.heap.size w W) => slices_DeleteFunc_34.calls (fun x => x.f0 == 5) 62 eg impl_writes.pred w.heap.size w v l0 W hR hB hB.size HBIG.out
  generalize l0.filter (fun x => !(x.f0 == 5)) = r at hdel
  go_enter Try.func51, Try.ntmps51
  go_wp2_with (first
   | (go_at_call 61; refine (slices_Clone_S34.calls A0 c0 l0 l0 _ (by repeat (first | exact HR0.out | (with_reducible refine Kd.C_alloc ?_ _) | (with_reducible refine Kd.C_drewN ?_ _) | (with_reducible refine Kd.C_drew ?_))) HC0.out HF.out).mono ?_; rintro e w1 ⟨v1, rfl, hR1, hB1⟩; have HR1 := Aside0.mk hR1; have HB1 := Aside0.mk hB1; clear hR1 hB1)
   | (go_at_call 60; refine (hdel _ _ (by exact HR1.out) (by exact HB1.out)).mono ?_; rintro e w2 ⟨v2, rfl, hR2, hB2⟩; have HR2 := Aside0.mk hR2; have HB2 := Aside0.mk hB2; clear hR2 hB2))
  go_ret
  exact ⟨_, rfl, HR2.out, HB2.out⟩
 ·
  rw [if_neg hb] at h; cases h


/-! ### impl_madeBy: function 52 -/
def impl_madeBy.f (a0_0 : Int) (a0_1 : Int) (a0_2 : Int) (a0_3 : ByteArray) (a1 : ByteArray) : Option (ByteArray) := if a0_0 = 1 then (some (⟨#[0, 0, 0, 0, 0, 0, 0, 0]⟩ : ByteArray)) else (if a0_0 = 2 then (some a0_3) else (if a0_0 = 3 then (some a1) else ((impl_xored.f a1 a0_3).bind fun t338 => (some t338))))
set_option maxHeartbeats 8000000 in
set_option maxRecDepth 100000 in
theorem impl_madeBy.calls (a0_0 : Int) (a0_1 : Int) (a0_2 : Int) (a0_3 : ByteArray) (a1 : ByteArray) (r : ByteArray) (w : World) (h : impl_madeBy.f a0_0 a0_1 a0_2 a0_3 a1 = some r) :
  Calls Try.prog 52 #[.agg #[.int .i64 a0_0, .int .i64 a0_1, .int .i64 a0_2, .string a0_3], .string a1] w fun e w' => e = .returned (.string r) ∧ Below w.heap.size w w' := by
 have hu34 := Try.underlying34
 have HB := Aside0.mk (Below.refl w.heap.size w)
 have H : (if a0_0 = 1 then (some (⟨#[0, 0, 0, 0, 0, 0, 0, 0]⟩ : ByteArray)) else (if a0_0 = 2 then (some a0_3) else (if a0_0 = 3 then (some a1) else ((impl_xored.f a1 a0_3).bind fun t338 => (some t338))))) = some r := h
 clear h
 by_cases c3 : a0_0 = 1
 ·
  rw [if_pos c3] at H
  have c3b0 : (a0_0 == 1) = true := beq_iff_eq.mpr c3
  have c3b1 : (a0_0 != 1) = false := bne_eq_false_iff_eq.mpr c3
  clear c3
  obtain rfl := Option.some.inj H
  go_enter Try.func52, Try.ntmps52
  go_wp2_with (first | ((with_reducible refine gate_dst (N := 2) rfl ?_); refine box_event ?hg (N := 2) ?hd (cs := #[.int .i64 a0_0, .int .i64 a0_1, .int .i64 a0_2, .string a0_3]) (t := 34) ?hr ?_; (case hd => rfl); (case hg => rfl); (case hr => first | (go_simp; done) | (go_simp; rfl)); intro gb337 hg w4 hbox hb; have n0_ := Aside0.mk (below_step (by repeat (first | (with_reducible first | exact HB.out | apply below_alloc | apply pw_below_drewN | apply below_drew1) | exact HB.out)) hb); have n1_ := Aside0.mk (hbox); have n2_ := Aside0.mk ((by rw [hg]; exact (below_size (by repeat (first | (with_reducible first | exact HB.out | apply below_alloc | apply pw_below_drewN | apply below_drew1) | exact HB.out))) : w.heap.size ≤ gb337)); have n3_ := Aside0.mk ((by rw [hg]; exact (below_size (by repeat (first | (with_reducible first | exact HB.out | apply below_alloc | apply pw_below_drewN | apply below_drew1) | exact HB.out))) : w.heap.size ≤ gb337)); clear HB; have HB := n0_; have BK337 := n1_; have GW337 := n2_; have GE337 := n3_; clear n0_ n1_ n2_ n3_; clear hb hbox hg; have hcz5_0 : w4.cell? ⟨gb337, 0, none⟩ = some (.int .i64 a0_0) := (blk_cell BK337.out 0).trans rfl; have hcz5_1 : w4.cell? ⟨gb337, 1, none⟩ = some (.int .i64 a0_1) := (blk_cell BK337.out 1).trans rfl; have hcz5_2 : w4.cell? ⟨gb337, 2, none⟩ = some (.int .i64 a0_2) := (blk_cell BK337.out 2).trans rfl; have hcz5_3 : w4.cell? ⟨gb337, 3, none⟩ = some (.string a0_3) := (blk_cell BK337.out 3).trans rfl; have hfz5_0 := blk_frozen BK337.out 0; have hfz5_1 := blk_frozen BK337.out 1; have hfz5_2 := blk_frozen BK337.out 2; have hfz5_3 := blk_frozen BK337.out 3))
  go_ret
  exact ⟨by first | rfl | (simp [errW_none, errW_some] <;> rfl) | (simp [*, errW_none, errW_some] <;> rfl), by repeat (first | (with_reducible first | exact HB.out | apply below_alloc | apply pw_below_drewN | apply below_drew1 | refine below_set ?_ GE337.out) | exact HB.out)⟩
 ·
  rw [if_neg c3] at H
  have c3b0 : (a0_0 == 1) = false := beq_eq_false_iff_ne.mpr c3
  have c3b1 : (a0_0 != 1) = true := bne_iff_ne.mpr c3
  by_cases c6 : a0_0 = 2
  ·
   rw [if_pos c6] at H
   have c6b0 : (a0_0 == 2) = true := beq_iff_eq.mpr c6
   have c6b1 : (a0_0 != 2) = false := bne_eq_false_iff_eq.mpr c6
   clear c6
   obtain rfl := Option.some.inj H
   go_enter Try.func52, Try.ntmps52
   go_wp2_with (first | ((with_reducible refine gate_dst (N := 2) rfl ?_); refine box_event ?hg (N := 2) ?hd (cs := #[.int .i64 a0_0, .int .i64 a0_1, .int .i64 a0_2, .string a0_3]) (t := 34) ?hr ?_; (case hd => rfl); (case hg => rfl); (case hr => first | (go_simp; done) | (go_simp; rfl)); intro gb337 hg w7 hbox hb; have n0_ := Aside0.mk (below_step (by repeat (first | (with_reducible first | exact HB.out | apply below_alloc | apply pw_below_drewN | apply below_drew1) | exact HB.out)) hb); have n1_ := Aside0.mk (hbox); have n2_ := Aside0.mk ((by rw [hg]; exact (below_size (by repeat (first | (with_reducible first | exact HB.out | apply below_alloc | apply pw_below_drewN | apply below_drew1) | exact HB.out))) : w.heap.size ≤ gb337)); have n3_ := Aside0.mk ((by rw [hg]; exact (below_size (by repeat (first | (with_reducible first | exact HB.out | apply below_alloc | apply pw_below_drewN | apply below_drew1) | exact HB.out))) : w.heap.size ≤ gb337)); clear HB; have HB := n0_; have BK337 := n1_; have GW337 := n2_; have GE337 := n3_; clear n0_ n1_ n2_ n3_; clear hb hbox hg; have hcz8_0 : w7.cell? ⟨gb337, 0, none⟩ = some (.int .i64 a0_0) := (blk_cell BK337.out 0).trans rfl; have hcz8_1 : w7.cell? ⟨gb337, 1, none⟩ = some (.int .i64 a0_1) := (blk_cell BK337.out 1).trans rfl; have hcz8_2 : w7.cell? ⟨gb337, 2, none⟩ = some (.int .i64 a0_2) := (blk_cell BK337.out 2).trans rfl; have hcz8_3 : w7.cell? ⟨gb337, 3, none⟩ = some (.string a0_3) := (blk_cell BK337.out 3).trans rfl; have hfz8_0 := blk_frozen BK337.out 0; have hfz8_1 := blk_frozen BK337.out 1; have hfz8_2 := blk_frozen BK337.out 2; have hfz8_3 := blk_frozen BK337.out 3))
   go_ret
   exact ⟨by first | rfl | (simp [errW_none, errW_some] <;> rfl) | (simp [*, errW_none, errW_some] <;> rfl), by repeat (first | (with_reducible first | exact HB.out | apply below_alloc | apply pw_below_drewN | apply below_drew1 | refine below_set ?_ GE337.out) | exact HB.out)⟩
  ·
   rw [if_neg c6] at H
   have c6b0 : (a0_0 == 2) = false := beq_eq_false_iff_ne.mpr c6
   have c6b1 : (a0_0 != 2) = true := bne_iff_ne.mpr c6
   by_cases c9 : a0_0 = 3
   ·
    rw [if_pos c9] at H
    have c9b0 : (a0_0 == 3) = true := beq_iff_eq.mpr c9
    have c9b1 : (a0_0 != 3) = false := bne_eq_false_iff_eq.mpr c9
    clear c9
    obtain rfl := Option.some.inj H
    go_enter Try.func52, Try.ntmps52
    go_wp2_with (first | ((with_reducible refine gate_dst (N := 2) rfl ?_); refine box_event ?hg (N := 2) ?hd (cs := #[.int .i64 a0_0, .int .i64 a0_1, .int .i64 a0_2, .string a0_3]) (t := 34) ?hr ?_; (case hd => rfl); (case hg => rfl); (case hr => first | (go_simp; done) | (go_simp; rfl)); intro gb337 hg w10 hbox hb; have n0_ := Aside0.mk (below_step (by repeat (first | (with_reducible first | exact HB.out | apply below_alloc | apply pw_below_drewN | apply below_drew1) | exact HB.out)) hb); have n1_ := Aside0.mk (hbox); have n2_ := Aside0.mk ((by rw [hg]; exact (below_size (by repeat (first | (with_reducible first | exact HB.out | apply below_alloc | apply pw_below_drewN | apply below_drew1) | exact HB.out))) : w.heap.size ≤ gb337)); have n3_ := Aside0.mk ((by rw [hg]; exact (below_size (by repeat (first | (with_reducible first | exact HB.out | apply below_alloc | apply pw_below_drewN | apply below_drew1) | exact HB.out))) : w.heap.size ≤ gb337)); clear HB; have HB := n0_; have BK337 := n1_; have GW337 := n2_; have GE337 := n3_; clear n0_ n1_ n2_ n3_; clear hb hbox hg; have hcz11_0 : w10.cell? ⟨gb337, 0, none⟩ = some (.int .i64 a0_0) := (blk_cell BK337.out 0).trans rfl; have hcz11_1 : w10.cell? ⟨gb337, 1, none⟩ = some (.int .i64 a0_1) := (blk_cell BK337.out 1).trans rfl; have hcz11_2 : w10.cell? ⟨gb337, 2, none⟩ = some (.int .i64 a0_2) := (blk_cell BK337.out 2).trans rfl; have hcz11_3 : w10.cell? ⟨gb337, 3, none⟩ = some (.string a0_3) := (blk_cell BK337.out 3).trans rfl; have hfz11_0 := blk_frozen BK337.out 0; have hfz11_1 := blk_frozen BK337.out 1; have hfz11_2 := blk_frozen BK337.out 2; have hfz11_3 := blk_frozen BK337.out 3))
    go_ret
    exact ⟨by first | rfl | (simp [errW_none, errW_some] <;> rfl) | (simp [*, errW_none, errW_some] <;> rfl), by repeat (first | (with_reducible first | exact HB.out | apply below_alloc | apply pw_below_drewN | apply below_drew1 | refine below_set ?_ GE337.out) | exact HB.out)⟩
   ·
    rw [if_neg c9] at H
    have c9b0 : (a0_0 == 3) = false := beq_eq_false_iff_ne.mpr c9
    have c9b1 : (a0_0 != 3) = true := bne_iff_ne.mpr c9
    replace H := Option.bind_eq_some_iff.mp H
    obtain ⟨t338, A120, H⟩ := H
    replace H : (some t338) = some r := H
    have A12 := Aside0.mk A120
    clear A120
    obtain rfl := Option.some.inj H
    go_enter Try.func52, Try.ntmps52
    go_wp2_with (first | ((with_reducible refine gate_dst (N := 2) rfl ?_); refine box_event ?hg (N := 2) ?hd (cs := #[.int .i64 a0_0, .int .i64 a0_1, .int .i64 a0_2, .string a0_3]) (t := 34) ?hr ?_; (case hd => rfl); (case hg => rfl); (case hr => first | (go_simp; done) | (go_simp; rfl)); intro gb337 hg w13 hbox hb; have n0_ := Aside0.mk (below_step (by repeat (first | (with_reducible first | exact HB.out | apply below_alloc | apply pw_below_drewN | apply below_drew1) | exact HB.out)) hb); have n1_ := Aside0.mk (hbox); have n2_ := Aside0.mk ((by rw [hg]; exact (below_size (by repeat (first | (with_reducible first | exact HB.out | apply below_alloc | apply pw_below_drewN | apply below_drew1) | exact HB.out))) : w.heap.size ≤ gb337)); have n3_ := Aside0.mk ((by rw [hg]; exact (below_size (by repeat (first | (with_reducible first | exact HB.out | apply below_alloc | apply pw_below_drewN | apply below_drew1) | exact HB.out))) : w.heap.size ≤ gb337)); clear HB; have HB := n0_; have BK337 := n1_; have GW337 := n2_; have GE337 := n3_; clear n0_ n1_ n2_ n3_; clear hb hbox hg; have hcz14_0 : w13.cell? ⟨gb337, 0, none⟩ = some (.int .i64 a0_0) := (blk_cell BK337.out 0).trans rfl; have hcz14_1 : w13.cell? ⟨gb337, 1, none⟩ = some (.int .i64 a0_1) := (blk_cell BK337.out 1).trans rfl; have hcz14_2 : w13.cell? ⟨gb337, 2, none⟩ = some (.int .i64 a0_2) := (blk_cell BK337.out 2).trans rfl; have hcz14_3 : w13.cell? ⟨gb337, 3, none⟩ = some (.string a0_3) := (blk_cell BK337.out 3).trans rfl; have hfz14_0 := blk_frozen BK337.out 0; have hfz14_1 := blk_frozen BK337.out 1; have hfz14_2 := blk_frozen BK337.out 2; have hfz14_3 := blk_frozen BK337.out 3) | ((with_reducible refine gate_callee (f := 41) rfl ?_); refine goesL_ (some 19) rfl rfl Try.func41 (by kernel_rfl) rfl #[.string a1, .string a0_3] rfl (by (try simp only [List.map_toArray, List.map_cons, List.map_nil]); first | done | rfl | (simp only [List.length_drop, List.length_take]; rfl)) ?_; (with_reducible refine (impl_xored.calls a1 a0_3 t338 _ A12.out).mono ?_); rintro e w15 ⟨rfl, hb⟩; refine ⟨_, rfl, ?_⟩; have n0_ := Aside0.mk (blk_below (g := gb337) (o := .cells #[.int .i64 a0_0, .int .i64 a0_1, .int .i64 a0_2, .string a0_3] 34 (0, 0)) (by (with_reducible repeat (first | refine blk_drewN ?_ _ | refine blk_drew ?_ | refine blk_alloc ?_ _)); exact BK337.out) hb); have n1_ := Aside0.mk (below_step (by repeat (first | (with_reducible first | exact HB.out | apply below_alloc | apply pw_below_drewN | apply below_drew1 | refine below_set ?_ GE337.out) | exact HB.out)) hb); clear BK337; clear HB; have BK337 := n0_; have HB := n1_; clear n0_ n1_; (try clear hb); (try clear hb2); (try clear hk); (try clear hi)))
    go_ret
    exact ⟨by first | rfl | (simp [errW_none, errW_some] <;> rfl) | (simp [*, errW_none, errW_some] <;> rfl), by repeat (first | (with_reducible first | exact HB.out | apply below_alloc | apply pw_below_drewN | apply below_drew1 | refine below_set ?_ GE337.out) | exact HB.out)⟩

end Go.Proofs.Ytbihlagdcbdiaaa.Q
