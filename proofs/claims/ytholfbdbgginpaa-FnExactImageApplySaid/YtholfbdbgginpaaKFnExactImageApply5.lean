/- For each Go function that the laws of this text reach: a Lean function, and the proof that the Go function returns what the Lean function tells, wherever it tells some value. Written by a program of this session. -/
import Derived.Test.YtholfbdbgginpaaKFnExactImageApply0
import Derived.Test.YtholfbdbgginpaaKFnExactImageApply2
import Derived.Test.YtholfbdbgginpaaKFnExactImageApply3
import Derived.Test.YtholfbdbgginpaaKFnExactImageApply4
namespace Go.Proofs.Ytholfbdbgginpaa.Q
open Go.RowKit Go.Proofs.YtholfbdbgginpaaW.PrintWords Go.Proofs.YtholfbdbgginpaaW.PrintLast Go.Proofs.YtholfbdbgginpaaW.PrintMore
attribute [local go_sem] max2_int min2_int max_two min_two max_three min_three max_four min_four Instr.field asAgg   -- for this text's walks alone
set_option linter.unusedVariables false
set_option linter.unusedSimpArgs false
/-! ### spec_l07Make: function 59 -/
def spec_l07Make.f (k : Nat) (a0_0 : Int) (a0_1 : Int) (a0_2 : Int) (a0_3 : ByteArray) (a1 : ByteArray) : Option (ByteArray) := if a0_0 = 1 then ((spec_l07Zero.f).bind fun t285 => (some t285)) else (if a0_0 = 2 then (some a0_3) else (if a0_0 = 3 then (some a1) else ((spec_Xored.f k a1 a0_3).bind fun t286 => (some t286))))
theorem spec_l07Make.mono : ∀ a0 a1 a2 a3 a4 k, LeO (spec_l07Make.f k a0 a1 a2 a3 a4) (spec_l07Make.f (k + 1) a0 a1 a2 a3 a4) := by
 intro a0 a1 a2 a3 a4 k
 unfold spec_l07Make.f
 repeat' first
   | (with_reducible exact spec_Xored.mono _ _ _)
   | (with_reducible exact LeO.refl _)
   | (with_reducible exact LeO.none _)
   | (with_reducible refine LeO.ite ?_ ?_)
   | (with_reducible refine LeO.bind ?_ (fun _ => ?_))
   | exact spec_Xored.mono _ _ _
   | exact LeO.none _
   | refine LeO.ite ?_ ?_
   | refine LeO.bind ?_ (fun _ => ?_)
set_option maxHeartbeats 8000000 in
set_option maxRecDepth 100000 in
theorem spec_l07Make.calls (k : Nat) (a0_0 : Int) (a0_1 : Int) (a0_2 : Int) (a0_3 : ByteArray) (a1 : ByteArray) (r : ByteArray) (w : World) (h : spec_l07Make.f k a0_0 a0_1 a0_2 a0_3 a1 = some r) :
  Calls Try.prog 59 #[.agg #[.int .i64 a0_0, .int .i64 a0_1, .int .i64 a0_2, .string a0_3], .string a1] w fun e w' => e = .returned (.string r) ∧ Below w.heap.size w w' := by
 have hu26 := Try.underlying26
 have HB := Aside0.mk (Below.refl w.heap.size w)
 have H : (if a0_0 = 1 then ((spec_l07Zero.f).bind fun t285 => (some t285)) else (if a0_0 = 2 then (some a0_3) else (if a0_0 = 3 then (some a1) else ((spec_Xored.f k a1 a0_3).bind fun t286 => (some t286))))) = some r := h
 clear h
 by_cases c3 : a0_0 = 1
 ·
  rw [if_pos c3] at H
  have c3b0 : (a0_0 == 1) = true := beq_iff_eq.mpr c3
  have c3b1 : (a0_0 != 1) = false := bne_eq_false_iff_eq.mpr c3
  clear c3
  replace H := Option.bind_eq_some_iff.mp H
  obtain ⟨t285, A40, H⟩ := H
  replace H : (some t285) = some r := H
  have A4 := Aside0.mk A40
  clear A40
  obtain rfl := Option.some.inj H
  go_enter Try.func59, Try.ntmps59
  go_wp2_with (first | ((with_reducible refine gate_dst (N := 2) rfl ?_); refine box_event ?hg (N := 2) ?hd (cs := #[.int .i64 a0_0, .int .i64 a0_1, .int .i64 a0_2, .string a0_3]) (t := 26) ?hr ?_; (case hd => rfl); (case hg => rfl); (case hr => first | (go_simp; done) | (go_simp; rfl)); intro gb284 hg w5 hbox hb; have n0_ := Aside0.mk (below_step (by repeat (first | (with_reducible first | exact HB.out | apply below_alloc | apply pw_below_drewN | apply below_drew1) | exact HB.out)) hb); have n1_ := Aside0.mk (hbox); have n2_ := Aside0.mk ((by rw [hg]; exact (below_size (by repeat (first | (with_reducible first | exact HB.out | apply below_alloc | apply pw_below_drewN | apply below_drew1) | exact HB.out))) : w.heap.size ≤ gb284)); have n3_ := Aside0.mk ((by rw [hg]; exact (below_size (by repeat (first | (with_reducible first | exact HB.out | apply below_alloc | apply pw_below_drewN | apply below_drew1) | exact HB.out))) : w.heap.size ≤ gb284)); clear HB; have HB := n0_; have BK284 := n1_; have GW284 := n2_; have GE284 := n3_; clear n0_ n1_ n2_ n3_; clear hb hbox hg; have hcz6_0 : w5.cell? ⟨gb284, 0, none⟩ = some (.int .i64 a0_0) := (blk_cell BK284.out 0).trans rfl; have hcz6_1 : w5.cell? ⟨gb284, 1, none⟩ = some (.int .i64 a0_1) := (blk_cell BK284.out 1).trans rfl; have hcz6_2 : w5.cell? ⟨gb284, 2, none⟩ = some (.int .i64 a0_2) := (blk_cell BK284.out 2).trans rfl; have hcz6_3 : w5.cell? ⟨gb284, 3, none⟩ = some (.string a0_3) := (blk_cell BK284.out 3).trans rfl; have hfz6_0 := blk_frozen BK284.out 0; have hfz6_1 := blk_frozen BK284.out 1; have hfz6_2 := blk_frozen BK284.out 2; have hfz6_3 := blk_frozen BK284.out 3) | ((with_reducible refine gate_callee (f := 86) rfl ?_); refine goesL_ (some 9) rfl rfl Try.func86 (by kernel_rfl) rfl #[] rfl (by (try simp only [List.map_toArray, List.map_cons, List.map_nil]); first | done | rfl | (simp only [List.length_drop, List.length_take]; rfl)) ?_; (with_reducible refine (spec_l07Zero.calls  t285 _ A4.out).mono ?_); rintro e w7 ⟨rfl, hb⟩; refine ⟨_, rfl, ?_⟩; have n0_ := Aside0.mk (blk_below (g := gb284) (o := .cells #[.int .i64 a0_0, .int .i64 a0_1, .int .i64 a0_2, .string a0_3] 26 (0, 0)) (by (with_reducible repeat (first | refine blk_drewN ?_ _ | refine blk_drew ?_ | refine blk_alloc ?_ _)); exact BK284.out) hb); have n1_ := Aside0.mk (below_step (by repeat (first | (with_reducible first | exact HB.out | apply below_alloc | apply pw_below_drewN | apply below_drew1 | refine below_set ?_ GE284.out) | exact HB.out)) hb); clear BK284; clear HB; have BK284 := n0_; have HB := n1_; clear n0_ n1_; (try clear hb); (try clear hb2); (try clear hk); (try clear hi)))
  go_ret
  exact ⟨by first | rfl | (simp [errW_none, errW_some] <;> rfl) | (simp [*, errW_none, errW_some] <;> rfl), by repeat (first | (with_reducible first | exact HB.out | apply below_alloc | apply pw_below_drewN | apply below_drew1 | refine below_set ?_ GE284.out) | exact HB.out)⟩
 ·
  rw [if_neg c3] at H
  have c3b0 : (a0_0 == 1) = false := beq_eq_false_iff_ne.mpr c3
  have c3b1 : (a0_0 != 1) = true := bne_iff_ne.mpr c3
  by_cases c8 : a0_0 = 2
  ·
   rw [if_pos c8] at H
   have c8b0 : (a0_0 == 2) = true := beq_iff_eq.mpr c8
   have c8b1 : (a0_0 != 2) = false := bne_eq_false_iff_eq.mpr c8
   clear c8
   obtain rfl := Option.some.inj H
   go_enter Try.func59, Try.ntmps59
   go_wp2_with (first | ((with_reducible refine gate_dst (N := 2) rfl ?_); refine box_event ?hg (N := 2) ?hd (cs := #[.int .i64 a0_0, .int .i64 a0_1, .int .i64 a0_2, .string a0_3]) (t := 26) ?hr ?_; (case hd => rfl); (case hg => rfl); (case hr => first | (go_simp; done) | (go_simp; rfl)); intro gb284 hg w9 hbox hb; have n0_ := Aside0.mk (below_step (by repeat (first | (with_reducible first | exact HB.out | apply below_alloc | apply pw_below_drewN | apply below_drew1) | exact HB.out)) hb); have n1_ := Aside0.mk (hbox); have n2_ := Aside0.mk ((by rw [hg]; exact (below_size (by repeat (first | (with_reducible first | exact HB.out | apply below_alloc | apply pw_below_drewN | apply below_drew1) | exact HB.out))) : w.heap.size ≤ gb284)); have n3_ := Aside0.mk ((by rw [hg]; exact (below_size (by repeat (first | (with_reducible first | exact HB.out | apply below_alloc | apply pw_below_drewN | apply below_drew1) | exact HB.out))) : w.heap.size ≤ gb284)); clear HB; have HB := n0_; have BK284 := n1_; have GW284 := n2_; have GE284 := n3_; clear n0_ n1_ n2_ n3_; clear hb hbox hg; have hcz10_0 : w9.cell? ⟨gb284, 0, none⟩ = some (.int .i64 a0_0) := (blk_cell BK284.out 0).trans rfl; have hcz10_1 : w9.cell? ⟨gb284, 1, none⟩ = some (.int .i64 a0_1) := (blk_cell BK284.out 1).trans rfl; have hcz10_2 : w9.cell? ⟨gb284, 2, none⟩ = some (.int .i64 a0_2) := (blk_cell BK284.out 2).trans rfl; have hcz10_3 : w9.cell? ⟨gb284, 3, none⟩ = some (.string a0_3) := (blk_cell BK284.out 3).trans rfl; have hfz10_0 := blk_frozen BK284.out 0; have hfz10_1 := blk_frozen BK284.out 1; have hfz10_2 := blk_frozen BK284.out 2; have hfz10_3 := blk_frozen BK284.out 3))
   go_ret
   exact ⟨by first | rfl | (simp [errW_none, errW_some] <;> rfl) | (simp [*, errW_none, errW_some] <;> rfl), by repeat (first | (with_reducible first | exact HB.out | apply below_alloc | apply pw_below_drewN | apply below_drew1 | refine below_set ?_ GE284.out) | exact HB.out)⟩
  ·
   rw [if_neg c8] at H
   have c8b0 : (a0_0 == 2) = false := beq_eq_false_iff_ne.mpr c8
   have c8b1 : (a0_0 != 2) = true := bne_iff_ne.mpr c8
   by_cases c11 : a0_0 = 3
   ·
    rw [if_pos c11] at H
    have c11b0 : (a0_0 == 3) = true := beq_iff_eq.mpr c11
    have c11b1 : (a0_0 != 3) = false := bne_eq_false_iff_eq.mpr c11
    clear c11
    obtain rfl := Option.some.inj H
    go_enter Try.func59, Try.ntmps59
    go_wp2_with (first | ((with_reducible refine gate_dst (N := 2) rfl ?_); refine box_event ?hg (N := 2) ?hd (cs := #[.int .i64 a0_0, .int .i64 a0_1, .int .i64 a0_2, .string a0_3]) (t := 26) ?hr ?_; (case hd => rfl); (case hg => rfl); (case hr => first | (go_simp; done) | (go_simp; rfl)); intro gb284 hg w12 hbox hb; have n0_ := Aside0.mk (below_step (by repeat (first | (with_reducible first | exact HB.out | apply below_alloc | apply pw_below_drewN | apply below_drew1) | exact HB.out)) hb); have n1_ := Aside0.mk (hbox); have n2_ := Aside0.mk ((by rw [hg]; exact (below_size (by repeat (first | (with_reducible first | exact HB.out | apply below_alloc | apply pw_below_drewN | apply below_drew1) | exact HB.out))) : w.heap.size ≤ gb284)); have n3_ := Aside0.mk ((by rw [hg]; exact (below_size (by repeat (first | (with_reducible first | exact HB.out | apply below_alloc | apply pw_below_drewN | apply below_drew1) | exact HB.out))) : w.heap.size ≤ gb284)); clear HB; have HB := n0_; have BK284 := n1_; have GW284 := n2_; have GE284 := n3_; clear n0_ n1_ n2_ n3_; clear hb hbox hg; have hcz13_0 : w12.cell? ⟨gb284, 0, none⟩ = some (.int .i64 a0_0) := (blk_cell BK284.out 0).trans rfl; have hcz13_1 : w12.cell? ⟨gb284, 1, none⟩ = some (.int .i64 a0_1) := (blk_cell BK284.out 1).trans rfl; have hcz13_2 : w12.cell? ⟨gb284, 2, none⟩ = some (.int .i64 a0_2) := (blk_cell BK284.out 2).trans rfl; have hcz13_3 : w12.cell? ⟨gb284, 3, none⟩ = some (.string a0_3) := (blk_cell BK284.out 3).trans rfl; have hfz13_0 := blk_frozen BK284.out 0; have hfz13_1 := blk_frozen BK284.out 1; have hfz13_2 := blk_frozen BK284.out 2; have hfz13_3 := blk_frozen BK284.out 3))
    go_ret
    exact ⟨by first | rfl | (simp [errW_none, errW_some] <;> rfl) | (simp [*, errW_none, errW_some] <;> rfl), by repeat (first | (with_reducible first | exact HB.out | apply below_alloc | apply pw_below_drewN | apply below_drew1 | refine below_set ?_ GE284.out) | exact HB.out)⟩
   ·
    rw [if_neg c11] at H
    have c11b0 : (a0_0 == 3) = false := beq_eq_false_iff_ne.mpr c11
    have c11b1 : (a0_0 != 3) = true := bne_iff_ne.mpr c11
    replace H := Option.bind_eq_some_iff.mp H
    obtain ⟨t286, A140, H⟩ := H
    replace H : (some t286) = some r := H
    have A14 := Aside0.mk A140
    clear A140
    obtain rfl := Option.some.inj H
    go_enter Try.func59, Try.ntmps59
    go_wp2_with (first | ((with_reducible refine gate_dst (N := 2) rfl ?_); refine box_event ?hg (N := 2) ?hd (cs := #[.int .i64 a0_0, .int .i64 a0_1, .int .i64 a0_2, .string a0_3]) (t := 26) ?hr ?_; (case hd => rfl); (case hg => rfl); (case hr => first | (go_simp; done) | (go_simp; rfl)); intro gb284 hg w15 hbox hb; have n0_ := Aside0.mk (below_step (by repeat (first | (with_reducible first | exact HB.out | apply below_alloc | apply pw_below_drewN | apply below_drew1) | exact HB.out)) hb); have n1_ := Aside0.mk (hbox); have n2_ := Aside0.mk ((by rw [hg]; exact (below_size (by repeat (first | (with_reducible first | exact HB.out | apply below_alloc | apply pw_below_drewN | apply below_drew1) | exact HB.out))) : w.heap.size ≤ gb284)); have n3_ := Aside0.mk ((by rw [hg]; exact (below_size (by repeat (first | (with_reducible first | exact HB.out | apply below_alloc | apply pw_below_drewN | apply below_drew1) | exact HB.out))) : w.heap.size ≤ gb284)); clear HB; have HB := n0_; have BK284 := n1_; have GW284 := n2_; have GE284 := n3_; clear n0_ n1_ n2_ n3_; clear hb hbox hg; have hcz16_0 : w15.cell? ⟨gb284, 0, none⟩ = some (.int .i64 a0_0) := (blk_cell BK284.out 0).trans rfl; have hcz16_1 : w15.cell? ⟨gb284, 1, none⟩ = some (.int .i64 a0_1) := (blk_cell BK284.out 1).trans rfl; have hcz16_2 : w15.cell? ⟨gb284, 2, none⟩ = some (.int .i64 a0_2) := (blk_cell BK284.out 2).trans rfl; have hcz16_3 : w15.cell? ⟨gb284, 3, none⟩ = some (.string a0_3) := (blk_cell BK284.out 3).trans rfl; have hfz16_0 := blk_frozen BK284.out 0; have hfz16_1 := blk_frozen BK284.out 1; have hfz16_2 := blk_frozen BK284.out 2; have hfz16_3 := blk_frozen BK284.out 3) | ((with_reducible refine gate_callee (f := 87) rfl ?_); refine goesL_ (some 20) rfl rfl Try.func87 (by kernel_rfl) rfl #[.string a1, .string a0_3] rfl (by (try simp only [List.map_toArray, List.map_cons, List.map_nil]); first | done | rfl | (simp only [List.length_drop, List.length_take]; rfl)) ?_; (with_reducible refine (spec_Xored.calls k a1 a0_3 t286 _ A14.out).mono ?_); rintro e w17 ⟨rfl, hb⟩; refine ⟨_, rfl, ?_⟩; have n0_ := Aside0.mk (blk_below (g := gb284) (o := .cells #[.int .i64 a0_0, .int .i64 a0_1, .int .i64 a0_2, .string a0_3] 26 (0, 0)) (by (with_reducible repeat (first | refine blk_drewN ?_ _ | refine blk_drew ?_ | refine blk_alloc ?_ _)); exact BK284.out) hb); have n1_ := Aside0.mk (below_step (by repeat (first | (with_reducible first | exact HB.out | apply below_alloc | apply pw_below_drewN | apply below_drew1 | refine below_set ?_ GE284.out) | exact HB.out)) hb); clear BK284; clear HB; have BK284 := n0_; have HB := n1_; clear n0_ n1_; (try clear hb); (try clear hb2); (try clear hk); (try clear hi)))
    go_ret
    exact ⟨by first | rfl | (simp [errW_none, errW_some] <;> rfl) | (simp [*, errW_none, errW_some] <;> rfl), by repeat (first | (with_reducible first | exact HB.out | apply below_alloc | apply pw_below_drewN | apply below_drew1 | refine below_set ?_ GE284.out) | exact HB.out)⟩

/-! ### spec_l07Apply: function 67 -/
def spec_l07Apply.l0 : Nat → List ByteArray → List (S26) → List ByteArray → Int → Option (List ByteArray)
 | 0, _, _, _, _ => none
 | k + 1, x0, x1, x5, x6 => if x6 < (x1.length : Int) then (if 0 ≤ x6 then (if ((rd_T26 x1 x6).f0) = 5 then (spec_l07Apply.l0 k x0 x1 x5 (wrap64 (x6 + 1))) else (if 0 ≤ ((rd_T26 x1 x6).f2) then (if ((rd_T26 x1 x6).f2) < (x0.length : Int) then ((spec_l07Make.f k ((rd_T26 x1 x6).f0) ((rd_T26 x1 x6).f1) ((rd_T26 x1 x6).f2) ((rd_T26 x1 x6).f3) (rdOf ByteArray.empty x0 ((rd_T26 x1 x6).f2))).bind fun t442 => (if 0 ≤ ((rd_T26 x1 x6).f1) then (if ((rd_T26 x1 x6).f1) < (x5.length : Int) then (spec_l07Apply.l0 k x0 x1 (x5.set (((rd_T26 x1 x6).f1) : Int).toNat t442) (wrap64 (x6 + 1))) else (none)) else (none))) else (none)) else (none))) else (none)) else (some x5)
def spec_l07Apply.f (k : Nat) (l0 : List ByteArray) (l1 : List (S26)) : Option (List ByteArray) := (some (([] : List ByteArray) : List ByteArray)).bind fun y431 => (if y431.length + l0.length < 8796093022208 then (spec_l07Apply.l0 k l0 l1 (y431 ++ l0) 0) else (none))
theorem spec_l07Apply.mono_l : ∀ k, (∀ y0 y1 y2 y3, LeO (spec_l07Apply.l0 k y0 y1 y2 y3) (spec_l07Apply.l0 (k + 1) y0 y1 y2 y3))
 | 0 => fun _ _ _ _ r h => by simp [spec_l07Apply.l0] at h
 | k + 1 => by
  have ih0 := spec_l07Apply.mono_l k
  ·
   intro y0 y1 y2 y3
   unfold spec_l07Apply.l0
   repeat' first
   | (with_reducible exact ih0 _ _ _ _)
   | (with_reducible exact spec_l07Make.mono _ _ _ _ _ _)
   | (with_reducible exact LeO.refl _)
   | (with_reducible exact LeO.none _)
   | (with_reducible refine LeO.ite ?_ ?_)
   | (with_reducible refine LeO.bind ?_ (fun _ => ?_))
   | exact ih0 _ _ _ _
   | exact spec_l07Make.mono _ _ _ _ _ _
   | exact LeO.none _
   | refine LeO.ite ?_ ?_
   | refine LeO.bind ?_ (fun _ => ?_)
theorem spec_l07Apply.mono : ∀ a0 a1 k, LeO (spec_l07Apply.f k a0 a1) (spec_l07Apply.f (k + 1) a0 a1) := by
 intro a0 a1 k
 have ih0 := spec_l07Apply.mono_l k
 unfold spec_l07Apply.f
 repeat' first
   | (with_reducible exact ih0 _ _ _ _)
   | (with_reducible exact spec_l07Make.mono _ _ _ _ _ _)
   | (with_reducible exact LeO.refl _)
   | (with_reducible exact LeO.none _)
   | (with_reducible refine LeO.ite ?_ ?_)
   | (with_reducible refine LeO.bind ?_ (fun _ => ?_))
   | exact ih0 _ _ _ _
   | exact spec_l07Make.mono _ _ _ _ _ _
   | exact LeO.none _
   | refine LeO.ite ?_ ?_
   | refine LeO.bind ?_ (fun _ => ?_)
def spec_l07Apply.T6 : Bool × List (List Nat × List Nat) := (true, [([], []), ([], []), ([], []), ([1, 2], [1, 2]), ([3], [3]), ([4], [4]), ([], []), ([], []), ([6, 7], [6, 7]), ([8], [8]), ([], []), ([], []), ([], []), ([11, 12], [11, 12]), ([13], [13]), ([14], [14]), ([10, 15], [10, 15]), ([16], [16]), ([9, 17], [9, 17]), ([0, 5, 0, 1, 2, 3, 4, 5, 6, 7, 8, 9, 10, 11, 12, 13, 14, 15, 16, 17, 18], [0, 5]), ([19, 18, 18, 0, 1, 2, 3, 4, 5, 6, 7, 8, 9, 10, 11, 12, 13, 14, 15, 16, 17, 18], [18, 19])])
def spec_l07Apply.B6 : List Nat := [0, 0, 0, 6, 14, 30, 0, 0, 192, 448, 0, 0, 0, 6144, 14336, 30720, 64512, 130048, 262080, 524287, 1048575]
theorem spec_l07Apply.tab6 : rtab .any (opsOf Try.f67 6) = spec_l07Apply.T6 := by kernel_rfl
theorem spec_l07Apply.bits6 : waitsOk spec_l07Apply.T6.2 spec_l07Apply.B6 = true := by kernel_rfl
set_option maxHeartbeats 8000000 in
set_option maxRecDepth 100000 in
theorem spec_l07Apply.calls (k : Nat) (A0 : Option Addr) (c0 : Nat) (l0 : List ByteArray) (A1 : Option Addr) (c1 : Nat) (l1 : List (S26)) (r : List ByteArray) (w : World) (hr0 : Kd.C Kd.string w A0 l0.length l0) (hc0 : l0.length ≤ c0) (hr1 : Kd.C k26 w A1 l1.length l1) (hc1 : l1.length ≤ c1) (h : spec_l07Apply.f k l0 l1 = some r) :
  Calls Try.prog 67 #[.slice A0 l0.length c0, .slice A1 l1.length c1] w fun e w' => ∃ v0_ : Value, e = .returned (v0_) ∧ Kd.R Kd.string 9 w' w.heap.size (fun _ => True) v0_ r ∧ Below w.heap.size w w' := by
 have hu26 := Try.underlying26
 have HR0 := Aside0.mk hr0
 have HC0 := Aside0.mk hc0
 clear hr0 hc0
 have HR1 := Aside0.mk hr1
 have HC1 := Aside0.mk hc1
 clear hr1 hc1
 have HB := Aside0.mk (Below.refl w.heap.size w)
 have H : ((some (([] : List ByteArray) : List ByteArray)).bind fun y431 => (if y431.length + l0.length < 8796093022208 then (spec_l07Apply.l0 k l0 l1 (y431 ++ l0) 0) else (none))) = some r := h
 clear h
 obtain ⟨y431, hy431⟩ : ∃ y_ : List ByteArray, y_ = (([] : List ByteArray)) := ⟨_, rfl⟩
 replace H : (if y431.length + l0.length < 8796093022208 then (spec_l07Apply.l0 k l0 l1 (y431 ++ l0) 0) else (none)) = some r := by first | (rw [hy431]; with_reducible exact H) | (have H2_ := (Option.bind_some _ _).symm.trans H; rw [hy431]; with_reducible exact H2_) | (have H2_ := (Option.bind_some _ _).symm.trans H; with_reducible exact H2_) | with_reducible exact H | (rw [hy431]; exact H) | exact H
 have Ny431 := Aside0.mk hy431
 clear hy431
 by_cases c3 : y431.length + l0.length < 8796093022208
 ·
  rw [if_pos c3] at H
  have LMc3 := Aside0.mk c3
  clear c3
  obtain ⟨y434, hy434⟩ : ∃ y_ : List ByteArray, y_ = (y431 ++ l0) := ⟨_, rfl⟩
  replace H : (spec_l07Apply.l0 k l0 l1 y434 0) = some r := by first | (rw [hy434]; with_reducible exact H) | (have H2_ := (Option.bind_some _ _).symm.trans H; rw [hy434]; with_reducible exact H2_) | (have H2_ := (Option.bind_some _ _).symm.trans H; with_reducible exact H2_) | with_reducible exact H | (rw [hy434]; exact H) | exact H
  have Ny434 := Aside0.mk hy434
  clear hy434
  have H' := Aside0.mk H
  clear H
  go_enter Try.func67, Try.ntmps67
  go_wp2_with (first | ((with_reducible refine gate_dst (N := 7) rfl ?_); refine Kd.R_lit Kd.string _ 9 ?hg (N := 7) ?hd (xs := ([] : List ByteArray)) (inner := []) (ok := fun _ => True) (okp := fun _ => True) ?hr ?hp (fun _ hk => hk) trivial (Below.refl _ _) (Nat.le_refl _) (by simp) ?_; (case hd => rfl); (case hg => rfl); (case hr => first | (go_simp; done) | (go_simp; rfl)); (case hp => exact (Reps.none _ _)); intro v432 w4 ho5 hb hg_ hnew_; clear hg_ hnew_; (first | rw [← Ny431.out] at ho5 | (simp only [Int.reduceToNat] at ho5; rw [← Ny431.out] at ho5)); have n0_ := Aside0.mk (Kd.R_lower ho5 (below_size (by repeat (first | (with_reducible first | exact HB.out | apply below_alloc | apply pw_below_drewN | apply below_drew1) | exact HB.out)))); have n1_ := Aside0.mk (below_step (by repeat (first | (with_reducible first | exact HB.out | apply below_alloc | apply pw_below_drewN | apply below_drew1) | exact HB.out)) hb); clear HB; have HO433 := n0_; have HB := n1_; clear n0_ n1_; clear hb ho5) | ((with_reducible refine gate_builtin (b := .append) (xs := #[.tmp 7, .tmp 8]) rfl ?_); at_builtin; refine Kd.R_append_rows Kd.string (w0 := w) w.heap.size rfl (.tmp 7) (.tmp 8) 29 9 (.string ⟨#[]⟩) 16 rfl Try.underlying29 info9 rfl (by decide) (by omega) v432 y431 l0 _ _ _ (fun _ => True) (fun _ => False) rfl rfl ?aO ?aR (fun _ _ h => h) (fun _ h => h.elim) ?aF ?aB ?aS ?aL ?_; (case aR => repeat (first | exact (Kd.C_below HR0.out HB.out) | (with_reducible refine Kd.C_alloc ?_ _) | (with_reducible refine Kd.C_drewN ?_ _) | (with_reducible refine Kd.C_drew ?_))); (case aB => exact (by repeat (first | (with_reducible first | exact HB.out | apply below_alloc | apply pw_below_drewN | apply below_drew1) | exact HB.out))); (case aF => exact (fun _ _ => trivial)); (case aO => exact (by (with_reducible repeat (first | apply Kd.R_alloc | apply Kd.R_drewN | apply Kd.R_drew)); exact HO433.out)); (case aS => exact (below_size (by repeat (first | (with_reducible first | exact HB.out | apply below_alloc | apply pw_below_drewN | apply below_drew1) | exact HB.out)))); (case aL => have := LMc3.out; omega); intro v435 w6 ho hb hg hat; rw [← Ny434.out] at ho; have n0_ := Aside0.mk (hb); have n1_ := Aside0.mk (ho); clear HB; clear HO433; have HB := n0_; have HO436 := n1_; clear n0_ n1_; clear ho hb hg hat))
  go_loopg [6] k (fun kq v6 w' => ∃ (x5_1 : List ByteArray) (x6_1 : Int), v6 = .int .i64 x6_1 ∧ Aside0 (spec_l07Apply.l0 kq l0 l1 x5_1 x6_1 = some r) ∧ Aside0 (kq ≤ k) ∧ Aside0 (Kd.R Kd.string 9 w' w.heap.size (fun _ => True) v435 x5_1) ∧ Aside0 (Below w.heap.size w w'))
  case atStart => exact ⟨(y434), (0), (by first | rfl | (simp; done) | (simp [*]; done)), H', ⟨Nat.le_refl _⟩, ⟨by (with_reducible repeat (first | apply Kd.R_alloc | apply Kd.R_drewN | apply Kd.R_drew)); exact HO436.out⟩, ⟨by repeat (first | (with_reducible first | exact HB.out | apply below_alloc | apply pw_below_drewN | apply below_drew1) | exact HB.out)⟩⟩
  case round =>
   clear H'
   try clear c1
   try clear p2
   try clear c3
   try clear c6
   obtain ⟨x5_1, x6_1, rfl, HA, HK1, HO_5, HB⟩ := hrel
   cases gk with
   | zero => exact absurd HA.out (by simp [spec_l07Apply.l0])
   | succ k1 =>
    have H := HA.out
    clear HA
    simp only [spec_l07Apply.l0] at H
    by_cases c7 : x6_1 < (l1.length : Int)
    ·
     rw [if_pos c7] at H
     have c7b0 : decide (x6_1 < (l1.length : Int)) = true := decide_eq_true c7
     clear c7
     by_cases c8 : 0 ≤ x6_1
     ·
      rw [if_pos c8] at H
      have c8b0 : decide (0 ≤ x6_1) = true := decide_eq_true c8
      clear c8
      by_cases c9 : ((rd_T26 l1 x6_1).f0) = 5
      ·
       rw [if_pos c9] at H
       have c9b0 : (((rd_T26 l1 x6_1).f0) == 5) = true := beq_iff_eq.mpr c9
       have c9b1 : (((rd_T26 l1 x6_1).f0) != 5) = false := bne_eq_false_iff_eq.mpr c9
       clear c9
       have H' := Aside0.mk H
       clear H
       have p437 : 0 ≤ (x6_1 : Int) := of_decide_eq_true (by first | (with_reducible assumption) | assumption)
       have q437 : x6_1 < (l1.length : Int) := of_decide_eq_true (by first | (with_reducible assumption) | assumption)
       obtain ⟨ad437, e437, hx437_0, hx437_1, hx437_2, hx437_3⟩ := at_T26 HR1.out x6_1 p437 q437
       cases e437
       replace hx437_0 := (HB.out.cell (World.block_lt_of_cell? _ _ hx437_0)).trans hx437_0
       replace hx437_1 := (HB.out.cell (World.block_lt_of_cell? _ _ hx437_1)).trans hx437_1
       replace hx437_2 := (HB.out.cell (World.block_lt_of_cell? _ _ hx437_2)).trans hx437_2
       replace hx437_3 := (HB.out.cell (World.block_lt_of_cell? _ _ hx437_3)).trans hx437_3
       replace p437 := eq_true p437
       replace q437 := eq_true q437
       go_wp2
       go_roundg k1
       case measure => have := HK1.out; omega
       case rel => exact ⟨(x5_1), (wrap64 (x6_1 + 1)), (by first | rfl | (simp; done) | (simp [*]; done)), H', ⟨by have := HK1.out; omega⟩, ⟨by (with_reducible repeat (first | apply Kd.R_alloc | apply Kd.R_drewN | apply Kd.R_drew)); exact HO_5.out⟩, ⟨by repeat (first | (with_reducible first | exact HB.out | apply below_alloc | apply pw_below_drewN | apply below_drew1) | exact HB.out)⟩⟩
      ·
       rw [if_neg c9] at H
       have c9b0 : (((rd_T26 l1 x6_1).f0) == 5) = false := beq_eq_false_iff_ne.mpr c9
       have c9b1 : (((rd_T26 l1 x6_1).f0) != 5) = true := bne_iff_ne.mpr c9
       by_cases c10 : 0 ≤ ((rd_T26 l1 x6_1).f2)
       ·
        rw [if_pos c10] at H
        have c10b0 : decide (0 ≤ ((rd_T26 l1 x6_1).f2)) = true := decide_eq_true c10
        clear c10
        by_cases c11 : ((rd_T26 l1 x6_1).f2) < (l0.length : Int)
        ·
         rw [if_pos c11] at H
         have c11b0 : decide (((rd_T26 l1 x6_1).f2) < (l0.length : Int)) = true := decide_eq_true c11
         clear c11
         replace H := Option.bind_eq_some_iff.mp H
         obtain ⟨t442, A120, H⟩ := H
         replace H : (if 0 ≤ ((rd_T26 l1 x6_1).f1) then (if ((rd_T26 l1 x6_1).f1) < (x5_1.length : Int) then (spec_l07Apply.l0 k1 l0 l1 (x5_1.set (((rd_T26 l1 x6_1).f1) : Int).toNat t442) (wrap64 (x6_1 + 1))) else (none)) else (none)) = some r := H
         have A12 := Aside0.mk A120
         clear A120
         by_cases c13 : 0 ≤ ((rd_T26 l1 x6_1).f1)
         ·
          rw [if_pos c13] at H
          have c13b0 : decide (0 ≤ ((rd_T26 l1 x6_1).f1)) = true := decide_eq_true c13
          clear c13
          by_cases c14 : ((rd_T26 l1 x6_1).f1) < (x5_1.length : Int)
          ·
           rw [if_pos c14] at H
           have c14b0 : decide (((rd_T26 l1 x6_1).f1) < (x5_1.length : Int)) = true := decide_eq_true c14
           clear c14
           obtain ⟨y443, hy443⟩ : ∃ y_ : List ByteArray, y_ = (x5_1.set (((rd_T26 l1 x6_1).f1) : Int).toNat t442) := ⟨_, rfl⟩
           replace H : (spec_l07Apply.l0 k1 l0 l1 y443 (wrap64 (x6_1 + 1))) = some r := by first | (rw [hy443]; with_reducible exact H) | (have H2_ := (Option.bind_some _ _).symm.trans H; rw [hy443]; with_reducible exact H2_) | (have H2_ := (Option.bind_some _ _).symm.trans H; with_reducible exact H2_) | with_reducible exact H | (rw [hy443]; exact H) | exact H
           have Ny443 := Aside0.mk hy443
           clear hy443
           have H' := Aside0.mk H
           clear H
           have p437 : 0 ≤ (x6_1 : Int) := of_decide_eq_true (by first | (with_reducible assumption) | assumption)
           have q437 : x6_1 < (l1.length : Int) := of_decide_eq_true (by first | (with_reducible assumption) | assumption)
           obtain ⟨ad437, e437, hx437_0, hx437_1, hx437_2, hx437_3⟩ := at_T26 HR1.out x6_1 p437 q437
           cases e437
           replace hx437_0 := (HB.out.cell (World.block_lt_of_cell? _ _ hx437_0)).trans hx437_0
           replace hx437_1 := (HB.out.cell (World.block_lt_of_cell? _ _ hx437_1)).trans hx437_1
           replace hx437_2 := (HB.out.cell (World.block_lt_of_cell? _ _ hx437_2)).trans hx437_2
           replace hx437_3 := (HB.out.cell (World.block_lt_of_cell? _ _ hx437_3)).trans hx437_3
           replace p437 := eq_true p437
           replace q437 := eq_true q437
           try go_wp2
           have n0_ := Aside0.mk (Kd.R_drew HO_5.out)
           have n1_ := Aside0.mk (below_drew1 HB.out)
           clear HO_5
           clear HB
           have HO_5 := n0_
           have HB := n1_
           clear n0_ n1_
           have p438 : 0 ≤ (x6_1 : Int) := of_decide_eq_true (by first | (with_reducible assumption) | assumption)
           have q438 : x6_1 < (l1.length : Int) := of_decide_eq_true (by first | (with_reducible assumption) | assumption)
           obtain ⟨ad438, e438, hx438_0, hx438_1, hx438_2, hx438_3⟩ := at_T26 HR1.out x6_1 p438 q438
           have hw438_3 := hx438_3
           have hw438_2 := hx438_2
           have hw438_1 := hx438_1
           have hw438_0 := hx438_0
           obtain rfl : ad437 = ad438 := (by injection e438)
           replace hx438_0 := (HB.out.cell (World.block_lt_of_cell? _ _ hx438_0)).trans hx438_0
           replace hx438_1 := (HB.out.cell (World.block_lt_of_cell? _ _ hx438_1)).trans hx438_1
           replace hx438_2 := (HB.out.cell (World.block_lt_of_cell? _ _ hx438_2)).trans hx438_2
           replace hx438_3 := (HB.out.cell (World.block_lt_of_cell? _ _ hx438_3)).trans hx438_3
           replace p438 := eq_true p438
           replace q438 := eq_true q438
           have p439 : 0 ≤ (x6_1 : Int) := of_decide_eq_true (by first | (with_reducible assumption) | assumption)
           have q439 : x6_1 < (l1.length : Int) := of_decide_eq_true (by first | (with_reducible assumption) | assumption)
           obtain ⟨ad439, e439, hx439_0, hx439_1, hx439_2, hx439_3⟩ := at_T26 HR1.out x6_1 p439 q439
           have hw439_3 := hx439_3
           have hw439_2 := hx439_2
           have hw439_1 := hx439_1
           have hw439_0 := hx439_0
           obtain rfl : ad437 = ad439 := (by injection e439)
           replace hx439_0 := (HB.out.cell (World.block_lt_of_cell? _ _ hx439_0)).trans hx439_0
           replace hx439_1 := (HB.out.cell (World.block_lt_of_cell? _ _ hx439_1)).trans hx439_1
           replace hx439_2 := (HB.out.cell (World.block_lt_of_cell? _ _ hx439_2)).trans hx439_2
           replace hx439_3 := (HB.out.cell (World.block_lt_of_cell? _ _ hx439_3)).trans hx439_3
           replace p439 := eq_true p439
           replace q439 := eq_true q439
           have p440 : 0 ≤ (x6_1 : Int) := of_decide_eq_true (by first | (with_reducible assumption) | assumption)
           have q440 : x6_1 < (l1.length : Int) := of_decide_eq_true (by first | (with_reducible assumption) | assumption)
           obtain ⟨ad440, e440, hx440_0, hx440_1, hx440_2, hx440_3⟩ := at_T26 HR1.out x6_1 p440 q440
           have hw440_3 := hx440_3
           have hw440_2 := hx440_2
           have hw440_1 := hx440_1
           have hw440_0 := hx440_0
           obtain rfl : ad437 = ad440 := (by injection e440)
           replace hx440_0 := (HB.out.cell (World.block_lt_of_cell? _ _ hx440_0)).trans hx440_0
           replace hx440_1 := (HB.out.cell (World.block_lt_of_cell? _ _ hx440_1)).trans hx440_1
           replace hx440_2 := (HB.out.cell (World.block_lt_of_cell? _ _ hx440_2)).trans hx440_2
           replace hx440_3 := (HB.out.cell (World.block_lt_of_cell? _ _ hx440_3)).trans hx440_3
           replace p440 := eq_true p440
           replace q440 := eq_true q440
           have p441 : 0 ≤ (((rd_T26 l1 x6_1).f2) : Int) := of_decide_eq_true (by first | (with_reducible assumption) | assumption)
           have q441 : ((rd_T26 l1 x6_1).f2) < (l0.length : Int) := of_decide_eq_true (by first | (with_reducible assumption) | assumption)
           obtain ⟨ad441, e441, hx441_0⟩ := Kd.at_string HR0.out ((rd_T26 l1 x6_1).f2) p441 q441
           have hw441_0 := hx441_0
           cases e441
           replace hx441_0 := (HB.out.cell (World.block_lt_of_cell? _ _ hx441_0)).trans hx441_0
           replace p441 := eq_true p441
           replace q441 := eq_true q441
           refine start_ (n := 21) (S := fun w' => w'.cell? (ad437.add ((x6_1).toNat * 4)) = some (.int .i64 ((rd_T26 l1 x6_1).f0)) ∧ w'.cell? ⟨(ad437.add ((x6_1).toNat * 4)).block, (ad437.add ((x6_1).toNat * 4)).off + 1, none⟩ = some (.int .i64 ((rd_T26 l1 x6_1).f1)) ∧ w'.cell? ⟨(ad437.add ((x6_1).toNat * 4)).block, (ad437.add ((x6_1).toNat * 4)).off + 2, none⟩ = some (.int .i64 ((rd_T26 l1 x6_1).f2)) ∧ w'.cell? ⟨(ad437.add ((x6_1).toNat * 4)).block, (ad437.add ((x6_1).toNat * 4)).off + 3, none⟩ = some (.string ((rd_T26 l1 x6_1).f3)) ∧ w'.cell? (ad437.add ((x6_1).toNat * 4)) = some (.int .i64 ((rd_T26 l1 x6_1).f0)) ∧ w'.cell? ⟨(ad437.add ((x6_1).toNat * 4)).block, (ad437.add ((x6_1).toNat * 4)).off + 1, none⟩ = some (.int .i64 ((rd_T26 l1 x6_1).f1)) ∧ w'.cell? ⟨(ad437.add ((x6_1).toNat * 4)).block, (ad437.add ((x6_1).toNat * 4)).off + 2, none⟩ = some (.int .i64 ((rd_T26 l1 x6_1).f2)) ∧ w'.cell? ⟨(ad437.add ((x6_1).toNat * 4)).block, (ad437.add ((x6_1).toNat * 4)).off + 3, none⟩ = some (.string ((rd_T26 l1 x6_1).f3)) ∧ w'.cell? (ad437.add ((x6_1).toNat * 4)) = some (.int .i64 ((rd_T26 l1 x6_1).f0)) ∧ w'.cell? ⟨(ad437.add ((x6_1).toNat * 4)).block, (ad437.add ((x6_1).toNat * 4)).off + 1, none⟩ = some (.int .i64 ((rd_T26 l1 x6_1).f1)) ∧ w'.cell? ⟨(ad437.add ((x6_1).toNat * 4)).block, (ad437.add ((x6_1).toNat * 4)).off + 2, none⟩ = some (.int .i64 ((rd_T26 l1 x6_1).f2)) ∧ w'.cell? ⟨(ad437.add ((x6_1).toNat * 4)).block, (ad437.add ((x6_1).toNat * 4)).off + 3, none⟩ = some (.string ((rd_T26 l1 x6_1).f3)) ∧ w'.cell? (ad441.add (((rd_T26 l1 x6_1).f2)).toNat) = some (.string (rdOf ByteArray.empty l0 ((rd_T26 l1 x6_1).f2)))) (ds := [20]) #[false, false, false, false, false, false, false, false, false, false, false, false, false, false, false, false, false, false, false, false, false] (by kernel_rfl) rfl rfl ⟨((HB.out.cell (World.block_lt_of_cell? _ _ hw438_0)).trans hw438_0), ((HB.out.cell (World.block_lt_of_cell? _ _ hw438_1)).trans hw438_1), ((HB.out.cell (World.block_lt_of_cell? _ _ hw438_2)).trans hw438_2), ((HB.out.cell (World.block_lt_of_cell? _ _ hw438_3)).trans hw438_3), ((HB.out.cell (World.block_lt_of_cell? _ _ hw439_0)).trans hw439_0), ((HB.out.cell (World.block_lt_of_cell? _ _ hw439_1)).trans hw439_1), ((HB.out.cell (World.block_lt_of_cell? _ _ hw439_2)).trans hw439_2), ((HB.out.cell (World.block_lt_of_cell? _ _ hw439_3)).trans hw439_3), ((HB.out.cell (World.block_lt_of_cell? _ _ hw440_0)).trans hw440_0), ((HB.out.cell (World.block_lt_of_cell? _ _ hw440_1)).trans hw440_1), ((HB.out.cell (World.block_lt_of_cell? _ _ hw440_2)).trans hw440_2), ((HB.out.cell (World.block_lt_of_cell? _ _ hw440_3)).trans hw440_3), ((HB.out.cell (World.block_lt_of_cell? _ _ hw441_0)).trans hw441_0)⟩ (fun hHeld => ?_); refine with_tabW spec_l07Apply.tab6 spec_l07Apply.bits6 (fun HT_ HW_ => ?_)
           generalize wr.drew = w16 at HO_5 HB hx438_0 hx438_1 hx438_2 hx438_3 hx439_0 hx439_1 hx439_2 hx439_3 hx440_0 hx440_1 hx440_2 hx440_3 hx441_0 hHeld ⊢
           refine pure_ (i := 0) (N := some 22) (v := ?_) (a' := ?_) #[true, false, false, false, false, false, false, false, false, false, false, false, false, false, false, false, false, false, false, false, false] rfl rfl (any_of HT_.out (by kernel_rfl)) (fun _ _ _ h => h) (Or.inl ⟨by rfl, ?_⟩) ?_ ?_
           rotate_left
           ·
            intro w'
            go_simp
            with_reducible rfl
           rotate_left
           ·
            simp only [Act.put, List.setIfInBounds_toArray, List.set_cons_zero, List.set_cons_succ, i64_w, i32_w]
            rfl
           refine pure_ (i := 1) (N := some 23) (v := ?_) (a' := ?_) #[true, true, false, false, false, false, false, false, false, false, false, false, false, false, false, false, false, false, false, false, false] rfl rfl (any_of HT_.out (by kernel_rfl)) (fun _ _ _ h => h) (Or.inl ⟨by rfl, ?_⟩) ?_ ?_
           rotate_left
           ·
            intro w'
            go_simp
            with_reducible rfl
           rotate_left
           ·
            simp only [Act.put, List.setIfInBounds_toArray, List.set_cons_zero, List.set_cons_succ, i64_w, i32_w]
            rfl
           refine pure_ (i := 2) (N := some 24) (v := ?_) (a' := ?_) #[true, true, true, false, false, false, false, false, false, false, false, false, false, false, false, false, false, false, false, false, false] rfl rfl (any_of HT_.out (by kernel_rfl)) (fun _ _ _ h => h) (Or.inl ⟨by rfl, ?_⟩) ?_ ?_
           rotate_left
           ·
            intro w'
            go_simp
            with_reducible rfl
           rotate_left
           ·
            simp only [Act.put, List.setIfInBounds_toArray, List.set_cons_zero, List.set_cons_succ, i64_w, i32_w]
            rfl
           refine pure_ (i := 3) (N := some 25) (v := ?_) (a' := ?_) #[true, true, true, true, false, false, false, false, false, false, false, false, false, false, false, false, false, false, false, false, false] rfl rfl (any_of HT_.out (by kernel_rfl)) (fun _ _ _ h => h) (Or.inl ⟨by rfl, ?_⟩) ?_ ?_
           rotate_left
           ·
            intro w'
            go_simp
            with_reducible rfl
           rotate_left
           ·
            simp only [Act.put, List.setIfInBounds_toArray, List.set_cons_zero, List.set_cons_succ, i64_w, i32_w]
            rfl
           refine pure_ (i := 4) (N := some 26) (v := ?_) (a' := ?_) #[true, true, true, true, true, false, false, false, false, false, false, false, false, false, false, false, false, false, false, false, false] rfl rfl (any_of HT_.out (by kernel_rfl)) (fun _ _ _ h => h) (Or.inl ⟨by rfl, ?_⟩) ?_ ?_
           rotate_left
           ·
            intro w'
            go_simp
            with_reducible rfl
           rotate_left
           ·
            simp only [Act.put, List.setIfInBounds_toArray, List.set_cons_zero, List.set_cons_succ, i64_w, i32_w]
            rfl
           refine pure_ (i := 6) (N := some 28) (v := ?_) (a' := ?_) #[true, true, true, true, true, false, true, false, false, false, false, false, false, false, false, false, false, false, false, false, false] rfl rfl (any_of HT_.out (by kernel_rfl)) (fun _ _ _ h => h) (Or.inl ⟨by rfl, ?_⟩) ?_ ?_
           rotate_left
           ·
            intro w'
            go_simp
            with_reducible rfl
           rotate_left
           ·
            simp only [Act.put, List.setIfInBounds_toArray, List.set_cons_zero, List.set_cons_succ, i64_w, i32_w]
            rfl
           refine pure_ (i := 7) (N := some 29) (v := ?_) (a' := ?_) #[true, true, true, true, true, false, true, true, false, false, false, false, false, false, false, false, false, false, false, false, false] rfl rfl (any_of HT_.out (by kernel_rfl)) (fun _ _ _ h => h) (Or.inl ⟨by rfl, ?_⟩) ?_ ?_
           rotate_left
           ·
            intro w'
            go_simp
            with_reducible rfl
           rotate_left
           ·
            simp only [Act.put, List.setIfInBounds_toArray, List.set_cons_zero, List.set_cons_succ, i64_w, i32_w]
            rfl
           refine pure_ (i := 8) (N := some 30) (v := ?_) (a' := ?_) #[true, true, true, true, true, false, true, true, true, false, false, false, false, false, false, false, false, false, false, false, false] rfl rfl (any_of HT_.out (by kernel_rfl)) (fun _ _ _ h => h) (Or.inl ⟨by rfl, ?_⟩) ?_ ?_
           rotate_left
           ·
            intro w'
            go_simp
            with_reducible rfl
           rotate_left
           ·
            simp only [Act.put, List.setIfInBounds_toArray, List.set_cons_zero, List.set_cons_succ, i64_w, i32_w]
            rfl
           refine pure_ (i := 10) (N := some 32) (v := ?_) (a' := ?_) #[true, true, true, true, true, false, true, true, true, false, true, false, false, false, false, false, false, false, false, false, false] rfl rfl (any_of HT_.out (by kernel_rfl)) (fun _ _ _ h => h) (Or.inl ⟨by rfl, ?_⟩) ?_ ?_
           rotate_left
           ·
            intro w'
            go_simp
            with_reducible rfl
           rotate_left
           ·
            simp only [Act.put, List.setIfInBounds_toArray, List.set_cons_zero, List.set_cons_succ, i64_w, i32_w]
            rfl
           refine pure_ (i := 11) (N := some 33) (v := ?_) (a' := ?_) #[true, true, true, true, true, false, true, true, true, false, true, true, false, false, false, false, false, false, false, false, false] rfl rfl (any_of HT_.out (by kernel_rfl)) (fun _ _ _ h => h) (Or.inl ⟨by rfl, ?_⟩) ?_ ?_
           rotate_left
           ·
            intro w'
            go_simp
            with_reducible rfl
           rotate_left
           ·
            simp only [Act.put, List.setIfInBounds_toArray, List.set_cons_zero, List.set_cons_succ, i64_w, i32_w]
            rfl
           refine pure_ (i := 12) (N := some 34) (v := ?_) (a' := ?_) #[true, true, true, true, true, false, true, true, true, false, true, true, true, false, false, false, false, false, false, false, false] rfl rfl (any_of HT_.out (by kernel_rfl)) (fun _ _ _ h => h) (Or.inl ⟨by rfl, ?_⟩) ?_ ?_
           rotate_left
           ·
            intro w'
            go_simp
            with_reducible rfl
           rotate_left
           ·
            simp only [Act.put, List.setIfInBounds_toArray, List.set_cons_zero, List.set_cons_succ, i64_w, i32_w]
            rfl
           refine pure_ (i := 13) (N := some 35) (v := ?_) (a' := ?_) #[true, true, true, true, true, false, true, true, true, false, true, true, true, true, false, false, false, false, false, false, false] rfl rfl (any_of HT_.out (by kernel_rfl)) (fun _ _ _ h => h) (Or.inl ⟨by rfl, ?_⟩) ?_ ?_
           rotate_left
           ·
            intro w'
            go_simp
            with_reducible rfl
           rotate_left
           ·
            simp only [Act.put, List.setIfInBounds_toArray, List.set_cons_zero, List.set_cons_succ, i64_w, i32_w]
            rfl
           refine pure_ (i := 14) (N := some 36) (v := ?_) (a' := ?_) #[true, true, true, true, true, false, true, true, true, false, true, true, true, true, true, false, false, false, false, false, false] rfl rfl (any_of HT_.out (by kernel_rfl)) (fun _ _ _ h => h) (Or.inl ⟨by rfl, ?_⟩) ?_ ?_
           rotate_left
           ·
            intro w'
            go_simp
            with_reducible rfl
           rotate_left
           ·
            simp only [Act.put, List.setIfInBounds_toArray, List.set_cons_zero, List.set_cons_succ, i64_w, i32_w]
            rfl
           refine take_ (i := 5) (N := some 27) (v := ?_) (a' := ?_) #[true, true, true, true, true, true, true, true, true, false, true, true, true, true, true, false, false, false, false, false, false] rfl rfl (take_ofW HT_.out HW_.out (by kernel_rfl)) (fun _ _ _ h => h) (Or.inl ⟨by rfl, ?_⟩) hHeld ?_ ?_
           rotate_left
           ·
            rintro w' ⟨s0, s1, s2, s3, s4, s5, s6, s7, s8, s9, s10, s11, s12⟩
            go_simp
            with_reducible rfl
           rotate_left
           ·
            simp only [Act.put, List.setIfInBounds_toArray, List.set_cons_zero, List.set_cons_succ, i64_w, i32_w]
            rfl
           refine take_ (i := 9) (N := some 31) (v := ?_) (a' := ?_) #[true, true, true, true, true, true, true, true, true, true, true, true, true, true, true, false, false, false, false, false, false] rfl rfl (take_ofW HT_.out HW_.out (by kernel_rfl)) (fun _ _ _ h => h) (Or.inl ⟨by rfl, ?_⟩) hHeld ?_ ?_
           rotate_left
           ·
            rintro w' ⟨s0, s1, s2, s3, s4, s5, s6, s7, s8, s9, s10, s11, s12⟩
            go_simp
            with_reducible rfl
           rotate_left
           ·
            simp only [Act.put, List.setIfInBounds_toArray, List.set_cons_zero, List.set_cons_succ, i64_w, i32_w]
            rfl
           refine take_ (i := 15) (N := some 37) (v := ?_) (a' := ?_) #[true, true, true, true, true, true, true, true, true, true, true, true, true, true, true, true, false, false, false, false, false] rfl rfl (take_ofW HT_.out HW_.out (by kernel_rfl)) (fun _ _ _ h => h) (Or.inl ⟨by rfl, ?_⟩) hHeld ?_ ?_
           rotate_left
           ·
            rintro w' ⟨s0, s1, s2, s3, s4, s5, s6, s7, s8, s9, s10, s11, s12⟩
            go_simp
            with_reducible rfl
           rotate_left
           ·
            simp only [Act.put, List.setIfInBounds_toArray, List.set_cons_zero, List.set_cons_succ, i64_w, i32_w]
            rfl
           refine pure_ (i := 16) (N := some 38) (v := ?_) (a' := ?_) #[true, true, true, true, true, true, true, true, true, true, true, true, true, true, true, true, true, false, false, false, false] rfl rfl (any_of HT_.out (by kernel_rfl)) (fun _ _ _ h => h) (Or.inl ⟨by rfl, ?_⟩) ?_ ?_
           rotate_left
           ·
            intro w'
            go_simp
            with_reducible rfl
           rotate_left
           ·
            simp only [Act.put, List.setIfInBounds_toArray, List.set_cons_zero, List.set_cons_succ, i64_w, i32_w]
            rfl
           refine take_ (i := 17) (N := some 39) (v := ?_) (a' := ?_) #[true, true, true, true, true, true, true, true, true, true, true, true, true, true, true, true, true, true, false, false, false] rfl rfl (take_ofW HT_.out HW_.out (by kernel_rfl)) (fun _ _ _ h => h) (Or.inl ⟨by rfl, ?_⟩) hHeld ?_ ?_
           rotate_left
           ·
            rintro w' ⟨s0, s1, s2, s3, s4, s5, s6, s7, s8, s9, s10, s11, s12⟩
            go_simp
            with_reducible rfl
           rotate_left
           ·
            simp only [Act.put, List.setIfInBounds_toArray, List.set_cons_zero, List.set_cons_succ, i64_w, i32_w]
            rfl
           refine one_ (i := 18) (N := some 40) #[true, true, true, true, true, true, true, true, true, true, true, true, true, true, true, true, true, true, true, false, false] rfl rfl (one_of HT_.out (by kernel_rfl)) (by decide) (fun K hK => ?_)
           refine goes_ Try.func59 (by kernel_rfl) rfl #[.agg #[.int .i64 ((rd_T26 l1 x6_1).f0), .int .i64 ((rd_T26 l1 x6_1).f1), .int .i64 ((rd_T26 l1 x6_1).f2), .string ((rd_T26 l1 x6_1).f3)], .string (rdOf ByteArray.empty l0 ((rd_T26 l1 x6_1).f2))] (by rfl) rfl rfl (by (try simp only [List.map_toArray, List.map_cons, List.map_nil]); first | done | rfl | (simp only [List.length_drop, List.length_take]; rfl)) ?_
           with_reducible refine (spec_l07Make.calls k1 ((rd_T26 l1 x6_1).f0) ((rd_T26 l1 x6_1).f1) ((rd_T26 l1 x6_1).f2) ((rd_T26 l1 x6_1).f3) (rdOf ByteArray.empty l0 ((rd_T26 l1 x6_1).f2)) t442 _ A12.out).mono ?_
           rintro e w17 ⟨rfl, hb⟩
           refine ⟨_, rfl, ?_⟩
           have n0_ := Aside0.mk (Kd.R_below (by (with_reducible repeat (first | apply Kd.R_alloc | apply Kd.R_drewN | apply Kd.R_drew)); exact HO_5.out) hb)
           have n1_ := Aside0.mk (below_step (by repeat (first | (with_reducible first | exact HB.out | apply below_alloc | apply pw_below_drewN | apply below_drew1) | exact HB.out)) hb)
           clear HO_5
           clear HB
           have HO_5 := n0_
           have HB := n1_
           clear n0_ n1_
           (try clear hb)
           (try clear hb2)
           (try clear hk)
           (try clear hi)
           have p15 : 0 ≤ (((rd_T26 l1 x6_1).f1) : Int) := of_decide_eq_true (by first | (with_reducible assumption) | assumption)
           have q15 : (((rd_T26 l1 x6_1).f1) : Int) < ((x5_1.length : Int) : Int) := of_decide_eq_true (by first | (with_reducible assumption) | assumption)
           obtain ⟨go15, co15, eo15, gb15, gl15, cl15, HG15⟩ := Kd.R_form HO_5.out (by omega)
           (first | cases eo15 | (injection eo15 with ea_ en_ ec_; (first | subst ea_ | (injection ea_ with ea_; subst ea_)); subst ec_; clear en_))
           have GB15 := Aside0.mk gb15
           have GG15 := Aside0.mk HG15
           clear gb15 gl15 HG15
           obtain ⟨hx15_0, hf15_0⟩ := Kd.R_celln (⟨#[]⟩ : ByteArray) HO_5.out (((rd_T26 l1 x6_1).f1) : Int) p15 q15
           replace p15 := eq_true p15
           replace q15 := eq_true q15
           have HP18 := Kd.R_putn HO_5.out (((rd_T26 l1 x6_1).f1) : Int) t442
           rw [← Ny443.out] at HP18
           have HQ18 := Aside0.mk HP18
           clear HP18
           refine hK.out _ _ ⟨((HB.out.cell (World.block_lt_of_cell? _ _ hw438_0)).trans hw438_0), ((HB.out.cell (World.block_lt_of_cell? _ _ hw438_1)).trans hw438_1), ((HB.out.cell (World.block_lt_of_cell? _ _ hw438_2)).trans hw438_2), ((HB.out.cell (World.block_lt_of_cell? _ _ hw438_3)).trans hw438_3), ((HB.out.cell (World.block_lt_of_cell? _ _ hw439_0)).trans hw439_0), ((HB.out.cell (World.block_lt_of_cell? _ _ hw439_1)).trans hw439_1), ((HB.out.cell (World.block_lt_of_cell? _ _ hw439_2)).trans hw439_2), ((HB.out.cell (World.block_lt_of_cell? _ _ hw439_3)).trans hw439_3), ((HB.out.cell (World.block_lt_of_cell? _ _ hw440_0)).trans hw440_0), ((HB.out.cell (World.block_lt_of_cell? _ _ hw440_1)).trans hw440_1), ((HB.out.cell (World.block_lt_of_cell? _ _ hw440_2)).trans hw440_2), ((HB.out.cell (World.block_lt_of_cell? _ _ hw440_3)).trans hw440_3), ((HB.out.cell (World.block_lt_of_cell? _ _ hw441_0)).trans hw441_0)⟩ (fun hHeld => ?_)
           clear hK K
           refine norm_ (a' := ?_) ?_ ?_
           rotate_left
           ·
            show Act.put _ (some 40) _ = _
            simp only [Act.put, List.setIfInBounds_toArray, List.set_cons_zero, List.set_cons_succ, i64_w, i32_w]
            rfl
           refine pure_ (i := 19) (N := some 41) (v := ?_) (a' := ?_) #[true, true, true, true, true, true, true, true, true, true, true, true, true, true, true, true, true, true, true, true, false] rfl rfl (any_of HT_.out (by kernel_rfl)) (fun _ _ _ h => h) (Or.inl ⟨by rfl, ?_⟩) ?_ ?_
           rotate_left
           ·
            intro w'
            go_simp
            with_reducible rfl
           rotate_left
           ·
            simp only [Act.put, List.setIfInBounds_toArray, List.set_cons_zero, List.set_cons_succ, i64_w, i32_w]
            rfl
           refine last_ (i := 20) (N := none) #[true, true, true, true, true, true, true, true, true, true, true, true, true, true, true, true, true, true, true, true, true] rfl rfl (one_of HT_.out (by kernel_rfl)) (by decide) (fun K hK => ?_)
           refine skip_ (w1 := ?_) (by rfl) rfl ?_ ?_
           rotate_left
           ·
            go_simp
            rfl
           refine hK.out _ _ ?_
           clear hK K
           refine done_ (done_of HT_.out (by kernel_rfl)) ?_
           try go_wp2
           go_roundg k1
           case measure => have := HK1.out; omega
           case rel => exact ⟨(y443), (wrap64 (x6_1 + 1)), (by first | rfl | (simp; done) | (simp [*]; done)), H', ⟨by have := HK1.out; omega⟩, ⟨by (with_reducible repeat (first | apply Kd.R_alloc | apply Kd.R_drewN | apply Kd.R_drew)); exact HQ18.out⟩, ⟨by repeat (first | (with_reducible first | exact HB.out | apply below_alloc | apply pw_below_drewN | apply below_drew1 | refine below_set ?_ GB15.out) | exact HB.out)⟩⟩
          ·
           rw [if_neg c14] at H
           exact absurd H (by simp)
         ·
          rw [if_neg c13] at H
          exact absurd H (by simp)
        ·
         rw [if_neg c11] at H
         exact absurd H (by simp)
       ·
        rw [if_neg c10] at H
        exact absurd H (by simp)
     ·
      rw [if_neg c8] at H
      exact absurd H (by simp)
    ·
     rw [if_neg c7] at H
     have c7b0 : decide (x6_1 < (l1.length : Int)) = false := decide_eq_false c7
     clear c7
     obtain rfl := Option.some.inj H
     go_wp2
     go_ret
     exact ⟨_, by first | rfl | (simp [errW_none, errW_some] <;> rfl) | (simp [*, errW_none, errW_some] <;> rfl), by (with_reducible repeat (first | apply Kd.R_alloc | apply Kd.R_drewN | apply Kd.R_drew)); exact HO_5.out, by repeat (first | (with_reducible first | exact HB.out | apply below_alloc | apply pw_below_drewN | apply below_drew1) | exact HB.out)⟩
 ·
  rw [if_neg c3] at H
  exact absurd H (by simp)

/-! ### spec_ImageApply: function 43 -/
def spec_ImageApply.j0 : Nat → List ByteArray → List (S26) → Bool → Option (List ByteArray × Int)
 | 0, _, _, _ => none
 | k + 1, x0, x1, x13 => if x13 = true then ((spec_l07Ill.f 2).bind fun bt445 => (some (bt445.1, bt445.2))) else ((spec_ImageRight.f k x0).bind fun t449 => (if t449 = true then ((spec_StepsCode.f k x1 (x0.length : Int)).bind fun t454 => (if t454 = 0 then ((spec_l07Apply.f k x0 x1).bind fun t455 => (some (t455, 0))) else ((spec_l07Ill.f t454).bind fun bt458 => (some (bt458.1, bt458.2))))) else ((spec_l07Ill.f 1).bind fun bt450 => (some (bt450.1, bt450.2)))))
def spec_ImageApply.f (k : Nat) (l0 : List ByteArray) (l1 : List (S26)) : Option (List ByteArray × Int) := if (l0.length : Int) > 400 then (spec_ImageApply.j0 k l0 l1 true) else (spec_ImageApply.j0 k l0 l1 (decide ((l1.length : Int) > 400)))
theorem spec_ImageApply.mono_l : ∀ k, (∀ y0 y1 y2, LeO (spec_ImageApply.j0 k y0 y1 y2) (spec_ImageApply.j0 (k + 1) y0 y1 y2))
 | 0 => fun _ _ _ r h => by simp [spec_ImageApply.j0] at h
 | k + 1 => by
  have ih0 := spec_ImageApply.mono_l k
  ·
   intro y0 y1 y2
   unfold spec_ImageApply.j0
   repeat' first
   | (with_reducible exact ih0 _ _ _)
   | (with_reducible exact spec_ImageRight.mono _ _)
   | (with_reducible exact spec_StepsCode.mono _ _ _)
   | (with_reducible exact spec_l07Apply.mono _ _ _)
   | (with_reducible exact LeO.refl _)
   | (with_reducible exact LeO.none _)
   | (with_reducible refine LeO.ite ?_ ?_)
   | (with_reducible refine LeO.bind ?_ (fun _ => ?_))
   | exact ih0 _ _ _
   | exact spec_ImageRight.mono _ _
   | exact spec_StepsCode.mono _ _ _
   | exact spec_l07Apply.mono _ _ _
   | exact LeO.none _
   | refine LeO.ite ?_ ?_
   | refine LeO.bind ?_ (fun _ => ?_)
theorem spec_ImageApply.mono : ∀ a0 a1 k, LeO (spec_ImageApply.f k a0 a1) (spec_ImageApply.f (k + 1) a0 a1) := by
 intro a0 a1 k
 have ih0 := spec_ImageApply.mono_l k
 unfold spec_ImageApply.f
 repeat' first
   | (with_reducible exact ih0 _ _ _)
   | (with_reducible exact spec_ImageRight.mono _ _)
   | (with_reducible exact spec_StepsCode.mono _ _ _)
   | (with_reducible exact spec_l07Apply.mono _ _ _)
   | (with_reducible exact LeO.refl _)
   | (with_reducible exact LeO.none _)
   | (with_reducible refine LeO.ite ?_ ?_)
   | (with_reducible refine LeO.bind ?_ (fun _ => ?_))
   | exact ih0 _ _ _
   | exact spec_ImageRight.mono _ _
   | exact spec_StepsCode.mono _ _ _
   | exact spec_l07Apply.mono _ _ _
   | exact LeO.none _
   | refine LeO.ite ?_ ?_
   | refine LeO.bind ?_ (fun _ => ?_)
set_option maxHeartbeats 8000000 in
set_option maxRecDepth 100000 in
theorem spec_ImageApply.calls (k : Nat) (A0 : Option Addr) (c0 : Nat) (l0 : List ByteArray) (A1 : Option Addr) (c1 : Nat) (l1 : List (S26)) (r1 : List ByteArray) (r2 : Int) (w : World) (hr0 : Kd.C Kd.string w A0 l0.length l0) (hc0 : l0.length ≤ c0) (hr1 : Kd.C k26 w A1 l1.length l1) (hc1 : l1.length ≤ c1) (h : spec_ImageApply.f k l0 l1 = some (r1, r2)) :
  Calls Try.prog 43 #[.slice A0 l0.length c0, .slice A1 l1.length c1] w fun e w' => ∃ v0_ : Value, e = .returned (.agg #[v0_, .int .i64 r2]) ∧ Kd.R Kd.string 9 w' w.heap.size (fun _ => True) v0_ r1 ∧ Below w.heap.size w w' := by
 have hu59 := Try.underlying59
 have HR0 := Aside0.mk hr0
 have HC0 := Aside0.mk hc0
 clear hr0 hc0
 have HR1 := Aside0.mk hr1
 have HC1 := Aside0.mk hc1
 clear hr1 hc1
 have HB := Aside0.mk (Below.refl w.heap.size w)
 have H : (if (l0.length : Int) > 400 then (spec_ImageApply.j0 k l0 l1 true) else (spec_ImageApply.j0 k l0 l1 (decide ((l1.length : Int) > 400)))) = some (r1, r2) := h
 clear h
 have HC3 := Aside0.mk H
 clear H
 go_enter Try.func43, Try.ntmps43
 go_upto_region 1 with (first | ((with_reducible refine gate_dst (N := 4) rfl ?_); (try (refine gate_guard (by rfl) ?_; dsimp only)); refine box_event ?hg (N := 4) ?hd (cs := #[.slice none 0 0, .int .i64 0]) (t := 59) ?hr ?_; (case hd => rfl); (case hg => rfl); (case hr => first | (go_simp; done) | (go_simp; rfl)); intro gb444 hg w4 hbox hb; have n0_ := Aside0.mk (below_step (by repeat (first | (with_reducible first | exact HB.out | apply below_alloc | apply pw_below_drewN | apply below_drew1) | exact HB.out)) hb); have n1_ := Aside0.mk (hbox); have n2_ := Aside0.mk ((by rw [hg]; exact (below_size (by repeat (first | (with_reducible first | exact HB.out | apply below_alloc | apply pw_below_drewN | apply below_drew1) | exact HB.out))) : w.heap.size ≤ gb444)); have n3_ := Aside0.mk ((by rw [hg]; exact (below_size (by repeat (first | (with_reducible first | exact HB.out | apply below_alloc | apply pw_below_drewN | apply below_drew1) | exact HB.out))) : w.heap.size ≤ gb444)); clear HB; have HB := n0_; have BK444 := n1_; have GW444 := n2_; have GE444 := n3_; clear n0_ n1_ n2_ n3_; clear hb hbox hg))
 (try simp only [Act.put, List.setIfInBounds_toArray, List.set_cons_zero, List.set_cons_succ])
 go_cut [13] (fun v13 wc => ∃ (kq : Nat) (x13_2 : Bool), v13 = .bool x13_2 ∧ Aside0 (spec_ImageApply.j0 kq l0 l1 x13_2 = some (r1, r2)) ∧ Aside0 (kq ≤ k) ∧ Aside0 (wc.heap[gb444]? = some (.cells #[(.slice none 0 0), .int .i64 0] 59 (0, 0))) ∧ Aside0 (Below w.heap.size w wc))
 case first =>
  have H := HC3.out
  clear HC3
  by_cases c5 : (l0.length : Int) > 400
  ·
   rw [if_pos c5] at H
   have c5b0 : decide (400 < (l0.length : Int)) = true := decide_eq_true c5
   have c5b1 : decide (400 < l0.length) = true := decide_eq_true (by omega)
   clear c5
   (first | rw [c5b0] | (simp only [i64_w, i32_w]; rw [c5b0]) | skip)
   have H' := Aside0.mk H
   clear H
   go_wp2
   go_meet
   case rel => exact ⟨_, (true), (by first | rfl | (simp; done) | (simp [*]; done)), H', ⟨by first | omega | exact Nat.le_refl _⟩, ⟨by (with_reducible repeat (first | refine blk_drewN ?_ _ | refine blk_drew ?_ | refine blk_alloc ?_ _)); exact BK444.out⟩, ⟨by repeat (first | (with_reducible first | exact HB.out | apply below_alloc | apply pw_below_drewN | apply below_drew1 | refine below_set ?_ GE444.out) | exact HB.out)⟩⟩
  ·
   rw [if_neg c5] at H
   have c5b0 : decide (400 < (l0.length : Int)) = false := decide_eq_false c5
   have c5b1 : decide (400 < l0.length) = false := decide_eq_false (by omega)
   clear c5
   (first | rw [c5b0] | (simp only [i64_w, i32_w]; rw [c5b0]) | skip)
   have H' := Aside0.mk H
   clear H
   go_wp2
   go_meet
   case rel => exact ⟨_, (decide ((l1.length : Int) > 400)), (by first | rfl | (simp; done) | (simp [*]; done)), H', ⟨by first | omega | exact Nat.le_refl _⟩, ⟨by (with_reducible repeat (first | refine blk_drewN ?_ _ | refine blk_drew ?_ | refine blk_alloc ?_ _)); exact BK444.out⟩, ⟨by repeat (first | (with_reducible first | exact HB.out | apply below_alloc | apply pw_below_drewN | apply below_drew1 | refine below_set ?_ GE444.out) | exact HB.out)⟩⟩
 case rest =>
  clear HC3
  try clear c1
  try clear p2
  try clear c4
  try clear c5
  try clear c5b0
  try clear c5b1
  obtain ⟨kq, x13_2, rfl, HA, HJ2, BK444, HB⟩ := hcut
  cases kq with
  | zero => exact absurd HA.out (by simp [spec_ImageApply.j0])
  | succ kj2 =>
   have H := HA.out
   clear HA
   simp only [spec_ImageApply.j0] at H
   by_cases c6 : x13_2 = true
   ·
    subst c6
    have H1 : ((spec_l07Ill.f 2).bind fun bt445 => (some (bt445.1, bt445.2))) = some (r1, r2) := by rw [if_pos rfl] at H; exact H
    clear H
    have H := H1
    clear H1
    replace H := Option.bind_eq_some_iff.mp H
    obtain ⟨⟨t445, t448⟩, A70, H⟩ := H
    replace H : (some (t445, t448)) = some (r1, r2) := H
    have A7 := Aside0.mk A70
    clear A70
    simp only [Option.some.injEq, Prod.mk.injEq] at H
    obtain ⟨rfl, rfl⟩ := H
    go_wp2_with (first | ((with_reducible refine gate_callee (f := 66) rfl ?_); refine goesL_ (some 14) rfl rfl Try.func66 (by kernel_rfl) rfl #[.int .i64 2] rfl (by (try simp only [List.map_toArray, List.map_cons, List.map_nil]); first | done | rfl | (simp only [List.length_drop, List.length_take]; rfl)) ?_; (with_reducible refine (spec_l07Ill.calls 2 t445 t448 _ A7.out).mono ?_); rintro e w8 ⟨v446, rfl, ho0, hb⟩; refine ⟨_, rfl, ?_⟩; have n0_ := Aside0.mk (Kd.R_lower ho0 (below_size (by repeat (first | (with_reducible first | exact HB.out | apply below_alloc | apply pw_below_drewN | apply below_drew1 | refine below_set ?_ GE444.out) | exact HB.out)))); have n1_ := Aside0.mk (blk_below (g := gb444) (o := .cells #[.slice none 0 0, .int .i64 0] 59 (0, 0)) (by (with_reducible repeat (first | refine blk_drewN ?_ _ | refine blk_drew ?_ | refine blk_alloc ?_ _)); exact BK444.out) hb); have n2_ := Aside0.mk (below_step (by repeat (first | (with_reducible first | exact HB.out | apply below_alloc | apply pw_below_drewN | apply below_drew1 | refine below_set ?_ GE444.out) | exact HB.out)) hb); clear BK444; clear HB; have HO447 := n0_; have BK444 := n1_; have HB := n2_; clear n0_ n1_ n2_; (try clear hb); (try clear hb2); (try clear hk); (try clear hi); (try clear ho0); obtain ⟨Ao9, co9, eo9⟩ := Kd.R_slice HO447.out; subst eo9; have hcz10_0 : w8.cell? ⟨gb444, 0, none⟩ = some (.slice none 0 0) := (blk_cell BK444.out 0).trans rfl; have hcz10_1 : w8.cell? ⟨gb444, 1, none⟩ = some (.int .i64 0) := (blk_cell BK444.out 1).trans rfl; have hfz10_0 := blk_frozen BK444.out 0; have hfz10_1 := blk_frozen BK444.out 1))
    refine bodyPost_ret (results_cell_row rfl _ _ gb444 59 #[.slice Ao9 t445.length co9, .int .i64 t448] (0, 0) _ rfl (by (with_reducible repeat (first | refine blk_drewN ?_ _ | refine blk_drew ?_ | refine blk_alloc ?_ _)); refine blk_put (cs := #[.slice Ao9 t445.length co9, .int .i64 0]) ?_ 1 _ rfl; (with_reducible repeat (first | refine blk_drewN ?_ _ | refine blk_drew ?_ | refine blk_alloc ?_ _)); refine blk_put (cs := #[.slice none 0 0, .int .i64 0]) ?_ 0 _ rfl; (with_reducible repeat (first | refine blk_drewN ?_ _ | refine blk_drew ?_ | refine blk_alloc ?_ _)); exact BK444.out) Try.underlying59 rfl (by kernel_rfl)) rfl ?_
    exact ⟨_, by first | rfl | (simp [errW_none, errW_some] <;> rfl) | (simp [*, errW_none, errW_some] <;> rfl), by (with_reducible repeat (first | apply Kd.R_alloc | apply Kd.R_drewN | apply Kd.R_drew)); exact Kd.R_mono (Kd.R_far (p := ⟨gb444, 1, none⟩) (Kd.R_far (p := ⟨gb444, 0, none⟩) (Kd.R_types HO447.out BK444.out (by decide)) (fun _ hk => hk.2) (.slice Ao9 t445.length co9)) (fun _ hk => hk.2) (.int .i64 t448)) (fun _ hk => trivial), by repeat (first | (with_reducible first | exact HB.out | apply below_alloc | apply pw_below_drewN | apply below_drew1 | refine below_set ?_ GE444.out) | exact HB.out)⟩
   ·
    replace c6 := Bool.eq_false_iff.mpr c6
    subst c6
    have H1 : ((spec_ImageRight.f kj2 l0).bind fun t449 => (if t449 = true then ((spec_StepsCode.f kj2 l1 (l0.length : Int)).bind fun t454 => (if t454 = 0 then ((spec_l07Apply.f kj2 l0 l1).bind fun t455 => (some (t455, 0))) else ((spec_l07Ill.f t454).bind fun bt458 => (some (bt458.1, bt458.2))))) else ((spec_l07Ill.f 1).bind fun bt450 => (some (bt450.1, bt450.2))))) = some (r1, r2) := by rw [if_neg (show ¬ (false = true) by decide)] at H; exact H
    clear H
    have H := H1
    clear H1
    replace H := Option.bind_eq_some_iff.mp H
    obtain ⟨t449, A110, H⟩ := H
    replace H : (if t449 = true then ((spec_StepsCode.f kj2 l1 (l0.length : Int)).bind fun t454 => (if t454 = 0 then ((spec_l07Apply.f kj2 l0 l1).bind fun t455 => (some (t455, 0))) else ((spec_l07Ill.f t454).bind fun bt458 => (some (bt458.1, bt458.2))))) else ((spec_l07Ill.f 1).bind fun bt450 => (some (bt450.1, bt450.2)))) = some (r1, r2) := H
    have A11 := Aside0.mk A110
    clear A110
    by_cases c12 : t449 = true
    ·
     subst c12
     have H1 : ((spec_StepsCode.f kj2 l1 (l0.length : Int)).bind fun t454 => (if t454 = 0 then ((spec_l07Apply.f kj2 l0 l1).bind fun t455 => (some (t455, 0))) else ((spec_l07Ill.f t454).bind fun bt458 => (some (bt458.1, bt458.2))))) = some (r1, r2) := by rw [if_pos rfl] at H; exact H
     clear H
     have H := H1
     clear H1
     replace H := Option.bind_eq_some_iff.mp H
     obtain ⟨t454, A130, H⟩ := H
     replace H : (if t454 = 0 then ((spec_l07Apply.f kj2 l0 l1).bind fun t455 => (some (t455, 0))) else ((spec_l07Ill.f t454).bind fun bt458 => (some (bt458.1, bt458.2)))) = some (r1, r2) := H
     have A13 := Aside0.mk A130
     clear A130
     by_cases c14 : t454 = 0
     ·
      rw [if_pos c14] at H
      have c14b0 : (t454 == 0) = true := beq_iff_eq.mpr c14
      have c14b1 : (t454 != 0) = false := bne_eq_false_iff_eq.mpr c14
      clear c14
      replace H := Option.bind_eq_some_iff.mp H
      obtain ⟨t455, A150, H⟩ := H
      replace H : (some (t455, 0)) = some (r1, r2) := H
      have A15 := Aside0.mk A150
      clear A150
      simp only [Option.some.injEq, Prod.mk.injEq] at H
      obtain ⟨rfl, rfl⟩ := H
      go_wp2_with (first | ((with_reducible refine gate_callee (f := 18) rfl ?_); refine goesL_ (some 16) rfl rfl Try.func18 (by kernel_rfl) rfl #[.slice A0 l0.length c0] rfl (by (try simp only [List.map_toArray, List.map_cons, List.map_nil]); first | done | rfl | (simp only [List.length_drop, List.length_take]; rfl)) ?_; (with_reducible refine (spec_ImageRight.calls kj2 _ _ l0 true _ ?side1 ?side2 A11.out).mono ?_); (case side1 => repeat (first | exact (Kd.C_below HR0.out HB.out) | (with_reducible refine Kd.C_alloc ?_ _) | (with_reducible refine Kd.C_drewN ?_ _) | (with_reducible refine Kd.C_drew ?_))); (case side2 => exact HC0.out); rintro e w' ⟨rfl, ⟨nd, rfl⟩⟩; refine ⟨_, rfl, ?_⟩; (try (rw [drewN_self wc]; generalize hq_ : World.drewN wc _ = wc; have n0_ : Aside0 (wc.heap[gb444]? = some (.cells #[.slice none 0 0, .int .i64 0] 59 (0, 0))) := ⟨by rw [← hq_]; exact (by (with_reducible repeat (first | refine blk_drewN ?_ _ | refine blk_drew ?_ | refine blk_alloc ?_ _)); exact BK444.out)⟩; have n1_ : Aside0 (Below w.heap.size w wc) := ⟨by rw [← hq_]; exact (by repeat (first | (with_reducible first | exact HB.out | apply below_alloc | apply pw_below_drewN | apply below_drew1 | refine below_set ?_ GE444.out) | exact HB.out))⟩; clear BK444 HB hq_; have BK444 := n0_; have HB := n1_; clear n0_ n1_))) | ((with_reducible refine gate_callee (f := 33) rfl ?_); refine goesL_ (some 22) rfl rfl Try.func33 (by kernel_rfl) rfl #[.slice A1 l1.length c1, .int .i64 (l0.length : Int)] rfl (by (try simp only [List.map_toArray, List.map_cons, List.map_nil]); first | done | rfl | (simp only [List.length_drop, List.length_take]; rfl)) ?_; (with_reducible refine (spec_StepsCode.calls kj2 _ _ l1 (l0.length : Int) t454 _ ?side1 ?side2 A13.out).mono ?_); (case side1 => repeat (first | exact (Kd.C_below HR1.out HB.out) | (with_reducible refine Kd.C_alloc ?_ _) | (with_reducible refine Kd.C_drewN ?_ _) | (with_reducible refine Kd.C_drew ?_))); (case side2 => exact HC1.out); rintro e w16 ⟨rfl, hb⟩; refine ⟨_, rfl, ?_⟩; have n0_ := Aside0.mk (blk_below (g := gb444) (o := .cells #[.slice none 0 0, .int .i64 0] 59 (0, 0)) (by (with_reducible repeat (first | refine blk_drewN ?_ _ | refine blk_drew ?_ | refine blk_alloc ?_ _)); exact BK444.out) hb); have n1_ := Aside0.mk (below_step (by repeat (first | (with_reducible first | exact HB.out | apply below_alloc | apply pw_below_drewN | apply below_drew1 | refine below_set ?_ GE444.out) | exact HB.out)) hb); clear BK444; clear HB; have BK444 := n0_; have HB := n1_; clear n0_ n1_; (try clear hb); (try clear hb2); (try clear hk); (try clear hi)) | ((with_reducible refine gate_callee (f := 67) rfl ?_); refine goesL_ (some 29) rfl rfl Try.func67 (by kernel_rfl) rfl #[.slice A0 l0.length c0, .slice A1 l1.length c1] rfl (by (try simp only [List.map_toArray, List.map_cons, List.map_nil]); first | done | rfl | (simp only [List.length_drop, List.length_take]; rfl)) ?_; (with_reducible refine (spec_l07Apply.calls kj2 _ _ l0 _ _ l1 t455 _ ?side1 ?side2 ?side3 ?side4 A15.out).mono ?_); (case side1 => repeat (first | exact (Kd.C_below HR0.out HB.out) | (with_reducible refine Kd.C_alloc ?_ _) | (with_reducible refine Kd.C_drewN ?_ _) | (with_reducible refine Kd.C_drew ?_))); (case side2 => exact HC0.out); (case side3 => repeat (first | exact (Kd.C_below HR1.out HB.out) | (with_reducible refine Kd.C_alloc ?_ _) | (with_reducible refine Kd.C_drewN ?_ _) | (with_reducible refine Kd.C_drew ?_))); (case side4 => exact HC1.out); rintro e w17 ⟨v456, rfl, ho0, hb⟩; refine ⟨_, rfl, ?_⟩; have n0_ := Aside0.mk (Kd.R_lower ho0 (below_size (by repeat (first | (with_reducible first | exact HB.out | apply below_alloc | apply pw_below_drewN | apply below_drew1 | refine below_set ?_ GE444.out) | exact HB.out)))); have n1_ := Aside0.mk (blk_below (g := gb444) (o := .cells #[.slice none 0 0, .int .i64 0] 59 (0, 0)) (by (with_reducible repeat (first | refine blk_drewN ?_ _ | refine blk_drew ?_ | refine blk_alloc ?_ _)); exact BK444.out) hb); have n2_ := Aside0.mk (below_step (by repeat (first | (with_reducible first | exact HB.out | apply below_alloc | apply pw_below_drewN | apply below_drew1 | refine below_set ?_ GE444.out) | exact HB.out)) hb); clear BK444; clear HB; have HO457 := n0_; have BK444 := n1_; have HB := n2_; clear n0_ n1_ n2_; (try clear hb); (try clear hb2); (try clear hk); (try clear hi); (try clear ho0); obtain ⟨Ao18, co18, eo18⟩ := Kd.R_slice HO457.out; subst eo18; have hcz19_0 : w17.cell? ⟨gb444, 0, none⟩ = some (.slice none 0 0) := (blk_cell BK444.out 0).trans rfl; have hcz19_1 : w17.cell? ⟨gb444, 1, none⟩ = some (.int .i64 0) := (blk_cell BK444.out 1).trans rfl; have hfz19_0 := blk_frozen BK444.out 0; have hfz19_1 := blk_frozen BK444.out 1))
      refine bodyPost_ret (results_cell_row rfl _ _ gb444 59 #[.slice Ao18 t455.length co18, .int .i64 0] (0, 0) _ rfl (by (with_reducible repeat (first | refine blk_drewN ?_ _ | refine blk_drew ?_ | refine blk_alloc ?_ _)); refine blk_put (cs := #[.slice Ao18 t455.length co18, .int .i64 0]) ?_ 1 _ rfl; (with_reducible repeat (first | refine blk_drewN ?_ _ | refine blk_drew ?_ | refine blk_alloc ?_ _)); refine blk_put (cs := #[.slice none 0 0, .int .i64 0]) ?_ 0 _ rfl; (with_reducible repeat (first | refine blk_drewN ?_ _ | refine blk_drew ?_ | refine blk_alloc ?_ _)); exact BK444.out) Try.underlying59 rfl (by kernel_rfl)) rfl ?_
      exact ⟨_, by first | rfl | (simp [errW_none, errW_some] <;> rfl) | (simp [*, errW_none, errW_some] <;> rfl), by (with_reducible repeat (first | apply Kd.R_alloc | apply Kd.R_drewN | apply Kd.R_drew)); exact Kd.R_mono (Kd.R_far (p := ⟨gb444, 1, none⟩) (Kd.R_far (p := ⟨gb444, 0, none⟩) (Kd.R_types HO457.out BK444.out (by decide)) (fun _ hk => hk.2) (.slice Ao18 t455.length co18)) (fun _ hk => hk.2) (.int .i64 0)) (fun _ hk => trivial), by repeat (first | (with_reducible first | exact HB.out | apply below_alloc | apply pw_below_drewN | apply below_drew1 | refine below_set ?_ GE444.out) | exact HB.out)⟩
     ·
      rw [if_neg c14] at H
      have c14b0 : (t454 == 0) = false := beq_eq_false_iff_ne.mpr c14
      have c14b1 : (t454 != 0) = true := bne_iff_ne.mpr c14
      replace H := Option.bind_eq_some_iff.mp H
      obtain ⟨⟨t458, t461⟩, A200, H⟩ := H
      replace H : (some (t458, t461)) = some (r1, r2) := H
      have A20 := Aside0.mk A200
      clear A200
      simp only [Option.some.injEq, Prod.mk.injEq] at H
      obtain ⟨rfl, rfl⟩ := H
      go_wp2_with (first | ((with_reducible refine gate_callee (f := 18) rfl ?_); refine goesL_ (some 16) rfl rfl Try.func18 (by kernel_rfl) rfl #[.slice A0 l0.length c0] rfl (by (try simp only [List.map_toArray, List.map_cons, List.map_nil]); first | done | rfl | (simp only [List.length_drop, List.length_take]; rfl)) ?_; (with_reducible refine (spec_ImageRight.calls kj2 _ _ l0 true _ ?side1 ?side2 A11.out).mono ?_); (case side1 => repeat (first | exact (Kd.C_below HR0.out HB.out) | (with_reducible refine Kd.C_alloc ?_ _) | (with_reducible refine Kd.C_drewN ?_ _) | (with_reducible refine Kd.C_drew ?_))); (case side2 => exact HC0.out); rintro e w' ⟨rfl, ⟨nd, rfl⟩⟩; refine ⟨_, rfl, ?_⟩; (try (rw [drewN_self wc]; generalize hq_ : World.drewN wc _ = wc; have n0_ : Aside0 (wc.heap[gb444]? = some (.cells #[.slice none 0 0, .int .i64 0] 59 (0, 0))) := ⟨by rw [← hq_]; exact (by (with_reducible repeat (first | refine blk_drewN ?_ _ | refine blk_drew ?_ | refine blk_alloc ?_ _)); exact BK444.out)⟩; have n1_ : Aside0 (Below w.heap.size w wc) := ⟨by rw [← hq_]; exact (by repeat (first | (with_reducible first | exact HB.out | apply below_alloc | apply pw_below_drewN | apply below_drew1 | refine below_set ?_ GE444.out) | exact HB.out))⟩; clear BK444 HB hq_; have BK444 := n0_; have HB := n1_; clear n0_ n1_))) | ((with_reducible refine gate_callee (f := 33) rfl ?_); refine goesL_ (some 22) rfl rfl Try.func33 (by kernel_rfl) rfl #[.slice A1 l1.length c1, .int .i64 (l0.length : Int)] rfl (by (try simp only [List.map_toArray, List.map_cons, List.map_nil]); first | done | rfl | (simp only [List.length_drop, List.length_take]; rfl)) ?_; (with_reducible refine (spec_StepsCode.calls kj2 _ _ l1 (l0.length : Int) t454 _ ?side1 ?side2 A13.out).mono ?_); (case side1 => repeat (first | exact (Kd.C_below HR1.out HB.out) | (with_reducible refine Kd.C_alloc ?_ _) | (with_reducible refine Kd.C_drewN ?_ _) | (with_reducible refine Kd.C_drew ?_))); (case side2 => exact HC1.out); rintro e w21 ⟨rfl, hb⟩; refine ⟨_, rfl, ?_⟩; have n0_ := Aside0.mk (blk_below (g := gb444) (o := .cells #[.slice none 0 0, .int .i64 0] 59 (0, 0)) (by (with_reducible repeat (first | refine blk_drewN ?_ _ | refine blk_drew ?_ | refine blk_alloc ?_ _)); exact BK444.out) hb); have n1_ := Aside0.mk (below_step (by repeat (first | (with_reducible first | exact HB.out | apply below_alloc | apply pw_below_drewN | apply below_drew1 | refine below_set ?_ GE444.out) | exact HB.out)) hb); clear BK444; clear HB; have BK444 := n0_; have HB := n1_; clear n0_ n1_; (try clear hb); (try clear hb2); (try clear hk); (try clear hi)) | ((with_reducible refine gate_callee (f := 66) rfl ?_); refine goesL_ (some 26) rfl rfl Try.func66 (by kernel_rfl) rfl #[.int .i64 t454] rfl (by (try simp only [List.map_toArray, List.map_cons, List.map_nil]); first | done | rfl | (simp only [List.length_drop, List.length_take]; rfl)) ?_; (with_reducible refine (spec_l07Ill.calls t454 t458 t461 _ A20.out).mono ?_); rintro e w22 ⟨v459, rfl, ho0, hb⟩; refine ⟨_, rfl, ?_⟩; have n0_ := Aside0.mk (Kd.R_lower ho0 (below_size (by repeat (first | (with_reducible first | exact HB.out | apply below_alloc | apply pw_below_drewN | apply below_drew1 | refine below_set ?_ GE444.out) | exact HB.out)))); have n1_ := Aside0.mk (blk_below (g := gb444) (o := .cells #[.slice none 0 0, .int .i64 0] 59 (0, 0)) (by (with_reducible repeat (first | refine blk_drewN ?_ _ | refine blk_drew ?_ | refine blk_alloc ?_ _)); exact BK444.out) hb); have n2_ := Aside0.mk (below_step (by repeat (first | (with_reducible first | exact HB.out | apply below_alloc | apply pw_below_drewN | apply below_drew1 | refine below_set ?_ GE444.out) | exact HB.out)) hb); clear BK444; clear HB; have HO460 := n0_; have BK444 := n1_; have HB := n2_; clear n0_ n1_ n2_; (try clear hb); (try clear hb2); (try clear hk); (try clear hi); (try clear ho0); obtain ⟨Ao23, co23, eo23⟩ := Kd.R_slice HO460.out; subst eo23; have hcz24_0 : w22.cell? ⟨gb444, 0, none⟩ = some (.slice none 0 0) := (blk_cell BK444.out 0).trans rfl; have hcz24_1 : w22.cell? ⟨gb444, 1, none⟩ = some (.int .i64 0) := (blk_cell BK444.out 1).trans rfl; have hfz24_0 := blk_frozen BK444.out 0; have hfz24_1 := blk_frozen BK444.out 1))
      refine bodyPost_ret (results_cell_row rfl _ _ gb444 59 #[.slice Ao23 t458.length co23, .int .i64 t461] (0, 0) _ rfl (by (with_reducible repeat (first | refine blk_drewN ?_ _ | refine blk_drew ?_ | refine blk_alloc ?_ _)); refine blk_put (cs := #[.slice Ao23 t458.length co23, .int .i64 0]) ?_ 1 _ rfl; (with_reducible repeat (first | refine blk_drewN ?_ _ | refine blk_drew ?_ | refine blk_alloc ?_ _)); refine blk_put (cs := #[.slice none 0 0, .int .i64 0]) ?_ 0 _ rfl; (with_reducible repeat (first | refine blk_drewN ?_ _ | refine blk_drew ?_ | refine blk_alloc ?_ _)); exact BK444.out) Try.underlying59 rfl (by kernel_rfl)) rfl ?_
      exact ⟨_, by first | rfl | (simp [errW_none, errW_some] <;> rfl) | (simp [*, errW_none, errW_some] <;> rfl), by (with_reducible repeat (first | apply Kd.R_alloc | apply Kd.R_drewN | apply Kd.R_drew)); exact Kd.R_mono (Kd.R_far (p := ⟨gb444, 1, none⟩) (Kd.R_far (p := ⟨gb444, 0, none⟩) (Kd.R_types HO460.out BK444.out (by decide)) (fun _ hk => hk.2) (.slice Ao23 t458.length co23)) (fun _ hk => hk.2) (.int .i64 t461)) (fun _ hk => trivial), by repeat (first | (with_reducible first | exact HB.out | apply below_alloc | apply pw_below_drewN | apply below_drew1 | refine below_set ?_ GE444.out) | exact HB.out)⟩
    ·
     replace c12 := Bool.eq_false_iff.mpr c12
     subst c12
     have H1 : ((spec_l07Ill.f 1).bind fun bt450 => (some (bt450.1, bt450.2))) = some (r1, r2) := by rw [if_neg (show ¬ (false = true) by decide)] at H; exact H
     clear H
     have H := H1
     clear H1
     replace H := Option.bind_eq_some_iff.mp H
     obtain ⟨⟨t450, t453⟩, A250, H⟩ := H
     replace H : (some (t450, t453)) = some (r1, r2) := H
     have A25 := Aside0.mk A250
     clear A250
     simp only [Option.some.injEq, Prod.mk.injEq] at H
     obtain ⟨rfl, rfl⟩ := H
     go_wp2_with (first | ((with_reducible refine gate_callee (f := 18) rfl ?_); refine goesL_ (some 16) rfl rfl Try.func18 (by kernel_rfl) rfl #[.slice A0 l0.length c0] rfl (by (try simp only [List.map_toArray, List.map_cons, List.map_nil]); first | done | rfl | (simp only [List.length_drop, List.length_take]; rfl)) ?_; (with_reducible refine (spec_ImageRight.calls kj2 _ _ l0 false _ ?side1 ?side2 A11.out).mono ?_); (case side1 => repeat (first | exact (Kd.C_below HR0.out HB.out) | (with_reducible refine Kd.C_alloc ?_ _) | (with_reducible refine Kd.C_drewN ?_ _) | (with_reducible refine Kd.C_drew ?_))); (case side2 => exact HC0.out); rintro e w' ⟨rfl, ⟨nd, rfl⟩⟩; refine ⟨_, rfl, ?_⟩; (try (rw [drewN_self wc]; generalize hq_ : World.drewN wc _ = wc; have n0_ : Aside0 (wc.heap[gb444]? = some (.cells #[.slice none 0 0, .int .i64 0] 59 (0, 0))) := ⟨by rw [← hq_]; exact (by (with_reducible repeat (first | refine blk_drewN ?_ _ | refine blk_drew ?_ | refine blk_alloc ?_ _)); exact BK444.out)⟩; have n1_ : Aside0 (Below w.heap.size w wc) := ⟨by rw [← hq_]; exact (by repeat (first | (with_reducible first | exact HB.out | apply below_alloc | apply pw_below_drewN | apply below_drew1 | refine below_set ?_ GE444.out) | exact HB.out))⟩; clear BK444 HB hq_; have BK444 := n0_; have HB := n1_; clear n0_ n1_))) | ((with_reducible refine gate_callee (f := 66) rfl ?_); refine goesL_ (some 18) rfl rfl Try.func66 (by kernel_rfl) rfl #[.int .i64 1] rfl (by (try simp only [List.map_toArray, List.map_cons, List.map_nil]); first | done | rfl | (simp only [List.length_drop, List.length_take]; rfl)) ?_; (with_reducible refine (spec_l07Ill.calls 1 t450 t453 _ A25.out).mono ?_); rintro e w26 ⟨v451, rfl, ho0, hb⟩; refine ⟨_, rfl, ?_⟩; have n0_ := Aside0.mk (Kd.R_lower ho0 (below_size (by repeat (first | (with_reducible first | exact HB.out | apply below_alloc | apply pw_below_drewN | apply below_drew1 | refine below_set ?_ GE444.out) | exact HB.out)))); have n1_ := Aside0.mk (blk_below (g := gb444) (o := .cells #[.slice none 0 0, .int .i64 0] 59 (0, 0)) (by (with_reducible repeat (first | refine blk_drewN ?_ _ | refine blk_drew ?_ | refine blk_alloc ?_ _)); exact BK444.out) hb); have n2_ := Aside0.mk (below_step (by repeat (first | (with_reducible first | exact HB.out | apply below_alloc | apply pw_below_drewN | apply below_drew1 | refine below_set ?_ GE444.out) | exact HB.out)) hb); clear BK444; clear HB; have HO452 := n0_; have BK444 := n1_; have HB := n2_; clear n0_ n1_ n2_; (try clear hb); (try clear hb2); (try clear hk); (try clear hi); (try clear ho0); obtain ⟨Ao27, co27, eo27⟩ := Kd.R_slice HO452.out; subst eo27; have hcz28_0 : w26.cell? ⟨gb444, 0, none⟩ = some (.slice none 0 0) := (blk_cell BK444.out 0).trans rfl; have hcz28_1 : w26.cell? ⟨gb444, 1, none⟩ = some (.int .i64 0) := (blk_cell BK444.out 1).trans rfl; have hfz28_0 := blk_frozen BK444.out 0; have hfz28_1 := blk_frozen BK444.out 1))
     refine bodyPost_ret (results_cell_row rfl _ _ gb444 59 #[.slice Ao27 t450.length co27, .int .i64 t453] (0, 0) _ rfl (by (with_reducible repeat (first | refine blk_drewN ?_ _ | refine blk_drew ?_ | refine blk_alloc ?_ _)); refine blk_put (cs := #[.slice Ao27 t450.length co27, .int .i64 0]) ?_ 1 _ rfl; (with_reducible repeat (first | refine blk_drewN ?_ _ | refine blk_drew ?_ | refine blk_alloc ?_ _)); refine blk_put (cs := #[.slice none 0 0, .int .i64 0]) ?_ 0 _ rfl; (with_reducible repeat (first | refine blk_drewN ?_ _ | refine blk_drew ?_ | refine blk_alloc ?_ _)); exact BK444.out) Try.underlying59 rfl (by kernel_rfl)) rfl ?_
     exact ⟨_, by first | rfl | (simp [errW_none, errW_some] <;> rfl) | (simp [*, errW_none, errW_some] <;> rfl), by (with_reducible repeat (first | apply Kd.R_alloc | apply Kd.R_drewN | apply Kd.R_drew)); exact Kd.R_mono (Kd.R_far (p := ⟨gb444, 1, none⟩) (Kd.R_far (p := ⟨gb444, 0, none⟩) (Kd.R_types HO452.out BK444.out (by decide)) (fun _ hk => hk.2) (.slice Ao27 t450.length co27)) (fun _ hk => hk.2) (.int .i64 t453)) (fun _ hk => trivial), by repeat (first | (with_reducible first | exact HB.out | apply below_alloc | apply pw_below_drewN | apply below_drew1 | refine below_set ?_ GE444.out) | exact HB.out)⟩

/-! ### slices_Clone_string_string: function 97 -/
def slices_Clone_string_string.f (l0 : List ByteArray) : Option (List ByteArray) := if l0.length * 16 ≤ 140737488355328 then some l0 else none
set_option maxHeartbeats 8000000 in
set_option maxRecDepth 100000 in
theorem slices_Clone_string_string.some_ (ad : Addr) (c0 : Nat) (l0 : List ByteArray) (w : World) (hr0 : Kd.C Kd.string w (some ad) l0.length l0) (hc0 : l0.length ≤ c0) (hb : l0.length * 16 ≤ 140737488355328) :
  Calls Try.prog 97 #[.slice (some ad) l0.length c0] w fun e w' => ∃ v0_ : Value, e = .returned (v0_) ∧ Kd.R Kd.string 9 w' w.heap.size (fun _ => True) v0_ l0 ∧ Below w.heap.size w w' := by
 have HR0 := Aside0.mk hr0
 have HC0 := Aside0.mk hc0
 have HL := Aside0.mk hb
 clear hr0 hc0 hb
 have HB := Aside0.mk (Below.refl w.heap.size w)
 obtain ⟨y1, hy1⟩ : ∃ y_ : List ByteArray, y_ = ([] : List ByteArray) := ⟨_, rfl⟩
 have Ny1 := Aside0.mk hy1
 clear hy1
 have hq : ∀ W : World, (binOp .eql 29 (.slice (some ad) l0.length c0) (.slice none 0 0)).run Try.prog W = .ok (.bool false) W := fun W => Lib.run_eql_slice_nil W _ _ (some ad) _ _ _ _ Try.underlying29
 go_enter Try.func97, Try.ntmps97
 go_wp2_with (first | ((with_reducible refine gate_dst (N := 5) rfl ?_); refine Kd.R_lit Kd.string _ 9 ?hg (N := 5) ?hd (xs := ([] : List ByteArray)) (inner := []) (ok := fun _ => True) (okp := fun _ => True) ?hr ?hp (fun _ hk => hk) trivial (Below.refl _ _) (Nat.le_refl _) (by simp) ?_; (case hd => rfl); (case hg => rfl); (case hr => first | (go_simp; done) | (go_simp; rfl)); (case hp => exact (Reps.none _ _)); intro v2 w2 ho3 hb hg_ hnew_; clear hg_ hnew_; (first | rw [← Ny1.out] at ho3 | (simp only [Int.reduceToNat] at ho3; rw [← Ny1.out] at ho3)); have n0_ := Aside0.mk (Kd.R_lower ho3 (below_size (by repeat (first | (with_reducible first | exact HB.out | apply below_alloc | apply pw_below_drewN | apply below_drew1) | exact HB.out)))); have n1_ := Aside0.mk (below_step (by repeat (first | (with_reducible first | exact HB.out | apply below_alloc | apply pw_below_drewN | apply below_drew1) | exact HB.out)) hb); clear HB; have HO3 := n0_; have HB := n1_; clear n0_ n1_; clear hb ho3) | ((with_reducible refine gate_builtin (b := .append) (xs := #[.tmp 5, .tmp 6]) rfl ?_); at_builtin; refine Kd.R_append_rows Kd.string (w0 := w) w.heap.size rfl (.tmp 5) (.tmp 6) 29 9 (.string ⟨#[]⟩) 16 rfl Try.underlying29 info9 rfl (by decide) (by omega) v2 y1 l0 _ _ _ (fun _ => True) (fun _ => False) rfl rfl ?aO ?aR (fun _ _ h => h) (fun _ h => h.elim) ?aF ?aB ?aS ?aL ?_; (case aR => repeat (first | exact (Kd.C_below HR0.out HB.out) | (with_reducible refine Kd.C_alloc ?_ _) | (with_reducible refine Kd.C_drewN ?_ _) | (with_reducible refine Kd.C_drew ?_))); (case aB => exact (by repeat (first | (with_reducible first | exact HB.out | apply below_alloc | apply pw_below_drewN | apply below_drew1) | exact HB.out))); (case aF => exact (fun _ _ => trivial)); (case aO => exact (by (with_reducible repeat (first | apply Kd.R_alloc | apply Kd.R_drewN | apply Kd.R_drew)); exact HO3.out)); (case aS => exact (below_size (by repeat (first | (with_reducible first | exact HB.out | apply below_alloc | apply pw_below_drewN | apply below_drew1) | exact HB.out)))); (case aL => have h1 := HL.out; have h2 := Ny1.out; subst h2; simpa using h1); intro v4 w4 ho hb hg hat; have n0_ := Aside0.mk (hb); have n1_ := Aside0.mk (ho); clear HB; clear HO3; have HB := n0_; have HO4 := n1_; clear n0_ n1_; clear ho hb hg hat))
 go_ret
 have e1 : y1 ++ l0 = l0 := by rw [Ny1.out, List.nil_append]
 rw [e1] at HO4
 exact ⟨_, rfl, HO4.out, HB.out⟩
set_option maxHeartbeats 8000000 in
set_option maxRecDepth 100000 in
theorem slices_Clone_string_string.calls (A0 : Option Addr) (c0 : Nat) (l0 : List ByteArray) (r : List ByteArray) (w : World) (hr0 : Kd.C Kd.string w A0 l0.length l0) (hc0 : l0.length ≤ c0) (h : slices_Clone_string_string.f l0 = some r) :
  Calls Try.prog 97 #[.slice A0 l0.length c0] w fun e w' => ∃ v0_ : Value, e = .returned (v0_) ∧ Kd.R Kd.string 9 w' w.heap.size (fun _ => True) v0_ r ∧ Below w.heap.size w w' := by
 unfold slices_Clone_string_string.f at h
 by_cases hb : l0.length * 16 ≤ 140737488355328
 ·
  rw [if_pos hb] at h
  obtain rfl := Option.some.inj h
  cases A0 with
  | some ad => exact slices_Clone_string_string.some_ ad c0 l0 w hr0 hc0 hb
  | none =>
   have hl : l0.length = 0 := by
    rcases Nat.eq_zero_or_pos l0.length with h0 | h0
    ·
     exact h0
    ·
     obtain ⟨ad, _, e, _⟩ := Kd.C_get hr0 ByteArray.empty 0 (by omega) (by omega)
     cases e
   obtain rfl : l0 = [] := List.eq_nil_of_length_eq_zero hl
   clear hr0 h hb hl
   have hq : ∀ W : World, (binOp .eql 29 (.slice none 0 c0) (.slice none 0 0)).run Try.prog W = .ok (.bool true) W := fun W => Lib.run_eql_slice_nil W _ _ none _ _ _ _ Try.underlying29
   go_enter Try.func97, Try.ntmps97

   go_wp2
   all_goals (try go_ret)
   all_goals exact ⟨_, rfl, Kd.R_nil _ _ _ _ _, by repeat (first | exact Below.refl _ _ | apply below_alloc | apply pw_below_drewN | apply below_drew1)⟩
 ·
  rw [if_neg hb] at h; cases h


/-! ### impl_xored: function 88 -/
theorem impl_xored.still {P : Program} {id : Nat} {Q : Exit → Act → World → Prop} {a : Act} {w : World} {l : List Oper} (n : Nat) (hm : P.follows .mixedOrders = true) (hB : Region.lexTailB .any l.toArray n = true)
  (h : wpStill P l.toArray w.drew (fun a' => wpList P l.toArray Q (l.drop n) a' w.drew) (l.take n) a) : (Code.region id l.toArray true).wp P Q a w := wp_region_still_tail n hm hB h
def impl_xored.xs (a b : ByteArray) : Nat → List Int
 | 0 => []
 | k + 1 => impl_xored.xs a b k ++ [Go.bits .xor .u8 (bt a k) (bt b k)]
def impl_xored.f (a0 a1 : ByteArray) : Option ByteArray := if a0.size ≤ a1.size ∧ a0.size ≤ 9223372036854775807 then some (strOfNums (impl_xored.xs a0 a1 a0.size)) else none
/-- The row at g behind k rounds: the first k cells are done, the others still hold a's bytes. -/
def impl_xored.Row (a b : ByteArray) (g k : Nat) (W : World) : Prop :=
 ∃ (cur : Array Value) (m : Nat), W.heap[g]? = some (.cells cur 5 (m, m + 1)) ∧ a.size ≤ m ∧ cur.size = m ∧ (∀ j, j < k → cur[j]? = some (.int .u8 (Go.bits .xor .u8 (bt a j) (bt b j)))) ∧ (∀ j, k ≤ j → j < a.size → cur[j]? = some (.int .u8 (bt a j)))
theorem impl_xored.Row.cell {a b : ByteArray} {g k : Nat} {W : World} (h : impl_xored.Row a b g k W) (hk : k < a.size) : W.cell? ⟨g, k, none⟩ = some (.int .u8 (bt a k)) ∧ W.frozen? ⟨g, k, none⟩ = false := by
 obtain ⟨cur, m, hb, hm, hc, h1, h2⟩ := h
 constructor
 ·
  have := h2 k (Nat.le_refl _) hk
  simp [World.cell?, hb, this]
 ·
  simp [World.frozen?, hb]; omega
theorem impl_xored.Row.put {a b : ByteArray} {g k : Nat} {W : World} (h : impl_xored.Row a b g k W) (hk : k < a.size) : impl_xored.Row a b g (k + 1) (W.setCell ⟨g, k, none⟩ (.int .u8 (Go.bits .xor .u8 (bt a k) (bt b k)))) := by
 obtain ⟨cur, m, hb, hm, hc, h1, h2⟩ := h
 refine ⟨cur.set! k (.int .u8 (Go.bits .xor .u8 (bt a k) (bt b k))), m, ?_, hm, by simpa using hc, fun j hj => ?_, fun j hj hj2 => ?_⟩
 ·
  have hl : g < W.heap.size := by
   rcases Nat.lt_or_ge g W.heap.size with h' | h'
   ·
    exact h'
   ·
    rw [Array.getElem?_eq_none h'] at hb; cases hb
  rw [World.setCell]
  simp only [Array.getElem?_modify, if_true, hb, Option.map_some, Option.isSome_none, Bool.false_eq_true, if_false, Array.set!_eq_setIfInBounds]
 ·
  by_cases e : j = k
  ·
   subst e; simp [show j < cur.size by omega]
  ·
   have := h1 j (by omega)
   simp [Array.getElem?_setIfInBounds, Ne.symm e, this]
 ·
  have := h2 j (by omega) hj2
  simp [Array.getElem?_setIfInBounds, show k ≠ j by omega, this]
theorem impl_xored.Row.drew {a b : ByteArray} {g k : Nat} {W : World} (h : impl_xored.Row a b g k W) : impl_xored.Row a b g k W.drew := h
theorem impl_xored.Row.reads {a b : ByteArray} {g : Nat} {W : World} (h : impl_xored.Row a b g a.size W) (hs : a.size ≤ 9223372036854775807) : ReadsInt W .u8 (some ⟨g, 0, none⟩) a.size (impl_xored.xs a b a.size) := by
 have hl : ∀ k, (impl_xored.xs a b k).length = k := by
  intro k
  induction k with
  | zero => rfl
  | succ k ih => simp [impl_xored.xs, ih]
 have hg : ∀ k j, j < k → (impl_xored.xs a b k).getD j 0 = Go.bits .xor .u8 (bt a j) (bt b j) := by
  intro k
  induction k with
  | zero => intro j hj; omega
  | succ k ih =>
   intro j hj
   rw [impl_xored.xs]
   by_cases e : j = k
   ·
    subst e
    simp [List.getD_eq_getElem?_getD, hl]
   ·
    have := ih j (by omega)
    rw [← this]
    simp [List.getD_eq_getElem?_getD, List.getElem?_append_left (show j < (impl_xored.xs a b k).length by rw [hl]; omega)]
 refine ⟨hl _, hs, fun hp => ⟨_, rfl, fun j hj => ?_⟩⟩
 obtain ⟨cur, m, hb, hm, hc, h1, h2⟩ := h
 rw [add_plain, hg a.size j hj]
 have := h1 j hj
 simp [World.cell?, hb, this]
theorem impl_xored.Row.begin (a b : ByteArray) (W : World) : impl_xored.Row a b W.heap.size 0 (Lib.bytesWorld W 5 a) := by
 refine ⟨_, _, Lib.bytesWorld_at_new W 5 a, ?_, rfl, fun j hj => by omega, fun j _ hj => ?_⟩
 ·
  simp only [Lib.bytesCells, Array.size_append, Array.size_map]; show a.size ≤ a.data.size + _; exact Nat.le_add_right _ _
 ·
  have := Lib.bytesWorld_cell W 5 a j hj
  rw [show (some (Value.int .u8 (bt a j)) : Option Value) = some (.int .u8 (a.data.toList.getD j 0).toNat) from ?_, ← this]
  ·
   simp [World.cell?, Lib.bytesWorld_at_new]
  ·
   congr 2
   have h' : j < a.data.toList.length := by rw [data_length]; exact hj
   simp [bt, hj, List.getD_eq_getElem?_getD, List.getElem?_eq_getElem h']
   rfl
set_option maxHeartbeats 8000000 in
set_option maxRecDepth 100000 in
theorem impl_xored.calls (a0 : ByteArray) (a1 : ByteArray) (r : ByteArray) (w : World) (h : impl_xored.f a0 a1 = some r) :
  Calls Try.prog 88 #[.string a0, .string a1] w fun e w' => e = .returned (.string r) ∧ Below w.heap.size w w' := by
 unfold impl_xored.f at h
 by_cases hle : a0.size ≤ a1.size ∧ a0.size ≤ 9223372036854775807
 ·
  rw [if_pos hle] at h
  obtain rfl := Option.some.inj h
  clear h
  obtain ⟨hle, hbig⟩ := hle
  have hu64 := Try.underlying64
  have kb := fun W => print_bytes (P := Try.prog) 9 64 5 Try.underlying9 Try.underlying64 Try.underlying5 a0 W
  go_enter Try.func88, Try.ntmps88
  go_wp2_with (fail)
  have HB := Aside0.mk (bytes_below (Below.refl w.heap.size w) (Nat.le_refl _) 5 a0)
  have HR := Aside0.mk (impl_xored.Row.begin a0 a1 w)
  have HL := Aside0.mk hle
  have HN := Aside0.mk hbig
  clear kb hle hbig
  generalize hG : w.heap.size = G at HR HB ⊢
  have HG := Aside0.mk hG
  clear hG
  generalize grownCap w a0.size 0 5 = cap
  generalize Lib.bytesWorld w 5 a0 = wb at HR HB ⊢
  go_loopg [6, 11] a0.size (fun gg _ v11 wr => ∃ k : Nat, v11 = .int .i64 k ∧ Aside0 (k ≤ a0.size) ∧ Aside0 (a0.size - k ≤ gg) ∧ Aside0 (impl_xored.Row a0 a1 G k wr) ∧ Aside0 (Below G w wr))
  case atStart => exact ⟨0, rfl, ⟨Nat.zero_le _⟩, ⟨Nat.le_refl _⟩, HR, HB⟩
  case round =>
   clear HB HR
   obtain ⟨k, rfl, HK, HGG, HR, HB⟩ := hrel
   by_cases hlt : k < a0.size
   ·
    have hltz : decide ((k : Int) < (a0.size : Int)) = true := decide_eq_true (by omega)
    have hlt' : decide (k < a0.size) = true := decide_eq_true hlt
    have hx := (HR.out.cell hlt).1
    have hf := (HR.out.cell hlt).2
    have hk0 : (0 : Int) ≤ (k : Int) := by omega
    have hka : (k : Int) < (a0.size : Int) := by omega
    have hkb : (k : Int) < (a1.size : Int) := by have := HL.out; omega
    have hb1 := bt_at a1 (k : Int)
    go_wp2
    refine impl_xored.still 8 (by kernel_rfl) (by kernel_rfl) ?_
    simp only [List.take_succ_cons, List.take_zero, List.drop_succ_cons, List.drop_zero]
    repeat still_step
    refine wpStill_nil ?_
    go_wp2
    go_roundg (a0.size - (k + 1))
    case measure => have := HGG.out; omega
    case rel =>
     have e1 : wrap64 ((k : Int) + 1) = ((k + 1 : Nat) : Int) := by have := HN.out; unfold wrap64; omega
     have e2 : ((a1[k]'(by omega)).toNat : Int) = bt a1 (k : Int) := hb1 (by omega)
     refine ⟨k + 1, by rw [e1], ⟨by omega⟩, ⟨Nat.le_refl _⟩, ⟨?_⟩, ⟨?_⟩⟩
     ·
      rw [e2]; exact impl_xored.Row.drew (HR.out.put hlt)
     ·
      exact below_drew (HB.out.setCell (Nat.le_refl _) _)
   ·
    have hltz : decide ((k : Int) < (a0.size : Int)) = false := decide_eq_false (by omega)
    have hlt' : decide (k < a0.size) = false := decide_eq_false hlt
    obtain rfl : k = a0.size := by have := HK.out; omega
    have hcv := string_of_reads (P := Try.prog) (src := 64) (dst := 9) (c := cap) Try.underlying64 Try.underlying5 Try.underlying9 (HR.out.reads HN.out)
    go_wp2
    go_ret
    exact ⟨rfl, by rw [HG.out]; exact HB.out⟩
 ·
  rw [if_neg hle] at h; cases h


/-! ### impl_madeBy: function 61 -/
def impl_madeBy.f (a0_0 : Int) (a0_1 : Int) (a0_2 : Int) (a0_3 : ByteArray) (a1 : ByteArray) : Option (ByteArray) := if a0_0 = 1 then (some (⟨#[0, 0, 0, 0, 0, 0, 0, 0]⟩ : ByteArray)) else (if a0_0 = 2 then (some a0_3) else (if a0_0 = 3 then (some a1) else ((impl_xored.f a1 a0_3).bind fun t293 => (some t293))))
set_option maxHeartbeats 8000000 in
set_option maxRecDepth 100000 in
theorem impl_madeBy.calls (a0_0 : Int) (a0_1 : Int) (a0_2 : Int) (a0_3 : ByteArray) (a1 : ByteArray) (r : ByteArray) (w : World) (h : impl_madeBy.f a0_0 a0_1 a0_2 a0_3 a1 = some r) :
  Calls Try.prog 61 #[.agg #[.int .i64 a0_0, .int .i64 a0_1, .int .i64 a0_2, .string a0_3], .string a1] w fun e w' => e = .returned (.string r) ∧ Below w.heap.size w w' := by
 have hu26 := Try.underlying26
 have HB := Aside0.mk (Below.refl w.heap.size w)
 have H : (if a0_0 = 1 then (some (⟨#[0, 0, 0, 0, 0, 0, 0, 0]⟩ : ByteArray)) else (if a0_0 = 2 then (some a0_3) else (if a0_0 = 3 then (some a1) else ((impl_xored.f a1 a0_3).bind fun t293 => (some t293))))) = some r := h
 clear h
 by_cases c3 : a0_0 = 1
 ·
  rw [if_pos c3] at H
  have c3b0 : (a0_0 == 1) = true := beq_iff_eq.mpr c3
  have c3b1 : (a0_0 != 1) = false := bne_eq_false_iff_eq.mpr c3
  clear c3
  obtain rfl := Option.some.inj H
  go_enter Try.func61, Try.ntmps61
  go_wp2_with (first | ((with_reducible refine gate_dst (N := 2) rfl ?_); refine box_event ?hg (N := 2) ?hd (cs := #[.int .i64 a0_0, .int .i64 a0_1, .int .i64 a0_2, .string a0_3]) (t := 26) ?hr ?_; (case hd => rfl); (case hg => rfl); (case hr => first | (go_simp; done) | (go_simp; rfl)); intro gb292 hg w4 hbox hb; have n0_ := Aside0.mk (below_step (by repeat (first | (with_reducible first | exact HB.out | apply below_alloc | apply pw_below_drewN | apply below_drew1) | exact HB.out)) hb); have n1_ := Aside0.mk (hbox); have n2_ := Aside0.mk ((by rw [hg]; exact (below_size (by repeat (first | (with_reducible first | exact HB.out | apply below_alloc | apply pw_below_drewN | apply below_drew1) | exact HB.out))) : w.heap.size ≤ gb292)); have n3_ := Aside0.mk ((by rw [hg]; exact (below_size (by repeat (first | (with_reducible first | exact HB.out | apply below_alloc | apply pw_below_drewN | apply below_drew1) | exact HB.out))) : w.heap.size ≤ gb292)); clear HB; have HB := n0_; have BK292 := n1_; have GW292 := n2_; have GE292 := n3_; clear n0_ n1_ n2_ n3_; clear hb hbox hg; have hcz5_0 : w4.cell? ⟨gb292, 0, none⟩ = some (.int .i64 a0_0) := (blk_cell BK292.out 0).trans rfl; have hcz5_1 : w4.cell? ⟨gb292, 1, none⟩ = some (.int .i64 a0_1) := (blk_cell BK292.out 1).trans rfl; have hcz5_2 : w4.cell? ⟨gb292, 2, none⟩ = some (.int .i64 a0_2) := (blk_cell BK292.out 2).trans rfl; have hcz5_3 : w4.cell? ⟨gb292, 3, none⟩ = some (.string a0_3) := (blk_cell BK292.out 3).trans rfl; have hfz5_0 := blk_frozen BK292.out 0; have hfz5_1 := blk_frozen BK292.out 1; have hfz5_2 := blk_frozen BK292.out 2; have hfz5_3 := blk_frozen BK292.out 3))
  go_ret
  exact ⟨by first | rfl | (simp [errW_none, errW_some] <;> rfl) | (simp [*, errW_none, errW_some] <;> rfl), by repeat (first | (with_reducible first | exact HB.out | apply below_alloc | apply pw_below_drewN | apply below_drew1 | refine below_set ?_ GE292.out) | exact HB.out)⟩
 ·
  rw [if_neg c3] at H
  have c3b0 : (a0_0 == 1) = false := beq_eq_false_iff_ne.mpr c3
  have c3b1 : (a0_0 != 1) = true := bne_iff_ne.mpr c3
  by_cases c6 : a0_0 = 2
  ·
   rw [if_pos c6] at H
   have c6b0 : (a0_0 == 2) = true := beq_iff_eq.mpr c6
   have c6b1 : (a0_0 != 2) = false := bne_eq_false_iff_eq.mpr c6
   clear c6
   obtain rfl := Option.some.inj H
   go_enter Try.func61, Try.ntmps61
   go_wp2_with (first | ((with_reducible refine gate_dst (N := 2) rfl ?_); refine box_event ?hg (N := 2) ?hd (cs := #[.int .i64 a0_0, .int .i64 a0_1, .int .i64 a0_2, .string a0_3]) (t := 26) ?hr ?_; (case hd => rfl); (case hg => rfl); (case hr => first | (go_simp; done) | (go_simp; rfl)); intro gb292 hg w7 hbox hb; have n0_ := Aside0.mk (below_step (by repeat (first | (with_reducible first | exact HB.out | apply below_alloc | apply pw_below_drewN | apply below_drew1) | exact HB.out)) hb); have n1_ := Aside0.mk (hbox); have n2_ := Aside0.mk ((by rw [hg]; exact (below_size (by repeat (first | (with_reducible first | exact HB.out | apply below_alloc | apply pw_below_drewN | apply below_drew1) | exact HB.out))) : w.heap.size ≤ gb292)); have n3_ := Aside0.mk ((by rw [hg]; exact (below_size (by repeat (first | (with_reducible first | exact HB.out | apply below_alloc | apply pw_below_drewN | apply below_drew1) | exact HB.out))) : w.heap.size ≤ gb292)); clear HB; have HB := n0_; have BK292 := n1_; have GW292 := n2_; have GE292 := n3_; clear n0_ n1_ n2_ n3_; clear hb hbox hg; have hcz8_0 : w7.cell? ⟨gb292, 0, none⟩ = some (.int .i64 a0_0) := (blk_cell BK292.out 0).trans rfl; have hcz8_1 : w7.cell? ⟨gb292, 1, none⟩ = some (.int .i64 a0_1) := (blk_cell BK292.out 1).trans rfl; have hcz8_2 : w7.cell? ⟨gb292, 2, none⟩ = some (.int .i64 a0_2) := (blk_cell BK292.out 2).trans rfl; have hcz8_3 : w7.cell? ⟨gb292, 3, none⟩ = some (.string a0_3) := (blk_cell BK292.out 3).trans rfl; have hfz8_0 := blk_frozen BK292.out 0; have hfz8_1 := blk_frozen BK292.out 1; have hfz8_2 := blk_frozen BK292.out 2; have hfz8_3 := blk_frozen BK292.out 3))
   go_ret
   exact ⟨by first | rfl | (simp [errW_none, errW_some] <;> rfl) | (simp [*, errW_none, errW_some] <;> rfl), by repeat (first | (with_reducible first | exact HB.out | apply below_alloc | apply pw_below_drewN | apply below_drew1 | refine below_set ?_ GE292.out) | exact HB.out)⟩
  ·
   rw [if_neg c6] at H
   have c6b0 : (a0_0 == 2) = false := beq_eq_false_iff_ne.mpr c6
   have c6b1 : (a0_0 != 2) = true := bne_iff_ne.mpr c6
   by_cases c9 : a0_0 = 3
   ·
    rw [if_pos c9] at H
    have c9b0 : (a0_0 == 3) = true := beq_iff_eq.mpr c9
    have c9b1 : (a0_0 != 3) = false := bne_eq_false_iff_eq.mpr c9
    clear c9
    obtain rfl := Option.some.inj H
    go_enter Try.func61, Try.ntmps61
    go_wp2_with (first | ((with_reducible refine gate_dst (N := 2) rfl ?_); refine box_event ?hg (N := 2) ?hd (cs := #[.int .i64 a0_0, .int .i64 a0_1, .int .i64 a0_2, .string a0_3]) (t := 26) ?hr ?_; (case hd => rfl); (case hg => rfl); (case hr => first | (go_simp; done) | (go_simp; rfl)); intro gb292 hg w10 hbox hb; have n0_ := Aside0.mk (below_step (by repeat (first | (with_reducible first | exact HB.out | apply below_alloc | apply pw_below_drewN | apply below_drew1) | exact HB.out)) hb); have n1_ := Aside0.mk (hbox); have n2_ := Aside0.mk ((by rw [hg]; exact (below_size (by repeat (first | (with_reducible first | exact HB.out | apply below_alloc | apply pw_below_drewN | apply below_drew1) | exact HB.out))) : w.heap.size ≤ gb292)); have n3_ := Aside0.mk ((by rw [hg]; exact (below_size (by repeat (first | (with_reducible first | exact HB.out | apply below_alloc | apply pw_below_drewN | apply below_drew1) | exact HB.out))) : w.heap.size ≤ gb292)); clear HB; have HB := n0_; have BK292 := n1_; have GW292 := n2_; have GE292 := n3_; clear n0_ n1_ n2_ n3_; clear hb hbox hg; have hcz11_0 : w10.cell? ⟨gb292, 0, none⟩ = some (.int .i64 a0_0) := (blk_cell BK292.out 0).trans rfl; have hcz11_1 : w10.cell? ⟨gb292, 1, none⟩ = some (.int .i64 a0_1) := (blk_cell BK292.out 1).trans rfl; have hcz11_2 : w10.cell? ⟨gb292, 2, none⟩ = some (.int .i64 a0_2) := (blk_cell BK292.out 2).trans rfl; have hcz11_3 : w10.cell? ⟨gb292, 3, none⟩ = some (.string a0_3) := (blk_cell BK292.out 3).trans rfl; have hfz11_0 := blk_frozen BK292.out 0; have hfz11_1 := blk_frozen BK292.out 1; have hfz11_2 := blk_frozen BK292.out 2; have hfz11_3 := blk_frozen BK292.out 3))
    go_ret
    exact ⟨by first | rfl | (simp [errW_none, errW_some] <;> rfl) | (simp [*, errW_none, errW_some] <;> rfl), by repeat (first | (with_reducible first | exact HB.out | apply below_alloc | apply pw_below_drewN | apply below_drew1 | refine below_set ?_ GE292.out) | exact HB.out)⟩
   ·
    rw [if_neg c9] at H
    have c9b0 : (a0_0 == 3) = false := beq_eq_false_iff_ne.mpr c9
    have c9b1 : (a0_0 != 3) = true := bne_iff_ne.mpr c9
    replace H := Option.bind_eq_some_iff.mp H
    obtain ⟨t293, A120, H⟩ := H
    replace H : (some t293) = some r := H
    have A12 := Aside0.mk A120
    clear A120
    obtain rfl := Option.some.inj H
    go_enter Try.func61, Try.ntmps61
    go_wp2_with (first | ((with_reducible refine gate_dst (N := 2) rfl ?_); refine box_event ?hg (N := 2) ?hd (cs := #[.int .i64 a0_0, .int .i64 a0_1, .int .i64 a0_2, .string a0_3]) (t := 26) ?hr ?_; (case hd => rfl); (case hg => rfl); (case hr => first | (go_simp; done) | (go_simp; rfl)); intro gb292 hg w13 hbox hb; have n0_ := Aside0.mk (below_step (by repeat (first | (with_reducible first | exact HB.out | apply below_alloc | apply pw_below_drewN | apply below_drew1) | exact HB.out)) hb); have n1_ := Aside0.mk (hbox); have n2_ := Aside0.mk ((by rw [hg]; exact (below_size (by repeat (first | (with_reducible first | exact HB.out | apply below_alloc | apply pw_below_drewN | apply below_drew1) | exact HB.out))) : w.heap.size ≤ gb292)); have n3_ := Aside0.mk ((by rw [hg]; exact (below_size (by repeat (first | (with_reducible first | exact HB.out | apply below_alloc | apply pw_below_drewN | apply below_drew1) | exact HB.out))) : w.heap.size ≤ gb292)); clear HB; have HB := n0_; have BK292 := n1_; have GW292 := n2_; have GE292 := n3_; clear n0_ n1_ n2_ n3_; clear hb hbox hg; have hcz14_0 : w13.cell? ⟨gb292, 0, none⟩ = some (.int .i64 a0_0) := (blk_cell BK292.out 0).trans rfl; have hcz14_1 : w13.cell? ⟨gb292, 1, none⟩ = some (.int .i64 a0_1) := (blk_cell BK292.out 1).trans rfl; have hcz14_2 : w13.cell? ⟨gb292, 2, none⟩ = some (.int .i64 a0_2) := (blk_cell BK292.out 2).trans rfl; have hcz14_3 : w13.cell? ⟨gb292, 3, none⟩ = some (.string a0_3) := (blk_cell BK292.out 3).trans rfl; have hfz14_0 := blk_frozen BK292.out 0; have hfz14_1 := blk_frozen BK292.out 1; have hfz14_2 := blk_frozen BK292.out 2; have hfz14_3 := blk_frozen BK292.out 3) | ((with_reducible refine gate_callee (f := 88) rfl ?_); refine goesL_ (some 19) rfl rfl Try.func88 (by kernel_rfl) rfl #[.string a1, .string a0_3] rfl (by (try simp only [List.map_toArray, List.map_cons, List.map_nil]); first | done | rfl | (simp only [List.length_drop, List.length_take]; rfl)) ?_; (with_reducible refine (impl_xored.calls a1 a0_3 t293 _ A12.out).mono ?_); rintro e w15 ⟨rfl, hb⟩; refine ⟨_, rfl, ?_⟩; have n0_ := Aside0.mk (blk_below (g := gb292) (o := .cells #[.int .i64 a0_0, .int .i64 a0_1, .int .i64 a0_2, .string a0_3] 26 (0, 0)) (by (with_reducible repeat (first | refine blk_drewN ?_ _ | refine blk_drew ?_ | refine blk_alloc ?_ _)); exact BK292.out) hb); have n1_ := Aside0.mk (below_step (by repeat (first | (with_reducible first | exact HB.out | apply below_alloc | apply pw_below_drewN | apply below_drew1 | refine below_set ?_ GE292.out) | exact HB.out)) hb); clear BK292; clear HB; have BK292 := n0_; have HB := n1_; clear n0_ n1_; (try clear hb); (try clear hb2); (try clear hk); (try clear hi)))
    go_ret
    exact ⟨by first | rfl | (simp [errW_none, errW_some] <;> rfl) | (simp [*, errW_none, errW_some] <;> rfl), by repeat (first | (with_reducible first | exact HB.out | apply below_alloc | apply pw_below_drewN | apply below_drew1 | refine below_set ?_ GE292.out) | exact HB.out)⟩

/-! ### impl_touches: function 91 -/
def impl_touches.is (b : Int) (x : S26) : Bool := x.f0 != 5 && x.f1 == b
def impl_touches.f (l0 : List S26) (a1 : Int) : Option Int := if l0.length ≤ 9223372036854775807 then some (idxFrom (impl_touches.is a1) l0 0) else none
theorem impl_touches.pred (a1 : Int) (gb : Nat) (W0 W : World) (hc : W0.cell? ⟨gb, 0, none⟩ = some (.int .i64 a1)) (hB : Below W0.heap.size W0 W) (x : S26) :
  Calls Try.prog 105 (#[.agg #[.int .i64 x.f0, .int .i64 x.f1, .int .i64 x.f2, .string x.f3]] ++ #[.pointer (some ⟨gb, 0, none⟩)]) W fun e w' => e = .returned (.bool (impl_touches.is a1 x)) ∧ Below W0.heap.size W0 w' := by
 have hc' := (hB.cell (World.block_lt_of_cell? _ _ hc)).trans hc
 have hc2 : ∀ o, (W.alloc o).cell? ⟨gb, 0, none⟩ = some (.int .i64 a1) := fun o => (Below.cell (below_alloc (Below.refl _ W) o) (World.block_lt_of_cell? _ _ hc')).trans hc'
 show Calls Try.prog 105 #[.agg #[.int .i64 x.f0, .int .i64 x.f1, .int .i64 x.f2, .string x.f3], .pointer (some ⟨gb, 0, none⟩)] W _
 have HB := Aside0.mk hB
 clear hB hc
 unfold impl_touches.is
 rcases (show ((x.f0 == 5) = true ∧ (x.f0 != 5) = false) ∨ ((x.f0 == 5) = false ∧ (x.f0 != 5) = true) by by_cases h : x.f0 = 5 <;> simp [h]) with ⟨b0, b1⟩ | ⟨b0, b1⟩
 all_goals
  go_enter Try.func105, Try.ntmps105
  go_wp2
  go_ret
  exact ⟨by first | rfl | (simp only [b1, Bool.true_and, Bool.false_and]; rfl), by repeat (first | exact HB.out | apply pw_below_drewN | apply below_drew1 | apply below_alloc)⟩
theorem impl_touches.calls (A0 : Option Addr) (c0 : Nat) (l0 : List S26) (a1 : Int) (r : Int) (w : World) (hr0 : Kd.C k26 w A0 l0.length l0) (hc0 : l0.length ≤ c0) (h : impl_touches.f l0 a1 = some r) :
  Calls Try.prog 91 #[.slice A0 l0.length c0, .int .i64 a1] w fun e w' => e = .returned (.int .i64 r) ∧ Below w.heap.size w w' := by
 unfold impl_touches.f at h
 by_cases hbig : l0.length ≤ 9223372036854775807
 ·
  rw [if_pos hbig] at h
  obtain rfl := Option.some.inj h
  clear h
  have eg : ∀ args w, (callFunc 105 args).run Try.prog w = .ok (.enter 105 args) w := enters_of Try.func105 (by kernel_rfl) rfl
  have hcon := fun (W : World) (hR : Kd.C k26 W A0 l0.length l0) (gb : Nat) (hc : W.cell? ⟨gb, 0, none⟩ = some (.int .i64 a1)) => slices_IndexFunc_26.calls (fun W' => Below W.heap.size W W') (impl_touches.is a1) 105 #[.pointer (some ⟨gb, 0, none⟩)] eg A0 c0 l0 W hR hc0 hbig (Below.refl _ _) (fun _ h => h) (fun W' hb x _ => impl_touches.pred a1 gb W W' hc hb x)
  have HR0 := Aside0.mk hr0
  clear hr0
  go_enter Try.func91, Try.ntmps91
  go_wp2_with (go_at_call 104; refine (hcon _ (by repeat (first | exact HR0.out | (with_reducible refine Kd.C_alloc ?_ _) | (with_reducible refine Kd.C_drewN ?_ _) | (with_reducible refine Kd.C_drew ?_))) _ (by go_simp)).mono ?_; rintro e w' ⟨rfl, hb'⟩)
  go_ret
  exact ⟨rfl, below_step (by repeat (first | exact Below.refl _ _ | apply pw_below_drewN | apply below_drew1 | apply below_alloc)) hb'⟩
 ·
  rw [if_neg hbig] at h; cases h


/-! ### impl_stepsCode: function 62 -/
set_option maxHeartbeats 8000000 in
theorem slices_ContainsFunc_26.calls (I : World → Prop) (p : S26 → Bool) (g : Nat) (cap : Array Value) (eg : ∀ args w, (callFunc g args).run Try.prog w = .ok (.enter g args) w) (Ad : Option Addr) (c : Nat) (l : List S26) (w : World)
  (hR : Kd.C k26 w Ad l.length l) (hc : l.length ≤ c) (hbig : l.length ≤ 9223372036854775807) (hw : I w) (hI : ∀ W, I W → Below w.heap.size w W)
  (hp : ∀ (W : World), I W → ∀ x ∈ l, Calls Try.prog g (#[.agg #[.int .i64 x.f0, .int .i64 x.f1, .int .i64 x.f2, .string x.f3]] ++ cap) W fun e w' => e = .returned (.bool (p x)) ∧ I w') :
  Calls Try.prog 89 #[.slice Ad l.length c, .func (.func g) #[] cap] w fun e w' => e = .returned (.bool (l.any p)) ∧ I w' := by
 have hcon := slices_IndexFunc_26.calls I p g cap eg Ad c l w hR hc hbig hw hI hp
 have hn := Aside0.mk (idxFrom_nonneg p l 0 (by omega))
 clear hp hR
 generalize idxFrom p l 0 = r at hcon hn
 go_enter Try.func89, Try.ntmps89
 go_wp2_with (go_at_call 104; refine hcon.mono ?_; rintro e w' ⟨rfl, hb'⟩)
 go_ret
 refine ⟨?_, hb'⟩
 have : decide (0 ≤ r) = l.any p := by rw [Bool.eq_iff_iff, decide_eq_true_iff]; exact hn.out
 rw [← this]; rfl

def impl_stepsCode.ok (k : Nat) (n : Int) (x : S26) : Option Bool := impl_isStep.f k x.f0 x.f1 x.f2 x.f3 n
def impl_stepsCode.bad (k : Nat) (n : Int) (x : S26) : Bool := !((impl_stepsCode.ok k n x).getD false)
def impl_stepsCode.scan (L : List S26) : List S26 → Int → Int → Bool → Int
 | [], _, _, up => if up = true then 0 else 8
 | x :: r, i, label, up => if x.f0 = 5 then impl_stepsCode.scan L r (i + 1) x.f2 (up && decide (label < x.f2)) else if idxFrom (impl_touches.is x.f1) L 0 < i then 12 else impl_stepsCode.scan L r (i + 1) label up
def impl_stepsCode.form (k : Nat) (l0 : List S26) (n : Int) : Bool := decide (1 ≤ n ∧ n ≤ 8) && decide ((l0.length : Int) ≤ 20) && !(l0.any (impl_stepsCode.bad k n))
def impl_stepsCode.f (k : Nat) (l0 : List S26) (a1 : Int) : Option Int :=
 if l0.length ≤ 9223372036854775807 ∧ ((1 ≤ a1 ∧ a1 ≤ 8) → (l0.length : Int) ≤ 20 → ∀ x ∈ l0, (impl_stepsCode.ok k a1 x).isSome = true) then
  some (if impl_stepsCode.form k l0 a1 = true then impl_stepsCode.scan l0 l0 0 (-1) true else 1) else none
theorem impl_stepsCode.mono : ∀ a0 a1 k, LeO (impl_stepsCode.f k a0 a1) (impl_stepsCode.f (k + 1) a0 a1) := by
 intro a0 a1 k r h
 unfold impl_stepsCode.f at h ⊢
 by_cases hc : a0.length ≤ 9223372036854775807 ∧ ((1 ≤ a1 ∧ a1 ≤ 8) → (a0.length : Int) ≤ 20 → ∀ x ∈ a0, (impl_stepsCode.ok k a1 x).isSome = true)
 ·
  rw [if_pos hc] at h
  have e : ∀ x : S26, (impl_stepsCode.ok k a1 x).isSome = true → impl_stepsCode.ok (k + 1) a1 x = impl_stepsCode.ok k a1 x := by
   intro x hx
   obtain ⟨v, hv⟩ := Option.isSome_iff_exists.1 hx
   rw [hv]
   exact impl_isStep.mono _ _ _ _ _ _ _ hv
  rw [if_pos ⟨hc.1, fun h1 h2 x hx => by rw [e x (hc.2 h1 h2 x hx)]; exact hc.2 h1 h2 x hx⟩, ← h]
  have ef : impl_stepsCode.form (k + 1) a0 a1 = impl_stepsCode.form k a0 a1 := by
   unfold impl_stepsCode.form
   by_cases h1 : 1 ≤ a1 ∧ a1 ≤ 8
   ·
    by_cases h2 : (a0.length : Int) ≤ 20
    ·
     have ea : a0.any (impl_stepsCode.bad (k + 1) a1) = a0.any (impl_stepsCode.bad k a1) := by
      rw [Bool.eq_iff_iff, List.any_eq_true, List.any_eq_true]
      constructor
      ·
       rintro ⟨x, hx, hb⟩; exact ⟨x, hx, by unfold impl_stepsCode.bad at hb ⊢; rw [e x (hc.2 h1 h2 x hx)] at hb; exact hb⟩
      ·
       rintro ⟨x, hx, hb⟩; exact ⟨x, hx, by unfold impl_stepsCode.bad at hb ⊢; rw [e x (hc.2 h1 h2 x hx)]; exact hb⟩
     rw [ea]
    ·
     simp [h2]
   ·
    simp [h1]
  rw [ef]
 ·
  rw [if_neg hc] at h; cases h
theorem impl_stepsCode.pred (k : Nat) (a1 : Int) (gb : Nat) (W0 W : World) (hc : W0.cell? ⟨gb, 0, none⟩ = some (.int .i64 a1)) (hB : Below W0.heap.size W0 W) (x : S26) (hs : (impl_stepsCode.ok k a1 x).isSome = true) :
  Calls Try.prog 90 (#[.agg #[.int .i64 x.f0, .int .i64 x.f1, .int .i64 x.f2, .string x.f3]] ++ #[.pointer (some ⟨gb, 0, none⟩)]) W fun e w' => e = .returned (.bool (impl_stepsCode.bad k a1 x)) ∧ Below W0.heap.size W0 w' := by
 have hc' := (hB.cell (World.block_lt_of_cell? _ _ hc)).trans hc
 have hc2 : ∀ o, (W.alloc o).cell? ⟨gb, 0, none⟩ = some (.int .i64 a1) := fun o => (Below.cell (below_alloc (Below.refl _ W) o) (World.block_lt_of_cell? _ _ hc')).trans hc'
 obtain ⟨v, hv⟩ := Option.isSome_iff_exists.1 hs
 have hcall := fun W => impl_isStep.calls k x.f0 x.f1 x.f2 x.f3 a1 v W hv
 have e : impl_stepsCode.bad k a1 x = !v := by unfold impl_stepsCode.bad; rw [hv]; rfl
 rw [e]
 show Calls Try.prog 90 #[.agg #[.int .i64 x.f0, .int .i64 x.f1, .int .i64 x.f2, .string x.f3], .pointer (some ⟨gb, 0, none⟩)] W _
 have HB := Aside0.mk hB
 clear hB hc hv hs e
 go_enter Try.func90, Try.ntmps90
 go_wp2_with (go_at_call 52; refine (hcall _).mono ?_; rintro e w' ⟨rfl, hb'⟩)
 go_ret
 exact ⟨rfl, below_then (by repeat (first | exact HB.out | apply pw_below_drewN | apply below_drew1 | apply below_alloc)) (by exact (below_size (by repeat (first | exact HB.out | apply pw_below_drewN | apply below_drew1 | apply below_alloc)))) hb'⟩
set_option maxHeartbeats 8000000 in
set_option maxRecDepth 100000 in
theorem impl_stepsCode.calls (k : Nat) (A0 : Option Addr) (c0 : Nat) (l0 : List S26) (a1 : Int) (r : Int) (w : World) (hr0 : Kd.C k26 w A0 l0.length l0) (hc0 : l0.length ≤ c0) (h : impl_stepsCode.f k l0 a1 = some r) :
  Calls Try.prog 62 #[.slice A0 l0.length c0, .int .i64 a1] w fun e w' => e = .returned (.int .i64 r) ∧ Below w.heap.size w w' := by
 unfold impl_stepsCode.f at h
 by_cases hc : l0.length ≤ 9223372036854775807 ∧ ((1 ≤ a1 ∧ a1 ≤ 8) → (l0.length : Int) ≤ 20 → ∀ x ∈ l0, (impl_stepsCode.ok k a1 x).isSome = true)
 ·
  rw [if_pos hc] at h
  obtain ⟨hbig, hs⟩ := hc
  obtain rfl := Option.some.inj h
  clear h
  have HR0 := Aside0.mk hr0
  have HC0 := Aside0.mk hc0
  have HBIG := Aside0.mk hbig
  have hb : ∀ d : Bool, decide (1 ≤ a1 ∧ a1 ≤ 8) = d → impl_isBlocks.f a1 = some d := by
   intro d hd
   rw [← hd]
   unfold impl_isBlocks.f impl_within.f
   by_cases h1 : a1 ≥ 1
   ·
    rw [if_pos h1, Option.bind_some]; congr 1; rw [Bool.eq_iff_iff]; simp; omega
   ·
    rw [if_neg h1, Option.bind_some]; congr 1; rw [eq_comm, decide_eq_false_iff_not]; omega
  unfold impl_stepsCode.form
  by_cases h1 : 1 ≤ a1 ∧ a1 ≤ 8
  ·
   have HD := Aside0.mk (hb true (decide_eq_true h1))
   rw [decide_eq_true h1, Bool.true_and]
   by_cases h2 : (l0.length : Int) ≤ 20
   ·
    have h2b : decide ((l0.length : Int) > 20) = false := decide_eq_false (by omega)
    rw [decide_eq_true h2, Bool.true_and]
    have eg : ∀ args w, (callFunc 90 args).run Try.prog w = .ok (.enter 90 args) w := enters_of Try.func90 (by kernel_rfl) rfl
    have hcon := fun (W : World) (hR : Kd.C k26 W A0 l0.length l0) (gb : Nat) (hc : W.cell? ⟨gb, 0, none⟩ = some (.int .i64 a1)) => slices_ContainsFunc_26.calls (fun W' => Below W.heap.size W W') (impl_stepsCode.bad k a1) 90 #[.pointer (some ⟨gb, 0, none⟩)] eg A0 c0 l0 W hR hc0 hbig (Below.refl _ _) (fun _ h => h) (fun W' hb x hx => impl_stepsCode.pred k a1 gb W W' hc hb x (hs h1 h2 x hx))
    clear hb hs hr0 hc0 h1 hbig h2
    generalize l0.any (impl_stepsCode.bad k a1) = v at hcon ⊢
    cases v with
    | true =>
     go_enter Try.func62, Try.ntmps62
     go_wp2_with (first
      | (go_at_call 51; refine (impl_isBlocks.calls _ _ _ HD.out).mono ?_; rintro e w1 ⟨rfl, ⟨n1, rfl⟩⟩)
      | (go_at_call 89; refine (hcon _ (by repeat (first | exact HR0.out | (with_reducible refine Kd.C_alloc ?_ _) | (with_reducible refine Kd.C_drewN ?_ _) | (with_reducible refine Kd.C_drew ?_))) _ (by go_simp)).mono ?_; rintro e w' ⟨rfl, hb'⟩))
     go_ret
     exact ⟨rfl, below_step (by repeat (first | exact Below.refl _ _ | apply pw_below_drewN | apply below_drew1 | apply below_alloc)) hb'⟩
    | false =>
     go_enter Try.func62, Try.ntmps62
     go_wp2_with (first
      | (go_at_call 51; refine (impl_isBlocks.calls _ _ _ HD.out).mono ?_; rintro e w1 ⟨rfl, ⟨n1, rfl⟩⟩)
      | (go_at_call 89; refine (hcon _ (by repeat (first | exact HR0.out | (with_reducible refine Kd.C_alloc ?_ _) | (with_reducible refine Kd.C_drewN ?_ _) | (with_reducible refine Kd.C_drew ?_))) _ (by go_simp)).mono ?_; rintro e w' ⟨rfl, hb'⟩; have HB := Aside0.mk (show Below w.heap.size w w' from below_step (by repeat (first | exact Below.refl _ _ | apply pw_below_drewN | apply below_drew1 | apply below_alloc)) hb'); clear hb' hcon))
     clear eg h2b HD
     go_loopg [5, 6, 7, 8, 24] l0.length (fun gg v5 v6 _ _ v24 wr => ∃ (kk : Nat) (lb : Int) (up : Bool), v5 = .int .i64 lb ∧ v6 = .bool up ∧ v24 = .int .i64 kk ∧ Aside0 (kk ≤ l0.length) ∧ Aside0 (l0.length - kk ≤ gg) ∧ Aside0 (Below w.heap.size w wr) ∧ Aside0 (impl_stepsCode.scan l0 l0 0 (-1) true = impl_stepsCode.scan l0 (l0.drop kk) kk lb up))
     case atStart => exact ⟨0, -1, true, rfl, rfl, rfl, ⟨Nat.zero_le _⟩, ⟨Nat.le_refl _⟩, HB, ⟨rfl⟩⟩
     case round =>
      clear HB
      obtain ⟨kk, lb, up, rfl, rfl, rfl, HK, HG, HB, HS⟩ := hrel
      by_cases hlt : kk < l0.length
      ·
       have hltz : decide ((kk : Int) < (l0.length : Int)) = true := decide_eq_true (by omega)
       have p0 : (0 : Int) ≤ (kk : Int) := by omega
       have q0 : (kk : Int) < (l0.length : Int) := by omega
       obtain ⟨ad, rfl, hx0, hx1, hx2, hx3⟩ := at_T26 HR0.out (kk : Int) p0 q0
       have hy : rd_T26 l0 (kk : Int) = l0[kk] := by simp [rd_T26, hlt]
       rw [hy] at hx0; replace hx0 := (HB.out.cell (World.block_lt_of_cell? _ _ hx0)).trans hx0; simp only [Int.toNat_natCast] at hx0
       rw [hy] at hx1; replace hx1 := (HB.out.cell (World.block_lt_of_cell? _ _ hx1)).trans hx1; simp only [Int.toNat_natCast] at hx1
       rw [hy] at hx2; replace hx2 := (HB.out.cell (World.block_lt_of_cell? _ _ hx2)).trans hx2; simp only [Int.toNat_natCast] at hx2
       rw [hy] at hx3; replace hx3 := (HB.out.cell (World.block_lt_of_cell? _ _ hx3)).trans hx3; simp only [Int.toNat_natCast] at hx3
       have HS2 := HS.out
       rw [idxFrom_drop l0 kk hlt, impl_stepsCode.scan] at HS2
       clear HS hy
       generalize l0[kk] = x at hx0 hx1 hx2 hx3 HS2
       have htch : impl_touches.f l0 x.f1 = some (idxFrom (impl_touches.is x.f1) l0 0) := by unfold impl_touches.f; rw [if_pos HBIG.out]
       have e24 : wrap64 ((kk : Int) + 1) = ((kk + 1 : Nat) : Int) := by have := HBIG.out; unfold wrap64; omega
       generalize idxFrom (impl_touches.is x.f1) l0 0 = tv at htch HS2
       have HT := Aside0.mk htch
       clear htch
       by_cases h5 : x.f0 = 5
       ·
        have b0 : (x.f0 == 5) = true := beq_iff_eq.mpr h5
        have b1 : (x.f0 != 5) = false := bne_eq_false_iff_eq.mpr h5
        rw [if_pos h5] at HS2
        have HS := Aside0.mk HS2
        clear h5 HS2
        cases up with
        | true =>
         go_wp2
         go_roundg (l0.length - (kk + 1))
         case measure => have := HG.out; omega
         case rel => exact ⟨kk + 1, x.f2, decide (lb < x.f2), by rfl, by rfl, by rw [e24], ⟨by omega⟩, ⟨Nat.le_refl _⟩, ⟨by repeat (first | exact HB.out | apply pw_below_drewN | apply below_drew1 | apply below_alloc)⟩, ⟨by have e : ((kk + 1 : Nat) : Int) = (kk : Int) + 1 := (by omega); rw [HS.out, e]; simp⟩⟩
        | false =>
         go_wp2
         go_roundg (l0.length - (kk + 1))
         case measure => have := HG.out; omega
         case rel => exact ⟨kk + 1, x.f2, false, by rfl, by rfl, by rw [e24], ⟨by omega⟩, ⟨Nat.le_refl _⟩, ⟨by repeat (first | exact HB.out | apply pw_below_drewN | apply below_drew1 | apply below_alloc)⟩, ⟨by have e : ((kk + 1 : Nat) : Int) = (kk : Int) + 1 := (by omega); rw [HS.out, e]; simp⟩⟩
       ·
        have b0 : (x.f0 == 5) = false := beq_eq_false_iff_ne.mpr h5
        have b1 : (x.f0 != 5) = true := bne_iff_ne.mpr h5
        rw [if_neg h5] at HS2
        by_cases ht : tv < (kk : Int)
        ·
         have htb : decide (tv < (kk : Int)) = true := decide_eq_true ht
         rw [if_pos ht] at HS2
         have HS := Aside0.mk HS2
         clear h5 HS2 ht
         go_wp2_with (go_at_call 91; refine (impl_touches.calls _ _ l0 x.f1 tv _ (Kd.C_below HR0.out (by repeat (first | exact HB.out | apply pw_below_drewN | apply below_drew1 | apply below_alloc))) HC0.out HT.out).mono ?_; rintro e w2 ⟨rfl, hb2⟩)
         go_ret
         exact ⟨by rw [HS.out]; rfl, below_then (by repeat (first | exact HB.out | apply pw_below_drewN | apply below_drew1 | apply below_alloc)) (below_size (by repeat (first | exact HB.out | apply pw_below_drewN | apply below_drew1 | apply below_alloc))) hb2⟩
        ·
         have htb : decide (tv < (kk : Int)) = false := decide_eq_false ht
         rw [if_neg ht] at HS2
         have HS := Aside0.mk HS2
         clear h5 HS2 ht
         go_wp2_with (go_at_call 91; refine (impl_touches.calls _ _ l0 x.f1 tv _ (Kd.C_below HR0.out (by repeat (first | exact HB.out | apply pw_below_drewN | apply below_drew1 | apply below_alloc))) HC0.out HT.out).mono ?_; rintro e w2 ⟨rfl, hb2⟩)
         go_roundg (l0.length - (kk + 1))
         case measure => have := HG.out; omega
         case rel => exact ⟨kk + 1, lb, up, by rfl, by rfl, by rw [e24], ⟨by omega⟩, ⟨Nat.le_refl _⟩, ⟨below_then (by repeat (first | exact HB.out | apply pw_below_drewN | apply below_drew1 | apply below_alloc)) (below_size (by repeat (first | exact HB.out | apply pw_below_drewN | apply below_drew1 | apply below_alloc))) hb2⟩, ⟨by have e : ((kk + 1 : Nat) : Int) = (kk : Int) + 1 := (by omega); rw [HS.out, e]⟩⟩
      ·
       have hltz : decide ((kk : Int) < (l0.length : Int)) = false := decide_eq_false (by omega)
       have hk : kk = l0.length := by have := HK.out; omega
       have HS2 := HS.out
       rw [hk, List.drop_length, impl_stepsCode.scan] at HS2
       have HS := Aside0.mk HS2
       clear HS2
       cases up with
       | true =>
        go_wp2
        go_ret
        exact ⟨by rw [HS.out]; rfl, HB.out⟩
       | false =>
        go_wp2
        go_ret
        exact ⟨by rw [HS.out]; rfl, HB.out⟩
   ·
    have h2b : decide ((l0.length : Int) > 20) = true := decide_eq_true (by omega)
    rw [decide_eq_false h2]
    clear hb hs hr0 hc0 h1 hbig h2
    go_enter Try.func62, Try.ntmps62
    go_wp2_with (first
     | (go_at_call 51; refine (impl_isBlocks.calls _ _ _ HD.out).mono ?_; rintro e w1 ⟨rfl, ⟨n1, rfl⟩⟩))
    go_ret
    exact ⟨rfl, by repeat (first | exact Below.refl _ _ | apply pw_below_drewN | apply below_drew1 | apply below_alloc)⟩
  ·
   have HD := Aside0.mk (hb false (decide_eq_false h1))
   rw [decide_eq_false h1]
   clear hb hs hr0 hc0 h1 hbig
   go_enter Try.func62, Try.ntmps62
   go_wp2_with (first
    | (go_at_call 51; refine (impl_isBlocks.calls _ _ _ HD.out).mono ?_; rintro e w1 ⟨rfl, ⟨n1, rfl⟩⟩))
   go_ret
   exact ⟨rfl, by repeat (first | exact Below.refl _ _ | apply pw_below_drewN | apply below_drew1 | apply below_alloc)⟩
 ·
  rw [if_neg hc] at h; cases h


end Go.Proofs.Ytholfbdbgginpaa.Q
