/- For each Go function that the laws of this text reach: a Lean function, and the proof that the Go function returns what the Lean function tells, wherever it tells some value. Written by a program of this session. -/
import Derived.Test.YtcmoenkbckmmfaaKFnSeal0
namespace Go.Proofs.Ytcmoenkbckmmfaa.Q
open Go.RowKit Go.Proofs.YtcmoenkbckmmfaaW.PrintWords Go.Proofs.YtcmoenkbckmmfaaW.PrintLast Go.Proofs.YtcmoenkbckmmfaaW.PrintMore
attribute [local go_sem] max2_int min2_int max_two min_two max_three min_three max_four min_four Instr.field asAgg   -- for this text's walks alone
set_option linter.unusedVariables false
set_option linter.unusedSimpArgs false
/-! ### impl_Unseal: function 9 -/
def impl_Unseal.f (k : Nat) (a0 : ByteArray) : Option (ByteArray × Int × Int) := if (a0.size : Int) > 8000 then (some ((⟨#[]⟩ : ByteArray), 0, 2)) else ((impl_unseal.f k a0).bind fun bt154 => (some (bt154.1, 0, bt154.2)))
theorem impl_Unseal.mono : ∀ a0 k, LeO (impl_Unseal.f k a0) (impl_Unseal.f (k + 1) a0) := by
 intro a0 k
 unfold impl_Unseal.f
 repeat' first
   | (with_reducible exact impl_unseal.mono _ _)
   | (with_reducible exact LeO.refl _)
   | (with_reducible exact LeO.none _)
   | (with_reducible refine LeO.ite ?_ ?_)
   | (with_reducible refine LeO.bind ?_ (fun _ => ?_))
   | exact impl_unseal.mono _ _
   | exact LeO.none _
   | refine LeO.ite ?_ ?_
   | refine LeO.bind ?_ (fun _ => ?_)
set_option maxHeartbeats 8000000 in
set_option maxRecDepth 100000 in
theorem impl_Unseal.calls (k : Nat) (a0 : ByteArray) (r1 : ByteArray) (r2 : Int) (r3 : Int) (w : World) (h : impl_Unseal.f k a0 = some (r1, r2, r3)) :
  Calls Try.prog 9 #[.string a0] w fun e w' => e = .returned (.agg #[.string r1, .int .i64 r2, .int .i64 r3]) ∧ Below w.heap.size w w' := by
 have hu27 := Try.underlying27
 have HB := Aside0.mk (Below.refl w.heap.size w)
 have H : (if (a0.size : Int) > 8000 then (some ((⟨#[]⟩ : ByteArray), 0, 2)) else ((impl_unseal.f k a0).bind fun bt154 => (some (bt154.1, 0, bt154.2)))) = some (r1, r2, r3) := h
 clear h
 by_cases c2 : (a0.size : Int) > 8000
 ·
  rw [if_pos c2] at H
  have c2b0 : decide (8000 < (a0.size : Int)) = true := decide_eq_true c2
  have c2b1 : decide (8000 < a0.size) = true := decide_eq_true (by omega)
  clear c2
  simp only [Option.some.injEq, Prod.mk.injEq] at H
  obtain ⟨rfl, rfl, rfl⟩ := H
  go_enter Try.func9, Try.ntmps9
  go_wp2_with (first | ((with_reducible refine gate_dst (N := 2) rfl ?_); refine box_event ?hg (N := 2) ?hd (cs := #[.string (⟨#[]⟩ : ByteArray), .int .i64 0, .int .i64 0]) (t := 27) ?hr ?_; (case hd => rfl); (case hg => rfl); (case hr => first | (go_simp; done) | (go_simp; rfl)); intro gb153 hg w3 hbox hb; have n0_ := Aside0.mk (below_step (by repeat (first | (with_reducible first | exact HB.out | apply below_alloc | apply pw_below_drewN | apply below_drew1) | exact HB.out)) hb); have n1_ := Aside0.mk (hbox); have n2_ := Aside0.mk ((by rw [hg]; exact (below_size (by repeat (first | (with_reducible first | exact HB.out | apply below_alloc | apply pw_below_drewN | apply below_drew1) | exact HB.out))) : w.heap.size ≤ gb153)); have n3_ := Aside0.mk ((by rw [hg]; exact (below_size (by repeat (first | (with_reducible first | exact HB.out | apply below_alloc | apply pw_below_drewN | apply below_drew1) | exact HB.out))) : w.heap.size ≤ gb153)); clear HB; have HB := n0_; have BK153 := n1_; have GW153 := n2_; have GE153 := n3_; clear n0_ n1_ n2_ n3_; clear hb hbox hg; have hcz4_0 : w3.cell? ⟨gb153, 0, none⟩ = some (.string (⟨#[]⟩ : ByteArray)) := (blk_cell BK153.out 0).trans rfl; have hcz4_1 : w3.cell? ⟨gb153, 1, none⟩ = some (.int .i64 0) := (blk_cell BK153.out 1).trans rfl; have hcz4_2 : w3.cell? ⟨gb153, 2, none⟩ = some (.int .i64 0) := (blk_cell BK153.out 2).trans rfl; have hfz4_0 := blk_frozen BK153.out 0; have hfz4_1 := blk_frozen BK153.out 1; have hfz4_2 := blk_frozen BK153.out 2))
  refine bodyPost_ret (results_cell_row rfl _ _ gb153 27 #[.string (⟨#[]⟩ : ByteArray), .int .i64 0, .int .i64 2] (0, 0) _ rfl (by (with_reducible repeat (first | refine blk_drewN ?_ _ | refine blk_drew ?_ | refine blk_alloc ?_ _)); refine blk_put (cs := #[.string (⟨#[]⟩ : ByteArray), .int .i64 0, .int .i64 0]) ?_ 2 _ rfl; (with_reducible repeat (first | refine blk_drewN ?_ _ | refine blk_drew ?_ | refine blk_alloc ?_ _)); refine blk_put (cs := #[.string (⟨#[]⟩ : ByteArray), .int .i64 0, .int .i64 0]) ?_ 1 _ rfl; (with_reducible repeat (first | refine blk_drewN ?_ _ | refine blk_drew ?_ | refine blk_alloc ?_ _)); refine blk_put (cs := #[.string (⟨#[]⟩ : ByteArray), .int .i64 0, .int .i64 0]) ?_ 0 _ rfl; (with_reducible repeat (first | refine blk_drewN ?_ _ | refine blk_drew ?_ | refine blk_alloc ?_ _)); exact BK153.out) Try.underlying27 rfl (by kernel_rfl)) rfl ?_
  exact ⟨by first | rfl | (simp [errW_none, errW_some] <;> rfl) | (simp [*, errW_none, errW_some] <;> rfl), by repeat (first | (with_reducible first | exact HB.out | apply below_alloc | apply pw_below_drewN | apply below_drew1 | refine below_set ?_ GE153.out) | exact HB.out)⟩
 ·
  rw [if_neg c2] at H
  have c2b0 : decide (8000 < (a0.size : Int)) = false := decide_eq_false c2
  have c2b1 : decide (8000 < a0.size) = false := decide_eq_false (by omega)
  clear c2
  replace H := Option.bind_eq_some_iff.mp H
  obtain ⟨⟨t154, t155⟩, A50, H⟩ := H
  replace H : (some (t154, 0, t155)) = some (r1, r2, r3) := H
  have A5 := Aside0.mk A50
  clear A50
  simp only [Option.some.injEq, Prod.mk.injEq] at H
  obtain ⟨rfl, rfl, rfl⟩ := H
  go_enter Try.func9, Try.ntmps9
  go_wp2_with (first | ((with_reducible refine gate_dst (N := 2) rfl ?_); refine box_event ?hg (N := 2) ?hd (cs := #[.string (⟨#[]⟩ : ByteArray), .int .i64 0, .int .i64 0]) (t := 27) ?hr ?_; (case hd => rfl); (case hg => rfl); (case hr => first | (go_simp; done) | (go_simp; rfl)); intro gb153 hg w6 hbox hb; have n0_ := Aside0.mk (below_step (by repeat (first | (with_reducible first | exact HB.out | apply below_alloc | apply pw_below_drewN | apply below_drew1) | exact HB.out)) hb); have n1_ := Aside0.mk (hbox); have n2_ := Aside0.mk ((by rw [hg]; exact (below_size (by repeat (first | (with_reducible first | exact HB.out | apply below_alloc | apply pw_below_drewN | apply below_drew1) | exact HB.out))) : w.heap.size ≤ gb153)); have n3_ := Aside0.mk ((by rw [hg]; exact (below_size (by repeat (first | (with_reducible first | exact HB.out | apply below_alloc | apply pw_below_drewN | apply below_drew1) | exact HB.out))) : w.heap.size ≤ gb153)); clear HB; have HB := n0_; have BK153 := n1_; have GW153 := n2_; have GE153 := n3_; clear n0_ n1_ n2_ n3_; clear hb hbox hg) | ((with_reducible refine gate_callee (f := 38) rfl ?_); refine goesL_ (some 11) rfl rfl Try.func38 (by kernel_rfl) rfl #[.string a0] rfl (by (try simp only [List.map_toArray, List.map_cons, List.map_nil]); first | done | rfl | (simp only [List.length_drop, List.length_take]; rfl)) ?_; (with_reducible refine (impl_unseal.calls k a0 t154 t155 _ A5.out).mono ?_); rintro e w7 ⟨rfl, hb⟩; refine ⟨_, rfl, ?_⟩; have n0_ := Aside0.mk (blk_below (g := gb153) (o := .cells #[.string (⟨#[]⟩ : ByteArray), .int .i64 0, .int .i64 0] 27 (0, 0)) (by (with_reducible repeat (first | refine blk_drewN ?_ _ | refine blk_drew ?_ | refine blk_alloc ?_ _)); exact BK153.out) hb); have n1_ := Aside0.mk (below_step (by repeat (first | (with_reducible first | exact HB.out | apply below_alloc | apply pw_below_drewN | apply below_drew1 | refine below_set ?_ GE153.out) | exact HB.out)) hb); clear BK153; clear HB; have BK153 := n0_; have HB := n1_; clear n0_ n1_; (try clear hb); (try clear hb2); (try clear hk); (try clear hi); have hcz8_0 : w7.cell? ⟨gb153, 0, none⟩ = some (.string (⟨#[]⟩ : ByteArray)) := (blk_cell BK153.out 0).trans rfl; have hcz8_1 : w7.cell? ⟨gb153, 1, none⟩ = some (.int .i64 0) := (blk_cell BK153.out 1).trans rfl; have hcz8_2 : w7.cell? ⟨gb153, 2, none⟩ = some (.int .i64 0) := (blk_cell BK153.out 2).trans rfl; have hfz8_0 := blk_frozen BK153.out 0; have hfz8_1 := blk_frozen BK153.out 1; have hfz8_2 := blk_frozen BK153.out 2))
  refine bodyPost_ret (results_cell_row rfl _ _ gb153 27 #[.string t154, .int .i64 0, .int .i64 t155] (0, 0) _ rfl (by (with_reducible repeat (first | refine blk_drewN ?_ _ | refine blk_drew ?_ | refine blk_alloc ?_ _)); refine blk_put (cs := #[.string t154, .int .i64 0, .int .i64 0]) ?_ 2 _ rfl; (with_reducible repeat (first | refine blk_drewN ?_ _ | refine blk_drew ?_ | refine blk_alloc ?_ _)); refine blk_put (cs := #[.string t154, .int .i64 0, .int .i64 0]) ?_ 1 _ rfl; (with_reducible repeat (first | refine blk_drewN ?_ _ | refine blk_drew ?_ | refine blk_alloc ?_ _)); refine blk_put (cs := #[.string (⟨#[]⟩ : ByteArray), .int .i64 0, .int .i64 0]) ?_ 0 _ rfl; (with_reducible repeat (first | refine blk_drewN ?_ _ | refine blk_drew ?_ | refine blk_alloc ?_ _)); exact BK153.out) Try.underlying27 rfl (by kernel_rfl)) rfl ?_
  exact ⟨by first | rfl | (simp [errW_none, errW_some] <;> rfl) | (simp [*, errW_none, errW_some] <;> rfl), by repeat (first | (with_reducible first | exact HB.out | apply below_alloc | apply pw_below_drewN | apply below_drew1 | refine below_set ?_ GE153.out) | exact HB.out)⟩

/-! ### spec_l01Src_edge: function 39 -/
def spec_l01Src_edge.f (s0_0 : List Int) (s0_1 : Int) (s0_2 : Int) (s0_3 : Int) : Option (Int × Int × Int × Int) := (some (([0, 1, (-1), 2, 1000, 1001, 2147483648, 2147483647, (-2147483648), 4611686018427387904, 9223372036854775807, (-9223372036854775808), 1000000, 1000001] : List Int) : List Int)).bind fun y156 => ((spec_l01Src_n.f s0_0 s0_1 s0_2 s0_3 14).bind fun bt159 => (if 0 ≤ bt159.1 then (if bt159.1 < (y156.length : Int) then (some (rd y156 bt159.1, bt159.2.1, bt159.2.2.1, bt159.2.2.2)) else (none)) else (none)))
set_option maxHeartbeats 8000000 in
set_option maxRecDepth 100000 in
theorem spec_l01Src_edge.calls (g : Nat) (s0_0 : List Int) (s0_1 : Int) (s0_2 : Int) (s0_3 : Int) (r1 : Int) (r2 : Int) (r3 : Int) (r4 : Int) (w0 w : World) (hI : IsS66 w0 w g s0_0 s0_1 s0_2 s0_3) (hB : Below w0.heap.size w0 w) (h : spec_l01Src_edge.f s0_0 s0_1 s0_2 s0_3 = some (r1, r2, r3, r4)) :
  Calls Try.prog 39 #[.pointer (some ⟨g, 0, none⟩)] w fun e w' => e = .returned (.int .i64 r1) ∧ IsS66 w0 w' g s0_0 r2 r3 r4 ∧ Below w0.heap.size w0 w' ∧ KeepBut w w' g none := by
 have HI0 := Aside0.mk hI
 have HK := Aside0.mk (KeepBut.refl w g none)
 have HL := Aside0.mk hB.size
 clear hI
 have HW0 := Aside0.mk hB.size
 have HB := Aside0.mk hB
 clear hB
 have H : ((some (([0, 1, (-1), 2, 1000, 1001, 2147483648, 2147483647, (-2147483648), 4611686018427387904, 9223372036854775807, (-9223372036854775808), 1000000, 1000001] : List Int) : List Int)).bind fun y156 => ((spec_l01Src_n.f s0_0 s0_1 s0_2 s0_3 14).bind fun bt159 => (if 0 ≤ bt159.1 then (if bt159.1 < (y156.length : Int) then (some (rd y156 bt159.1, bt159.2.1, bt159.2.2.1, bt159.2.2.2)) else (none)) else (none)))) = some (r1, r2, r3, r4) := h
 clear h
 obtain ⟨y156, hy156⟩ : ∃ y_ : List Int, y_ = (([0, 1, (-1), 2, 1000, 1001, 2147483648, 2147483647, (-2147483648), 4611686018427387904, 9223372036854775807, (-9223372036854775808), 1000000, 1000001] : List Int)) := ⟨_, rfl⟩
 replace H : ((spec_l01Src_n.f s0_0 s0_1 s0_2 s0_3 14).bind fun bt159 => (if 0 ≤ bt159.1 then (if bt159.1 < (y156.length : Int) then (some (rd y156 bt159.1, bt159.2.1, bt159.2.2.1, bt159.2.2.2)) else (none)) else (none))) = some (r1, r2, r3, r4) := by first | (rw [hy156]; with_reducible exact H) | (have H2_ := (Option.bind_some _ _).symm.trans H; rw [hy156]; with_reducible exact H2_) | (have H2_ := (Option.bind_some _ _).symm.trans H; with_reducible exact H2_) | with_reducible exact H | (rw [hy156]; exact H) | exact H
 have Ny156 := Aside0.mk hy156
 clear hy156
 replace H := Option.bind_eq_some_iff.mp H
 obtain ⟨⟨t159, t160, t161, t162⟩, A20, H⟩ := H
 replace H : (if 0 ≤ t159 then (if t159 < (y156.length : Int) then (some (rd y156 t159, t160, t161, t162)) else (none)) else (none)) = some (r1, r2, r3, r4) := H
 have A2 := Aside0.mk A20
 clear A20
 by_cases c3 : 0 ≤ t159
 ·
  rw [if_pos c3] at H
  have c3b0 : decide (0 ≤ t159) = true := decide_eq_true c3
  clear c3
  by_cases c4 : t159 < (y156.length : Int)
  ·
   rw [if_pos c4] at H
   have c4b0 : decide (t159 < (y156.length : Int)) = true := decide_eq_true c4
   clear c4
   simp only [Option.some.injEq, Prod.mk.injEq] at H
   obtain ⟨rfl, rfl, rfl, rfl⟩ := H
   go_enter Try.func39, Try.ntmps39
   go_wp2_with (first | ((with_reducible refine gate_dst (N := 3) rfl ?_); refine Kd.R_lit (Kd.int .i64) _ 2 ?hg (N := 3) ?hd (xs := ([0, 1, (-1), 2, 1000, 1001, 2147483648, 2147483647, (-2147483648), 4611686018427387904, 9223372036854775807, (-9223372036854775808), 1000000, 1000001] : List Int)) (inner := [.int .i64 0, .int .i64 1, .int .i64 (-1), .int .i64 2, .int .i64 1000, .int .i64 1001, .int .i64 2147483648, .int .i64 2147483647, .int .i64 (-2147483648), .int .i64 4611686018427387904, .int .i64 9223372036854775807, .int .i64 (-9223372036854775808), .int .i64 1000000, .int .i64 1000001]) (ok := fun _ => True) (okp := fun _ => True) ?hr ?hp (fun _ hk => hk) trivial (Below.refl _ _) (Nat.le_refl _) (by simp) ?_; (case hd => rfl); (case hg => rfl); (case hr => first | (go_simp; done) | (go_simp; rfl)); (case hp => exact (Reps.one (show Kd.M (Kd.int .i64) _ _ _ 0 [.int .i64 0] from rfl) (Reps.one (show Kd.M (Kd.int .i64) _ _ _ 1 [.int .i64 1] from rfl) (Reps.one (show Kd.M (Kd.int .i64) _ _ _ (-1) [.int .i64 (-1)] from rfl) (Reps.one (show Kd.M (Kd.int .i64) _ _ _ 2 [.int .i64 2] from rfl) (Reps.one (show Kd.M (Kd.int .i64) _ _ _ 1000 [.int .i64 1000] from rfl) (Reps.one (show Kd.M (Kd.int .i64) _ _ _ 1001 [.int .i64 1001] from rfl) (Reps.one (show Kd.M (Kd.int .i64) _ _ _ 2147483648 [.int .i64 2147483648] from rfl) (Reps.one (show Kd.M (Kd.int .i64) _ _ _ 2147483647 [.int .i64 2147483647] from rfl) (Reps.one (show Kd.M (Kd.int .i64) _ _ _ (-2147483648) [.int .i64 (-2147483648)] from rfl) (Reps.one (show Kd.M (Kd.int .i64) _ _ _ 4611686018427387904 [.int .i64 4611686018427387904] from rfl) (Reps.one (show Kd.M (Kd.int .i64) _ _ _ 9223372036854775807 [.int .i64 9223372036854775807] from rfl) (Reps.one (show Kd.M (Kd.int .i64) _ _ _ (-9223372036854775808) [.int .i64 (-9223372036854775808)] from rfl) (Reps.one (show Kd.M (Kd.int .i64) _ _ _ 1000000 [.int .i64 1000000] from rfl) (Reps.one (show Kd.M (Kd.int .i64) _ _ _ 1000001 [.int .i64 1000001] from rfl) (Reps.none _ _)))))))))))))))); intro v157 w5 ho6 hb hg_ hnew_; clear hg_ hnew_; (first | rw [← Ny156.out] at ho6 | (simp only [Int.reduceToNat] at ho6; rw [← Ny156.out] at ho6)); have n0_ := Aside0.mk (Kd.R_lower ho6 (keep_size (w := w) (g := g) (row := none) (by repeat (first | (with_reducible first | exact HK.out | apply KeepBut.set_ | apply keep_drewN | apply keep_drew | apply keep_alloc) | exact HK.out)))); have n1_ := Aside0.mk (IsS66.below (by repeat (first | (with_reducible first | exact HI0.out | apply IsS66.alloc | apply IsS66.drewN | apply IsS66.drew | apply IsS66.set_1 | apply IsS66.set_2 | apply IsS66.set_3) | exact HI0.out)) hb); have n2_ := Aside0.mk (KeepBut.trans (by repeat (first | (with_reducible first | exact HK.out | apply KeepBut.set_ | apply keep_drewN | apply keep_drew | apply keep_alloc) | exact HK.out)) (KeepBut.of_below hb g none) (.inl rfl)); have n3_ := Aside0.mk (below_step (by repeat (first | (with_reducible first | exact HB.out | apply below_alloc | apply pw_below_drewN | apply below_drew1 | refine below_set ?_ (IsS66.ge HI0.out)) | exact HB.out)) hb); clear HI0; clear HK; clear HB; have HO158 := n0_; have HI0 := n1_; have HK := n2_; have HB := n3_; clear n0_ n1_ n2_ n3_; clear hb ho6) | ((with_reducible refine gate_callee (f := 33) rfl ?_); refine goesL_ (some 5) rfl rfl Try.func33 (by kernel_rfl) rfl #[.pointer (some ⟨g, 0, none⟩), .int .i64 14] rfl (by (try simp only [List.map_toArray, List.map_cons, List.map_nil]); first | done | rfl | (simp only [List.length_drop, List.length_take]; rfl)) ?_; (with_reducible refine (spec_l01Src_n.calls g s0_0 s0_1 s0_2 s0_3 14 t159 t160 t161 t162 w0 _ ?side1 ?side2 A2.out).mono ?_); (case side1 => repeat (first | (with_reducible first | exact HI0.out | apply IsS66.alloc | apply IsS66.drewN | apply IsS66.drew | apply IsS66.set_1 | apply IsS66.set_2 | apply IsS66.set_3) | exact HI0.out)); (case side2 => repeat (first | (with_reducible first | exact HB.out | apply below_alloc | apply pw_below_drewN | apply below_drew1 | refine below_set ?_ (IsS66.ge HI0.out)) | exact HB.out)); rintro e w7 ⟨rfl, hi, hb, hk⟩; refine ⟨_, rfl, ?_⟩; have n0_ := Aside0.mk (Kd.R_mono (Kd.R_keep (IsS66.apart (show IsS66 w0 _ g s0_0 s0_1 s0_2 s0_3 from by repeat (first | (with_reducible first | exact HI0.out | apply IsS66.alloc | apply IsS66.drewN | apply IsS66.drew | apply IsS66.set_1 | apply IsS66.set_2 | apply IsS66.set_3) | exact HI0.out)) (by (with_reducible repeat (first | apply Kd.R_alloc | apply Kd.R_drewN | apply Kd.R_drew)); exact HO158.out) (by decide)) hk (fun _ h => h.2)) (fun _ h => h.1)); have n1_ := Aside0.mk (KeepBut.trans (by repeat (first | (with_reducible first | exact HK.out | apply KeepBut.set_ | apply keep_drewN | apply keep_drew | apply keep_alloc) | exact HK.out)) hk (.inl rfl)); have n2_ := Aside0.mk (hb); have n3_ := Aside0.mk (hi); clear HO158; clear HK; clear HB; clear HI0; have HO158 := n0_; have HK := n1_; have HB := n2_; have HI0 := n3_; clear n0_ n1_ n2_ n3_; (try clear hb); (try clear hb2); (try clear hk); (try clear hi); obtain ⟨Ao8, co8, eo8⟩ := Kd.R_slice HO158.out; subst eo8; have p163 : 0 ≤ (t159 : Int) := of_decide_eq_true (by first | (with_reducible assumption) | assumption); have q163 : t159 < (y156.length : Int) := of_decide_eq_true (by first | (with_reducible assumption) | assumption); obtain ⟨ad163, e163, hx163_0⟩ := Kd.at_int (Kd.R_reads' HO158.out).2.2 t159 p163 q163; cases e163; replace p163 := eq_true p163; replace q163 := eq_true q163))
   go_ret
   exact ⟨by first | rfl | (simp [errW_none, errW_some] <;> rfl) | (simp [*, errW_none, errW_some] <;> rfl), by repeat (first | (with_reducible first | exact HI0.out | apply IsS66.alloc | apply IsS66.drewN | apply IsS66.drew | apply IsS66.set_1 | apply IsS66.set_2 | apply IsS66.set_3) | exact HI0.out), by repeat (first | (with_reducible first | exact HB.out | apply below_alloc | apply pw_below_drewN | apply below_drew1 | refine below_set ?_ (IsS66.ge HI0.out)) | exact HB.out), by repeat (first | (with_reducible first | exact HK.out | apply KeepBut.set_ | apply keep_drewN | apply keep_drew | apply keep_alloc) | exact HK.out)⟩
  ·
   rw [if_neg c4] at H
   exact absurd H (by simp)
 ·
  rw [if_neg c3] at H
  exact absurd H (by simp)

/-! ### spec_Crc: function 40 -/
def spec_Crc.f (k : Nat) (a0 : ByteArray) : Option (Int) := if (a0.size : Int) > 8000 then (some 0) else ((spec_l01Crc.f k 0 a0).bind fun t164 => (some t164))
theorem spec_Crc.mono : ∀ a0 k, LeO (spec_Crc.f k a0) (spec_Crc.f (k + 1) a0) := by
 intro a0 k
 unfold spec_Crc.f
 repeat' first
   | (with_reducible exact spec_l01Crc.mono _ _ _)
   | (with_reducible exact LeO.refl _)
   | (with_reducible exact LeO.none _)
   | (with_reducible refine LeO.ite ?_ ?_)
   | (with_reducible refine LeO.bind ?_ (fun _ => ?_))
   | exact spec_l01Crc.mono _ _ _
   | exact LeO.none _
   | refine LeO.ite ?_ ?_
   | refine LeO.bind ?_ (fun _ => ?_)
set_option maxHeartbeats 8000000 in
set_option maxRecDepth 100000 in
theorem spec_Crc.calls (k : Nat) (a0 : ByteArray) (r : Int) (w : World) (h : spec_Crc.f k a0 = some r) :
  Calls Try.prog 40 #[.string a0] w fun e w' => e = .returned (.int .i64 r) ∧ Drawn0 w w' := by
 have H : (if (a0.size : Int) > 8000 then (some 0) else ((spec_l01Crc.f k 0 a0).bind fun t164 => (some t164))) = some r := h
 clear h
 by_cases c2 : (a0.size : Int) > 8000
 ·
  rw [if_pos c2] at H
  have c2b0 : decide (8000 < (a0.size : Int)) = true := decide_eq_true c2
  have c2b1 : decide (8000 < a0.size) = true := decide_eq_true (by omega)
  clear c2
  obtain rfl := Option.some.inj H
  go_enter Try.func40, Try.ntmps40
  go_wp2
  go_ret
  exact ⟨by first | rfl | (simp; done) | (simp [*]; done), by repeat (first | exact Drawn0.refl _ | apply Drawn0.step)⟩
 ·
  rw [if_neg c2] at H
  have c2b0 : decide (8000 < (a0.size : Int)) = false := decide_eq_false c2
  have c2b1 : decide (8000 < a0.size) = false := decide_eq_false (by omega)
  clear c2
  replace H := Option.bind_eq_some_iff.mp H
  obtain ⟨t164, A30, H⟩ := H
  replace H : (some t164) = some r := H
  have A3 := Aside0.mk A30
  clear A30
  obtain rfl := Option.some.inj H
  go_enter Try.func40, Try.ntmps40
  go_wp2_with (first | ((with_reducible refine gate_callee (f := 37) rfl ?_); refine goesL_ (some 7) rfl rfl Try.func37 (by kernel_rfl) rfl #[.int .i64 0, .string a0] rfl (by (try simp only [List.map_toArray, List.map_cons, List.map_nil]); first | done | rfl | (simp only [List.length_drop, List.length_take]; rfl)) ?_; (with_reducible refine (spec_l01Crc.calls k 0 a0 t164 _ A3.out).mono ?_); rintro e w' ⟨rfl, ⟨nd, rfl⟩⟩; refine ⟨_, rfl, ?_⟩))
  go_ret
  exact ⟨by first | rfl | (simp; done) | (simp [*]; done), by repeat (first | exact Drawn0.refl _ | apply Drawn0.step)⟩

/-! ### spec_DrawCrcMore: function 10 -/
def spec_DrawCrcMore.f (k : Nat) (l0 : List Int) : Option (Int × ByteArray) := (spec_l01Source.f k l0).bind fun bt165 => ((spec_l01Src_n.f bt165.1 bt165.2.1 bt165.2.2.1 bt165.2.2.2 9).bind fun bt170 => ((spec_l01Src_bytes.f k bt165.1 bt170.2.1 bt170.2.2.1 bt170.2.2.2 bt170.1).bind fun bt174 => ((spec_l01Src_one.f bt165.1 bt174.2.1 bt174.2.2.1 bt174.2.2.2 5).bind fun bt178 => (if bt178.1 = true then ((spec_l01Src_edge.f bt165.1 bt178.2.1 bt178.2.2.1 bt178.2.2.2).bind fun bt182 => (some (bt182.1, bt174.1))) else ((spec_l01Src_n.f bt165.1 bt178.2.1 bt178.2.2.1 bt178.2.2.2 9).bind fun bt186 => ((spec_l01Src_bytes.f k bt165.1 bt186.2.1 bt186.2.2.1 bt186.2.2.2 bt186.1).bind fun bt190 => ((spec_Crc.f k bt190.1).bind fun t194 => (some (t194, bt174.1)))))))))
theorem spec_DrawCrcMore.mono : ∀ a0 k, LeO (spec_DrawCrcMore.f k a0) (spec_DrawCrcMore.f (k + 1) a0) := by
 intro a0 k
 unfold spec_DrawCrcMore.f
 repeat' first
   | (with_reducible exact spec_Crc.mono _ _)
   | (with_reducible exact spec_l01Source.mono _ _)
   | (with_reducible exact spec_l01Src_bytes.mono _ _ _ _ _ _)
   | (with_reducible exact LeO.refl _)
   | (with_reducible exact LeO.none _)
   | (with_reducible refine LeO.ite ?_ ?_)
   | (with_reducible refine LeO.bind ?_ (fun _ => ?_))
   | exact spec_Crc.mono _ _
   | exact spec_l01Source.mono _ _
   | exact spec_l01Src_bytes.mono _ _ _ _ _ _
   | exact LeO.none _
   | refine LeO.ite ?_ ?_
   | refine LeO.bind ?_ (fun _ => ?_)
set_option maxHeartbeats 8000000 in
set_option maxRecDepth 100000 in
theorem spec_DrawCrcMore.calls (k : Nat) (A0 : Option Addr) (c0 : Nat) (l0 : List Int) (r1 : Int) (r2 : ByteArray) (w : World) (hr0 : Kd.C (Kd.int .u8) w A0 l0.length l0) (hc0 : l0.length ≤ c0) (h : spec_DrawCrcMore.f k l0 = some (r1, r2)) :
  Calls Try.prog 10 #[.slice A0 l0.length c0] w fun e w' => e = .returned (.tuple #[.int .i64 r1, .string r2]) ∧ Below w.heap.size w w' := by
 have HR0 := Aside0.mk hr0
 have HC0 := Aside0.mk hc0
 clear hr0 hc0
 have HB := Aside0.mk (Below.refl w.heap.size w)
 have H : ((spec_l01Source.f k l0).bind fun bt165 => ((spec_l01Src_n.f bt165.1 bt165.2.1 bt165.2.2.1 bt165.2.2.2 9).bind fun bt170 => ((spec_l01Src_bytes.f k bt165.1 bt170.2.1 bt170.2.2.1 bt170.2.2.2 bt170.1).bind fun bt174 => ((spec_l01Src_one.f bt165.1 bt174.2.1 bt174.2.2.1 bt174.2.2.2 5).bind fun bt178 => (if bt178.1 = true then ((spec_l01Src_edge.f bt165.1 bt178.2.1 bt178.2.2.1 bt178.2.2.2).bind fun bt182 => (some (bt182.1, bt174.1))) else ((spec_l01Src_n.f bt165.1 bt178.2.1 bt178.2.2.1 bt178.2.2.2 9).bind fun bt186 => ((spec_l01Src_bytes.f k bt165.1 bt186.2.1 bt186.2.2.1 bt186.2.2.2 bt186.1).bind fun bt190 => ((spec_Crc.f k bt190.1).bind fun t194 => (some (t194, bt174.1)))))))))) = some (r1, r2) := h
 clear h
 replace H := Option.bind_eq_some_iff.mp H
 obtain ⟨⟨t165, t166, t167, t168⟩, A20, H⟩ := H
 replace H : ((spec_l01Src_n.f t165 t166 t167 t168 9).bind fun bt170 => ((spec_l01Src_bytes.f k t165 bt170.2.1 bt170.2.2.1 bt170.2.2.2 bt170.1).bind fun bt174 => ((spec_l01Src_one.f t165 bt174.2.1 bt174.2.2.1 bt174.2.2.2 5).bind fun bt178 => (if bt178.1 = true then ((spec_l01Src_edge.f t165 bt178.2.1 bt178.2.2.1 bt178.2.2.2).bind fun bt182 => (some (bt182.1, bt174.1))) else ((spec_l01Src_n.f t165 bt178.2.1 bt178.2.2.1 bt178.2.2.2 9).bind fun bt186 => ((spec_l01Src_bytes.f k t165 bt186.2.1 bt186.2.2.1 bt186.2.2.2 bt186.1).bind fun bt190 => ((spec_Crc.f k bt190.1).bind fun t194 => (some (t194, bt174.1))))))))) = some (r1, r2) := H
 have A2 := Aside0.mk A20
 clear A20
 replace H := Option.bind_eq_some_iff.mp H
 obtain ⟨⟨t170, t171, t172, t173⟩, A30, H⟩ := H
 replace H : ((spec_l01Src_bytes.f k t165 t171 t172 t173 t170).bind fun bt174 => ((spec_l01Src_one.f t165 bt174.2.1 bt174.2.2.1 bt174.2.2.2 5).bind fun bt178 => (if bt178.1 = true then ((spec_l01Src_edge.f t165 bt178.2.1 bt178.2.2.1 bt178.2.2.2).bind fun bt182 => (some (bt182.1, bt174.1))) else ((spec_l01Src_n.f t165 bt178.2.1 bt178.2.2.1 bt178.2.2.2 9).bind fun bt186 => ((spec_l01Src_bytes.f k t165 bt186.2.1 bt186.2.2.1 bt186.2.2.2 bt186.1).bind fun bt190 => ((spec_Crc.f k bt190.1).bind fun t194 => (some (t194, bt174.1)))))))) = some (r1, r2) := H
 have A3 := Aside0.mk A30
 clear A30
 replace H := Option.bind_eq_some_iff.mp H
 obtain ⟨⟨t174, t175, t176, t177⟩, A40, H⟩ := H
 replace H : ((spec_l01Src_one.f t165 t175 t176 t177 5).bind fun bt178 => (if bt178.1 = true then ((spec_l01Src_edge.f t165 bt178.2.1 bt178.2.2.1 bt178.2.2.2).bind fun bt182 => (some (bt182.1, t174))) else ((spec_l01Src_n.f t165 bt178.2.1 bt178.2.2.1 bt178.2.2.2 9).bind fun bt186 => ((spec_l01Src_bytes.f k t165 bt186.2.1 bt186.2.2.1 bt186.2.2.2 bt186.1).bind fun bt190 => ((spec_Crc.f k bt190.1).bind fun t194 => (some (t194, t174))))))) = some (r1, r2) := H
 have A4 := Aside0.mk A40
 clear A40
 replace H := Option.bind_eq_some_iff.mp H
 obtain ⟨⟨t178, t179, t180, t181⟩, A50, H⟩ := H
 replace H : (if t178 = true then ((spec_l01Src_edge.f t165 t179 t180 t181).bind fun bt182 => (some (bt182.1, t174))) else ((spec_l01Src_n.f t165 t179 t180 t181 9).bind fun bt186 => ((spec_l01Src_bytes.f k t165 bt186.2.1 bt186.2.2.1 bt186.2.2.2 bt186.1).bind fun bt190 => ((spec_Crc.f k bt190.1).bind fun t194 => (some (t194, t174)))))) = some (r1, r2) := H
 have A5 := Aside0.mk A50
 clear A50
 by_cases c6 : t178 = true
 ·
  subst c6
  have H1 : ((spec_l01Src_edge.f t165 t179 t180 t181).bind fun bt182 => (some (bt182.1, t174))) = some (r1, r2) := by rw [if_pos rfl] at H; exact H
  clear H
  have H := H1
  clear H1
  replace H := Option.bind_eq_some_iff.mp H
  obtain ⟨⟨t182, t183, t184, t185⟩, A70, H⟩ := H
  replace H : (some (t182, t174)) = some (r1, r2) := H
  have A7 := Aside0.mk A70
  clear A70
  simp only [Option.some.injEq, Prod.mk.injEq] at H
  obtain ⟨rfl, rfl⟩ := H
  go_enter Try.func10, Try.ntmps10
  go_wp2_with (first | ((with_reducible refine gate_callee (f := 31) rfl ?_); refine goesL_ (some 7) rfl rfl Try.func31 (by kernel_rfl) rfl #[.slice A0 l0.length c0] rfl (by (try simp only [List.map_toArray, List.map_cons, List.map_nil]); first | done | rfl | (simp only [List.length_drop, List.length_take]; rfl)) ?_; (with_reducible refine (spec_l01Source.calls k _ _ l0 t165 t166 t167 t168 w _ ?side1 ?side2 ?side3 A2.out).mono ?_); (case side1 => repeat (first | (with_reducible first | exact HB.out | apply below_alloc | apply pw_below_drewN | apply below_drew1) | exact HB.out)); (case side2 => exact HR0.out); (case side3 => exact HC0.out); rintro e w8 ⟨g169, rfl, hi, hb, hb2⟩; refine ⟨_, rfl, ?_⟩; have n0_ := Aside0.mk (hb); have n1_ := Aside0.mk (hi); clear HB; have HB := n0_; have HI169 := n1_; clear n0_ n1_; (try clear hb); (try clear hb2); (try clear hk); (try clear hi)) | ((with_reducible refine gate_callee (f := 33) rfl ?_); refine goesL_ (some 10) rfl rfl Try.func33 (by kernel_rfl) rfl #[.pointer (some ⟨g169, 0, none⟩), .int .i64 9] rfl (by (try simp only [List.map_toArray, List.map_cons, List.map_nil]); first | done | rfl | (simp only [List.length_drop, List.length_take]; rfl)) ?_; (with_reducible refine (spec_l01Src_n.calls g169 t165 t166 t167 t168 9 t170 t171 t172 t173 w _ ?side1 ?side2 A3.out).mono ?_); (case side1 => repeat (first | (with_reducible first | exact HI169.out | apply IsS66.alloc | apply IsS66.drewN | apply IsS66.drew | apply IsS66.set_1 | apply IsS66.set_2 | apply IsS66.set_3) | exact HI169.out)); (case side2 => repeat (first | (with_reducible first | exact HB.out | apply below_alloc | apply pw_below_drewN | apply below_drew1 | refine below_set ?_ (IsS66.ge HI169.out)) | exact HB.out)); rintro e w9 ⟨rfl, hi, hb, hk⟩; refine ⟨_, rfl, ?_⟩; have n0_ := Aside0.mk (hb); have n1_ := Aside0.mk (hi); clear HB; clear HI169; have HB := n0_; have HI169 := n1_; clear n0_ n1_; (try clear hb); (try clear hb2); (try clear hk); (try clear hi)) | ((with_reducible refine gate_callee (f := 34) rfl ?_); refine goesL_ (some 11) rfl rfl Try.func34 (by kernel_rfl) rfl #[.pointer (some ⟨g169, 0, none⟩), .int .i64 t170] rfl (by (try simp only [List.map_toArray, List.map_cons, List.map_nil]); first | done | rfl | (simp only [List.length_drop, List.length_take]; rfl)) ?_; (with_reducible refine (spec_l01Src_bytes.calls k g169 t165 t171 t172 t173 t170 t174 t175 t176 t177 w _ ?side1 ?side2 A4.out).mono ?_); (case side1 => repeat (first | (with_reducible first | exact HI169.out | apply IsS66.alloc | apply IsS66.drewN | apply IsS66.drew | apply IsS66.set_1 | apply IsS66.set_2 | apply IsS66.set_3) | exact HI169.out)); (case side2 => repeat (first | (with_reducible first | exact HB.out | apply below_alloc | apply pw_below_drewN | apply below_drew1 | refine below_set ?_ (IsS66.ge HI169.out)) | exact HB.out)); rintro e w10 ⟨rfl, hi, hb, hk⟩; refine ⟨_, rfl, ?_⟩; have n0_ := Aside0.mk (hb); have n1_ := Aside0.mk (hi); clear HB; clear HI169; have HB := n0_; have HI169 := n1_; clear n0_ n1_; (try clear hb); (try clear hb2); (try clear hk); (try clear hi)) | ((with_reducible refine gate_callee (f := 32) rfl ?_); refine goesL_ (some 13) rfl rfl Try.func32 (by kernel_rfl) rfl #[.pointer (some ⟨g169, 0, none⟩), .int .i64 5] rfl (by (try simp only [List.map_toArray, List.map_cons, List.map_nil]); first | done | rfl | (simp only [List.length_drop, List.length_take]; rfl)) ?_; (with_reducible refine (spec_l01Src_one.calls g169 t165 t175 t176 t177 5 true t179 t180 t181 w _ ?side1 ?side2 A5.out).mono ?_); (case side1 => repeat (first | (with_reducible first | exact HI169.out | apply IsS66.alloc | apply IsS66.drewN | apply IsS66.drew | apply IsS66.set_1 | apply IsS66.set_2 | apply IsS66.set_3) | exact HI169.out)); (case side2 => repeat (first | (with_reducible first | exact HB.out | apply below_alloc | apply pw_below_drewN | apply below_drew1 | refine below_set ?_ (IsS66.ge HI169.out)) | exact HB.out)); rintro e w11 ⟨rfl, hi, hb, hk⟩; refine ⟨_, rfl, ?_⟩; have n0_ := Aside0.mk (hb); have n1_ := Aside0.mk (hi); clear HB; clear HI169; have HB := n0_; have HI169 := n1_; clear n0_ n1_; (try clear hb); (try clear hb2); (try clear hk); (try clear hi)) | ((with_reducible refine gate_callee (f := 39) rfl ?_); refine goesL_ (some 15) rfl rfl Try.func39 (by kernel_rfl) rfl #[.pointer (some ⟨g169, 0, none⟩)] rfl (by (try simp only [List.map_toArray, List.map_cons, List.map_nil]); first | done | rfl | (simp only [List.length_drop, List.length_take]; rfl)) ?_; (with_reducible refine (spec_l01Src_edge.calls g169 t165 t179 t180 t181 t182 t183 t184 t185 w _ ?side1 ?side2 A7.out).mono ?_); (case side1 => repeat (first | (with_reducible first | exact HI169.out | apply IsS66.alloc | apply IsS66.drewN | apply IsS66.drew | apply IsS66.set_1 | apply IsS66.set_2 | apply IsS66.set_3) | exact HI169.out)); (case side2 => repeat (first | (with_reducible first | exact HB.out | apply below_alloc | apply pw_below_drewN | apply below_drew1 | refine below_set ?_ (IsS66.ge HI169.out)) | exact HB.out)); rintro e w12 ⟨rfl, hi, hb, hk⟩; refine ⟨_, rfl, ?_⟩; have n0_ := Aside0.mk (hb); have n1_ := Aside0.mk (hi); clear HB; clear HI169; have HB := n0_; have HI169 := n1_; clear n0_ n1_; (try clear hb); (try clear hb2); (try clear hk); (try clear hi)))
  go_ret2
  exact ⟨by first | rfl | (simp [errW_none, errW_some] <;> rfl) | (simp [*, errW_none, errW_some] <;> rfl), by repeat (first | (with_reducible first | exact HB.out | apply below_alloc | apply pw_below_drewN | apply below_drew1 | refine below_set ?_ (IsS66.ge HI169.out)) | exact HB.out)⟩
 ·
  replace c6 := Bool.eq_false_iff.mpr c6
  subst c6
  have H1 : ((spec_l01Src_n.f t165 t179 t180 t181 9).bind fun bt186 => ((spec_l01Src_bytes.f k t165 bt186.2.1 bt186.2.2.1 bt186.2.2.2 bt186.1).bind fun bt190 => ((spec_Crc.f k bt190.1).bind fun t194 => (some (t194, t174))))) = some (r1, r2) := by rw [if_neg (show ¬ (false = true) by decide)] at H; exact H
  clear H
  have H := H1
  clear H1
  replace H := Option.bind_eq_some_iff.mp H
  obtain ⟨⟨t186, t187, t188, t189⟩, A130, H⟩ := H
  replace H : ((spec_l01Src_bytes.f k t165 t187 t188 t189 t186).bind fun bt190 => ((spec_Crc.f k bt190.1).bind fun t194 => (some (t194, t174)))) = some (r1, r2) := H
  have A13 := Aside0.mk A130
  clear A130
  replace H := Option.bind_eq_some_iff.mp H
  obtain ⟨⟨t190, t191, t192, t193⟩, A140, H⟩ := H
  replace H : ((spec_Crc.f k t190).bind fun t194 => (some (t194, t174))) = some (r1, r2) := H
  have A14 := Aside0.mk A140
  clear A140
  replace H := Option.bind_eq_some_iff.mp H
  obtain ⟨t194, A150, H⟩ := H
  replace H : (some (t194, t174)) = some (r1, r2) := H
  have A15 := Aside0.mk A150
  clear A150
  simp only [Option.some.injEq, Prod.mk.injEq] at H
  obtain ⟨rfl, rfl⟩ := H
  go_enter Try.func10, Try.ntmps10
  go_wp2_with (first | ((with_reducible refine gate_callee (f := 31) rfl ?_); refine goesL_ (some 7) rfl rfl Try.func31 (by kernel_rfl) rfl #[.slice A0 l0.length c0] rfl (by (try simp only [List.map_toArray, List.map_cons, List.map_nil]); first | done | rfl | (simp only [List.length_drop, List.length_take]; rfl)) ?_; (with_reducible refine (spec_l01Source.calls k _ _ l0 t165 t166 t167 t168 w _ ?side1 ?side2 ?side3 A2.out).mono ?_); (case side1 => repeat (first | (with_reducible first | exact HB.out | apply below_alloc | apply pw_below_drewN | apply below_drew1) | exact HB.out)); (case side2 => exact HR0.out); (case side3 => exact HC0.out); rintro e w16 ⟨g169, rfl, hi, hb, hb2⟩; refine ⟨_, rfl, ?_⟩; have n0_ := Aside0.mk (hb); have n1_ := Aside0.mk (hi); clear HB; have HB := n0_; have HI169 := n1_; clear n0_ n1_; (try clear hb); (try clear hb2); (try clear hk); (try clear hi)) | ((with_reducible refine gate_callee (f := 33) rfl ?_); refine goesL_ (some 10) rfl rfl Try.func33 (by kernel_rfl) rfl #[.pointer (some ⟨g169, 0, none⟩), .int .i64 9] rfl (by (try simp only [List.map_toArray, List.map_cons, List.map_nil]); first | done | rfl | (simp only [List.length_drop, List.length_take]; rfl)) ?_; (with_reducible refine (spec_l01Src_n.calls g169 t165 t166 t167 t168 9 t170 t171 t172 t173 w _ ?side1 ?side2 A3.out).mono ?_); (case side1 => repeat (first | (with_reducible first | exact HI169.out | apply IsS66.alloc | apply IsS66.drewN | apply IsS66.drew | apply IsS66.set_1 | apply IsS66.set_2 | apply IsS66.set_3) | exact HI169.out)); (case side2 => repeat (first | (with_reducible first | exact HB.out | apply below_alloc | apply pw_below_drewN | apply below_drew1 | refine below_set ?_ (IsS66.ge HI169.out)) | exact HB.out)); rintro e w17 ⟨rfl, hi, hb, hk⟩; refine ⟨_, rfl, ?_⟩; have n0_ := Aside0.mk (hb); have n1_ := Aside0.mk (hi); clear HB; clear HI169; have HB := n0_; have HI169 := n1_; clear n0_ n1_; (try clear hb); (try clear hb2); (try clear hk); (try clear hi)) | ((with_reducible refine gate_callee (f := 34) rfl ?_); refine goesL_ (some 11) rfl rfl Try.func34 (by kernel_rfl) rfl #[.pointer (some ⟨g169, 0, none⟩), .int .i64 t170] rfl (by (try simp only [List.map_toArray, List.map_cons, List.map_nil]); first | done | rfl | (simp only [List.length_drop, List.length_take]; rfl)) ?_; (with_reducible refine (spec_l01Src_bytes.calls k g169 t165 t171 t172 t173 t170 t174 t175 t176 t177 w _ ?side1 ?side2 A4.out).mono ?_); (case side1 => repeat (first | (with_reducible first | exact HI169.out | apply IsS66.alloc | apply IsS66.drewN | apply IsS66.drew | apply IsS66.set_1 | apply IsS66.set_2 | apply IsS66.set_3) | exact HI169.out)); (case side2 => repeat (first | (with_reducible first | exact HB.out | apply below_alloc | apply pw_below_drewN | apply below_drew1 | refine below_set ?_ (IsS66.ge HI169.out)) | exact HB.out)); rintro e w18 ⟨rfl, hi, hb, hk⟩; refine ⟨_, rfl, ?_⟩; have n0_ := Aside0.mk (hb); have n1_ := Aside0.mk (hi); clear HB; clear HI169; have HB := n0_; have HI169 := n1_; clear n0_ n1_; (try clear hb); (try clear hb2); (try clear hk); (try clear hi)) | ((with_reducible refine gate_callee (f := 32) rfl ?_); refine goesL_ (some 13) rfl rfl Try.func32 (by kernel_rfl) rfl #[.pointer (some ⟨g169, 0, none⟩), .int .i64 5] rfl (by (try simp only [List.map_toArray, List.map_cons, List.map_nil]); first | done | rfl | (simp only [List.length_drop, List.length_take]; rfl)) ?_; (with_reducible refine (spec_l01Src_one.calls g169 t165 t175 t176 t177 5 false t179 t180 t181 w _ ?side1 ?side2 A5.out).mono ?_); (case side1 => repeat (first | (with_reducible first | exact HI169.out | apply IsS66.alloc | apply IsS66.drewN | apply IsS66.drew | apply IsS66.set_1 | apply IsS66.set_2 | apply IsS66.set_3) | exact HI169.out)); (case side2 => repeat (first | (with_reducible first | exact HB.out | apply below_alloc | apply pw_below_drewN | apply below_drew1 | refine below_set ?_ (IsS66.ge HI169.out)) | exact HB.out)); rintro e w19 ⟨rfl, hi, hb, hk⟩; refine ⟨_, rfl, ?_⟩; have n0_ := Aside0.mk (hb); have n1_ := Aside0.mk (hi); clear HB; clear HI169; have HB := n0_; have HI169 := n1_; clear n0_ n1_; (try clear hb); (try clear hb2); (try clear hk); (try clear hi)) | ((with_reducible refine gate_callee (f := 33) rfl ?_); refine goesL_ (some 19) rfl rfl Try.func33 (by kernel_rfl) rfl #[.pointer (some ⟨g169, 0, none⟩), .int .i64 9] rfl (by (try simp only [List.map_toArray, List.map_cons, List.map_nil]); first | done | rfl | (simp only [List.length_drop, List.length_take]; rfl)) ?_; (with_reducible refine (spec_l01Src_n.calls g169 t165 t179 t180 t181 9 t186 t187 t188 t189 w _ ?side1 ?side2 A13.out).mono ?_); (case side1 => repeat (first | (with_reducible first | exact HI169.out | apply IsS66.alloc | apply IsS66.drewN | apply IsS66.drew | apply IsS66.set_1 | apply IsS66.set_2 | apply IsS66.set_3) | exact HI169.out)); (case side2 => repeat (first | (with_reducible first | exact HB.out | apply below_alloc | apply pw_below_drewN | apply below_drew1 | refine below_set ?_ (IsS66.ge HI169.out)) | exact HB.out)); rintro e w20 ⟨rfl, hi, hb, hk⟩; refine ⟨_, rfl, ?_⟩; have n0_ := Aside0.mk (hb); have n1_ := Aside0.mk (hi); clear HB; clear HI169; have HB := n0_; have HI169 := n1_; clear n0_ n1_; (try clear hb); (try clear hb2); (try clear hk); (try clear hi)) | ((with_reducible refine gate_callee (f := 34) rfl ?_); refine goesL_ (some 20) rfl rfl Try.func34 (by kernel_rfl) rfl #[.pointer (some ⟨g169, 0, none⟩), .int .i64 t186] rfl (by (try simp only [List.map_toArray, List.map_cons, List.map_nil]); first | done | rfl | (simp only [List.length_drop, List.length_take]; rfl)) ?_; (with_reducible refine (spec_l01Src_bytes.calls k g169 t165 t187 t188 t189 t186 t190 t191 t192 t193 w _ ?side1 ?side2 A14.out).mono ?_); (case side1 => repeat (first | (with_reducible first | exact HI169.out | apply IsS66.alloc | apply IsS66.drewN | apply IsS66.drew | apply IsS66.set_1 | apply IsS66.set_2 | apply IsS66.set_3) | exact HI169.out)); (case side2 => repeat (first | (with_reducible first | exact HB.out | apply below_alloc | apply pw_below_drewN | apply below_drew1 | refine below_set ?_ (IsS66.ge HI169.out)) | exact HB.out)); rintro e w21 ⟨rfl, hi, hb, hk⟩; refine ⟨_, rfl, ?_⟩; have n0_ := Aside0.mk (hb); have n1_ := Aside0.mk (hi); clear HB; clear HI169; have HB := n0_; have HI169 := n1_; clear n0_ n1_; (try clear hb); (try clear hb2); (try clear hk); (try clear hi)) | ((with_reducible refine gate_callee (f := 40) rfl ?_); refine goesL_ (some 21) rfl rfl Try.func40 (by kernel_rfl) rfl #[.string t190] rfl (by (try simp only [List.map_toArray, List.map_cons, List.map_nil]); first | done | rfl | (simp only [List.length_drop, List.length_take]; rfl)) ?_; (with_reducible refine (spec_Crc.calls k t190 t194 _ A15.out).mono ?_); rintro e w' ⟨rfl, ⟨nd, rfl⟩⟩; refine ⟨_, rfl, ?_⟩))
  go_ret2
  exact ⟨by first | rfl | (simp [errW_none, errW_some] <;> rfl) | (simp [*, errW_none, errW_some] <;> rfl), by repeat (first | (with_reducible first | exact HB.out | apply below_alloc | apply pw_below_drewN | apply below_drew1 | refine below_set ?_ (IsS66.ge HI169.out)) | exact HB.out)⟩

/-! ### impl_within: function 41 -/
def impl_within.f (a0 : Int) (a1 : Int) (a2 : Int) : Option (Bool) := if a0 ≥ a1 then (some (decide (a0 ≤ a2))) else (some false)
set_option maxHeartbeats 8000000 in
set_option maxRecDepth 100000 in
theorem impl_within.calls (a0 : Int) (a1 : Int) (a2 : Int) (r : Bool) (w : World) (h : impl_within.f a0 a1 a2 = some r) :
  Calls Try.prog 41 #[.int .i64 a0, .int .i64 a1, .int .i64 a2] w fun e w' => e = .returned (.bool r) ∧ Drawn0 w w' := by
 have H : (if a0 ≥ a1 then (some (decide (a0 ≤ a2))) else (some false)) = some r := h
 clear h
 by_cases c4 : a0 ≥ a1
 ·
  rw [if_pos c4] at H
  have c4b0 : decide (a1 ≤ a0) = true := decide_eq_true c4
  clear c4
  obtain rfl := Option.some.inj H
  go_enter Try.func41, Try.ntmps41
  go_wp2
  go_ret
  exact ⟨by first | rfl | (simp; done) | (simp [*]; done), by repeat (first | exact Drawn0.refl _ | apply Drawn0.step)⟩
 ·
  rw [if_neg c4] at H
  have c4b0 : decide (a1 ≤ a0) = false := decide_eq_false c4
  clear c4
  obtain rfl := Option.some.inj H
  go_enter Try.func41, Try.ntmps41
  go_wp2
  go_ret
  exact ⟨by first | rfl | (simp; done) | (simp [*]; done), by repeat (first | exact Drawn0.refl _ | apply Drawn0.step)⟩

/-! ### impl_CrcMore: function 11 -/
def impl_CrcMore.f (k : Nat) (a0 : Int) (a1 : ByteArray) : Option (Int) := if (a1.size : Int) > 8000 then (some 0) else ((impl_within.f a0 0 4294967295).bind fun t195 => (if t195 = true then ((impl_crcMore.f k ((a0) % 4294967296) a1).bind fun t196 => (some (wrap64 (t196)))) else (some 0)))
theorem impl_CrcMore.mono : ∀ a0 a1 k, LeO (impl_CrcMore.f k a0 a1) (impl_CrcMore.f (k + 1) a0 a1) := by
 intro a0 a1 k
 unfold impl_CrcMore.f
 repeat' first
   | (with_reducible exact impl_crcMore.mono _ _ _)
   | (with_reducible exact LeO.refl _)
   | (with_reducible exact LeO.none _)
   | (with_reducible refine LeO.ite ?_ ?_)
   | (with_reducible refine LeO.bind ?_ (fun _ => ?_))
   | exact impl_crcMore.mono _ _ _
   | exact LeO.none _
   | refine LeO.ite ?_ ?_
   | refine LeO.bind ?_ (fun _ => ?_)
set_option maxHeartbeats 8000000 in
set_option maxRecDepth 100000 in
theorem impl_CrcMore.calls (k : Nat) (a0 : Int) (a1 : ByteArray) (r : Int) (w : World) (h : impl_CrcMore.f k a0 a1 = some r) :
  Calls Try.prog 11 #[.int .i64 a0, .string a1] w fun e w' => e = .returned (.int .i64 r) ∧ Drawn0 w w' := by
 have H : (if (a1.size : Int) > 8000 then (some 0) else ((impl_within.f a0 0 4294967295).bind fun t195 => (if t195 = true then ((impl_crcMore.f k ((a0) % 4294967296) a1).bind fun t196 => (some (wrap64 (t196)))) else (some 0)))) = some r := h
 clear h
 by_cases c3 : (a1.size : Int) > 8000
 ·
  rw [if_pos c3] at H
  have c3b0 : decide (8000 < (a1.size : Int)) = true := decide_eq_true c3
  have c3b1 : decide (8000 < a1.size) = true := decide_eq_true (by omega)
  clear c3
  obtain rfl := Option.some.inj H
  go_enter Try.func11, Try.ntmps11
  go_wp2
  go_ret
  exact ⟨by first | rfl | (simp; done) | (simp [*]; done), by repeat (first | exact Drawn0.refl _ | apply Drawn0.step)⟩
 ·
  rw [if_neg c3] at H
  have c3b0 : decide (8000 < (a1.size : Int)) = false := decide_eq_false c3
  have c3b1 : decide (8000 < a1.size) = false := decide_eq_false (by omega)
  clear c3
  replace H := Option.bind_eq_some_iff.mp H
  obtain ⟨t195, A40, H⟩ := H
  replace H : (if t195 = true then ((impl_crcMore.f k ((a0) % 4294967296) a1).bind fun t196 => (some (wrap64 (t196)))) else (some 0)) = some r := H
  have A4 := Aside0.mk A40
  clear A40
  by_cases c5 : t195 = true
  ·
   subst c5
   have H1 : ((impl_crcMore.f k ((a0) % 4294967296) a1).bind fun t196 => (some (wrap64 (t196)))) = some r := by rw [if_pos rfl] at H; exact H
   clear H
   have H := H1
   clear H1
   replace H := Option.bind_eq_some_iff.mp H
   obtain ⟨t196, A60, H⟩ := H
   replace H : (some (wrap64 (t196))) = some r := H
   have A6 := Aside0.mk A60
   clear A60
   obtain rfl := Option.some.inj H
   go_enter Try.func11, Try.ntmps11
   go_wp2_with (first | (go_at_call 41; (with_reducible refine (impl_within.calls a0 0 4294967295 true _ A4.out).mono ?_); rintro e w' ⟨rfl, ⟨nd, rfl⟩⟩) | ((with_reducible refine gate_callee (f := 42) rfl ?_); refine goesL_ (some 16) rfl rfl Try.func42 (by kernel_rfl) rfl #[.int .u32 ((a0) % 4294967296), .string a1] rfl (by (try simp only [List.map_toArray, List.map_cons, List.map_nil]); first | done | rfl | (simp only [List.length_drop, List.length_take]; rfl)) ?_; (with_reducible refine (impl_crcMore.calls k ((a0) % 4294967296) a1 t196 _ A6.out).mono ?_); rintro e w' ⟨rfl, ⟨nd, rfl⟩⟩; refine ⟨_, rfl, ?_⟩))
   go_ret
   exact ⟨by first | rfl | (simp; done) | (simp [*]; done), by repeat (first | exact Drawn0.refl _ | apply Drawn0.step)⟩
  ·
   replace c5 := Bool.eq_false_iff.mpr c5
   subst c5
   have H1 : (some 0) = some r := by rw [if_neg (show ¬ (false = true) by decide)] at H; exact H
   clear H
   have H := H1
   clear H1
   obtain rfl := Option.some.inj H
   go_enter Try.func11, Try.ntmps11
   go_wp2_with (first | (go_at_call 41; (with_reducible refine (impl_within.calls a0 0 4294967295 false _ A4.out).mono ?_); rintro e w' ⟨rfl, ⟨nd, rfl⟩⟩))
   go_ret
   exact ⟨by first | rfl | (simp; done) | (simp [*]; done), by repeat (first | exact Drawn0.refl _ | apply Drawn0.step)⟩

/-! ### spec_CrcMore: function 12 -/
def spec_CrcMore.f (k : Nat) (a0 : Int) (a1 : ByteArray) : Option (Int) := if (a1.size : Int) > 8000 then (some 0) else (if a0 < 0 then (some 0) else (if a0 > 4294967295 then (some 0) else ((spec_l01Crc.f k a0 a1).bind fun t197 => (some t197))))
theorem spec_CrcMore.mono : ∀ a0 a1 k, LeO (spec_CrcMore.f k a0 a1) (spec_CrcMore.f (k + 1) a0 a1) := by
 intro a0 a1 k
 unfold spec_CrcMore.f
 repeat' first
   | (with_reducible exact spec_l01Crc.mono _ _ _)
   | (with_reducible exact LeO.refl _)
   | (with_reducible exact LeO.none _)
   | (with_reducible refine LeO.ite ?_ ?_)
   | (with_reducible refine LeO.bind ?_ (fun _ => ?_))
   | exact spec_l01Crc.mono _ _ _
   | exact LeO.none _
   | refine LeO.ite ?_ ?_
   | refine LeO.bind ?_ (fun _ => ?_)
set_option maxHeartbeats 8000000 in
set_option maxRecDepth 100000 in
theorem spec_CrcMore.calls (k : Nat) (a0 : Int) (a1 : ByteArray) (r : Int) (w : World) (h : spec_CrcMore.f k a0 a1 = some r) :
  Calls Try.prog 12 #[.int .i64 a0, .string a1] w fun e w' => e = .returned (.int .i64 r) ∧ Drawn0 w w' := by
 have H : (if (a1.size : Int) > 8000 then (some 0) else (if a0 < 0 then (some 0) else (if a0 > 4294967295 then (some 0) else ((spec_l01Crc.f k a0 a1).bind fun t197 => (some t197))))) = some r := h
 clear h
 by_cases c3 : (a1.size : Int) > 8000
 ·
  rw [if_pos c3] at H
  have c3b0 : decide (8000 < (a1.size : Int)) = true := decide_eq_true c3
  have c3b1 : decide (8000 < a1.size) = true := decide_eq_true (by omega)
  clear c3
  obtain rfl := Option.some.inj H
  go_enter Try.func12, Try.ntmps12
  go_wp2
  go_ret
  exact ⟨by first | rfl | (simp; done) | (simp [*]; done), by repeat (first | exact Drawn0.refl _ | apply Drawn0.step)⟩
 ·
  rw [if_neg c3] at H
  have c3b0 : decide (8000 < (a1.size : Int)) = false := decide_eq_false c3
  have c3b1 : decide (8000 < a1.size) = false := decide_eq_false (by omega)
  clear c3
  by_cases c4 : a0 < 0
  ·
   rw [if_pos c4] at H
   have c4b0 : decide (a0 < 0) = true := decide_eq_true c4
   clear c4
   obtain rfl := Option.some.inj H
   go_enter Try.func12, Try.ntmps12
   go_wp2
   go_ret
   exact ⟨by first | rfl | (simp; done) | (simp [*]; done), by repeat (first | exact Drawn0.refl _ | apply Drawn0.step)⟩
  ·
   rw [if_neg c4] at H
   have c4b0 : decide (a0 < 0) = false := decide_eq_false c4
   clear c4
   by_cases c5 : a0 > 4294967295
   ·
    rw [if_pos c5] at H
    have c5b0 : decide (4294967295 < a0) = true := decide_eq_true c5
    clear c5
    obtain rfl := Option.some.inj H
    go_enter Try.func12, Try.ntmps12
    go_wp2
    go_ret
    exact ⟨by first | rfl | (simp; done) | (simp [*]; done), by repeat (first | exact Drawn0.refl _ | apply Drawn0.step)⟩
   ·
    rw [if_neg c5] at H
    have c5b0 : decide (4294967295 < a0) = false := decide_eq_false c5
    clear c5
    replace H := Option.bind_eq_some_iff.mp H
    obtain ⟨t197, A60, H⟩ := H
    replace H : (some t197) = some r := H
    have A6 := Aside0.mk A60
    clear A60
    obtain rfl := Option.some.inj H
    go_enter Try.func12, Try.ntmps12
    go_wp2_with (first | ((with_reducible refine gate_callee (f := 37) rfl ?_); refine goesL_ (some 18) rfl rfl Try.func37 (by kernel_rfl) rfl #[.int .i64 a0, .string a1] rfl (by (try simp only [List.map_toArray, List.map_cons, List.map_nil]); first | done | rfl | (simp only [List.length_drop, List.length_take]; rfl)) ?_; (with_reducible refine (spec_l01Crc.calls k a0 a1 t197 _ A6.out).mono ?_); rintro e w' ⟨rfl, ⟨nd, rfl⟩⟩; refine ⟨_, rfl, ?_⟩))
    go_ret
    exact ⟨by first | rfl | (simp; done) | (simp [*]; done), by repeat (first | exact Drawn0.refl _ | apply Drawn0.step)⟩

/-! ### impl_Crc: function 13 -/
def impl_Crc.f (k : Nat) (a0 : ByteArray) : Option (Int) := if (a0.size : Int) > 8000 then (some 0) else ((impl_crcMore.f k 0 a0).bind fun t198 => (some (wrap64 (t198))))
theorem impl_Crc.mono : ∀ a0 k, LeO (impl_Crc.f k a0) (impl_Crc.f (k + 1) a0) := by
 intro a0 k
 unfold impl_Crc.f
 repeat' first
   | (with_reducible exact impl_crcMore.mono _ _ _)
   | (with_reducible exact LeO.refl _)
   | (with_reducible exact LeO.none _)
   | (with_reducible refine LeO.ite ?_ ?_)
   | (with_reducible refine LeO.bind ?_ (fun _ => ?_))
   | exact impl_crcMore.mono _ _ _
   | exact LeO.none _
   | refine LeO.ite ?_ ?_
   | refine LeO.bind ?_ (fun _ => ?_)
set_option maxHeartbeats 8000000 in
set_option maxRecDepth 100000 in
theorem impl_Crc.calls (k : Nat) (a0 : ByteArray) (r : Int) (w : World) (h : impl_Crc.f k a0 = some r) :
  Calls Try.prog 13 #[.string a0] w fun e w' => e = .returned (.int .i64 r) ∧ Drawn0 w w' := by
 have H : (if (a0.size : Int) > 8000 then (some 0) else ((impl_crcMore.f k 0 a0).bind fun t198 => (some (wrap64 (t198))))) = some r := h
 clear h
 by_cases c2 : (a0.size : Int) > 8000
 ·
  rw [if_pos c2] at H
  have c2b0 : decide (8000 < (a0.size : Int)) = true := decide_eq_true c2
  have c2b1 : decide (8000 < a0.size) = true := decide_eq_true (by omega)
  clear c2
  obtain rfl := Option.some.inj H
  go_enter Try.func13, Try.ntmps13
  go_wp2
  go_ret
  exact ⟨by first | rfl | (simp; done) | (simp [*]; done), by repeat (first | exact Drawn0.refl _ | apply Drawn0.step)⟩
 ·
  rw [if_neg c2] at H
  have c2b0 : decide (8000 < (a0.size : Int)) = false := decide_eq_false c2
  have c2b1 : decide (8000 < a0.size) = false := decide_eq_false (by omega)
  clear c2
  replace H := Option.bind_eq_some_iff.mp H
  obtain ⟨t198, A30, H⟩ := H
  replace H : (some (wrap64 (t198))) = some r := H
  have A3 := Aside0.mk A30
  clear A30
  obtain rfl := Option.some.inj H
  go_enter Try.func13, Try.ntmps13
  go_wp2_with (first | ((with_reducible refine gate_callee (f := 42) rfl ?_); refine goesL_ (some 7) rfl rfl Try.func42 (by kernel_rfl) rfl #[.int .u32 0, .string a0] rfl (by (try simp only [List.map_toArray, List.map_cons, List.map_nil]); first | done | rfl | (simp only [List.length_drop, List.length_take]; rfl)) ?_; (with_reducible refine (impl_crcMore.calls k 0 a0 t198 _ A3.out).mono ?_); rintro e w' ⟨rfl, ⟨nd, rfl⟩⟩; refine ⟨_, rfl, ?_⟩))
  go_ret
  exact ⟨by first | rfl | (simp; done) | (simp [*]; done), by repeat (first | exact Drawn0.refl _ | apply Drawn0.step)⟩

-- NOT PRINTED: function 3 (laws_FnSeal)

/-! ### laws_FnSeal: function 3 -/
/-- s with its byte at i turned. -/
def laws_FnSeal.turned (s : ByteArray) (i x : Int) : ByteArray := strOfNums ((bytesOf s).set i.toNat x)
def laws_FnSeal.rest (k : Nat) (l1 : List Int) (t : ByteArray) : Option Bool :=
 (spec_DrawCrcMore.f k l1).bind fun b => if b.2.size ≤ 1000000 then (if (t.size : Int) + (b.2.size : Int) > 8000 then some true else
  (impl_CrcMore.f k b.1 b.2).bind fun x => (spec_CrcMore.f k b.1 b.2).bind fun y => if x = y then
   ((impl_Crc.f k t).bind fun c => (impl_CrcMore.f k c b.2).bind fun d => (impl_Crc.f k (t ++ b.2)).bind fun e => if d = e then some true else none) else none) else none
def laws_FnSeal.f (k : Nat) (l0 l1 : List Int) : Option Bool :=
 if (l0.length : Int) > 1048576 then some true else if (l1.length : Int) > 1048576 then some true else
 (spec_DrawSeal.f k l0).bind fun t => if t.size ≤ 1000000 then ((impl_Seal.f k t).bind fun s => (spec_Seal.f k t).bind fun s2 => if s = s2 then
  (if s.toList = ([] : List UInt8) then laws_FnSeal.rest k l1 t else if s.size ≤ 1000000 then (laws_lwAt.f l1 0 (s.size : Int)).bind fun i => (laws_lwAt.f l1 1 255).bind fun v => (if 0 ≤ i ∧ i < (s.size : Int) then
   ((impl_Unseal.f k s).bind fun u => if u = (t, 0, 0) then (impl_Unseal.f k (laws_FnSeal.turned s i (Go.bits .xor .u8 (bt s i) (IntKind.u8.wrap (wrap64 (1 + v)))))).bind fun u2 => if u2.2.2 = 5 then laws_FnSeal.rest k l1 t else none else none) else none) else none) else none) else none
/-- The row at g: the bytes xs. -/
def laws_FnSeal.Row (xs : List Int) (g : Nat) (W : World) : Prop :=
 ∃ (cur : Array Value) (m : Nat), W.heap[g]? = some (.cells cur 5 (m, m + 1)) ∧ xs.length ≤ m ∧ cur.size = m ∧ ∀ j, j < xs.length → cur[j]? = some (.int .u8 (xs.getD j 0))
theorem laws_FnSeal.Row.cell {xs : List Int} {g : Nat} {W : World} (h : laws_FnSeal.Row xs g W) (j : Nat) (hj : j < xs.length) : W.cell? ⟨g, j, none⟩ = some (.int .u8 (xs.getD j 0)) ∧ W.frozen? ⟨g, j, none⟩ = false := by
 obtain ⟨cur, m, hb, hm, hc, h1⟩ := h
 constructor
 ·
  have := h1 j hj
  simp [World.cell?, hb, this]
 ·
  simp [World.frozen?, hb]; omega
theorem laws_FnSeal.Row.put {xs : List Int} {g : Nat} {W : World} (h : laws_FnSeal.Row xs g W) (j : Nat) (hj : j < xs.length) (x : Int) : laws_FnSeal.Row (xs.set j x) g (W.setCell ⟨g, j, none⟩ (.int .u8 x)) := by
 obtain ⟨cur, m, hb, hm, hc, h1⟩ := h
 refine ⟨cur.set! j (.int .u8 x), m, ?_, by simpa using hm, by simpa using hc, fun i hi => ?_⟩
 ·
  rw [World.setCell]
  simp only [Array.getElem?_modify, if_true, hb, Option.map_some, Option.isSome_none, Bool.false_eq_true, if_false, Array.set!_eq_setIfInBounds]
 ·
  rw [List.length_set] at hi
  by_cases e : i = j
  ·
   subst e; simp [show i < cur.size by omega, List.getD_eq_getElem?_getD, hj]
  ·
   have := h1 i hi
   simp only [Array.set!_eq_setIfInBounds, Array.getElem?_setIfInBounds, if_neg (Ne.symm e), this, List.getD_eq_getElem?_getD, List.getElem?_set_ne (Ne.symm e)]
theorem laws_FnSeal.Row.reads {xs : List Int} {g : Nat} {W : World} (h : laws_FnSeal.Row xs g W) (hs : xs.length ≤ 9223372036854775807) : ReadsInt W .u8 (some ⟨g, 0, none⟩) xs.length xs := by
 refine ⟨rfl, hs, fun hp => ⟨_, rfl, fun j hj => ?_⟩⟩
 rw [add_plain]
 have := (h.cell j hj).1
 simpa using this
theorem laws_FnSeal.Row.begin (s : ByteArray) (W : World) : laws_FnSeal.Row (bytesOf s) W.heap.size (Lib.bytesWorld W 5 s) := by
 refine ⟨_, _, Lib.bytesWorld_at_new W 5 s, ?_, rfl, fun j hj => ?_⟩
 ·
  rw [bytesOf_length]; simp only [Lib.bytesCells, Array.size_append, Array.size_map]; show s.size ≤ s.data.size + _; exact Nat.le_add_right _ _
 ·
  rw [bytesOf_length] at hj
  have := Lib.bytesWorld_cell W 5 s j hj
  rw [show (some (Value.int .u8 ((bytesOf s).getD j 0)) : Option Value) = some (.int .u8 (s.data.toList.getD j 0).toNat) from ?_, ← this]
  ·
   simp [World.cell?, Lib.bytesWorld_at_new]
  ·
   congr 2
   have h' : j < s.data.toList.length := by rw [data_length]; exact hj
   simp [bytesOf, List.getD_eq_getElem?_getD, List.getElem?_eq_getElem h']
theorem laws_FnSeal.Row.drew {xs : List Int} {g : Nat} {W : World} (h : laws_FnSeal.Row xs g W) (n : Nat) : laws_FnSeal.Row xs g (W.drewN n) := h
theorem laws_FnSeal.Row.below {xs : List Int} {g b : Nat} {W W' : World} (h : laws_FnSeal.Row xs g W) (hb : Below b W W') (hg : g < b) : laws_FnSeal.Row xs g W' := by
 obtain ⟨cur, m, h1, h2⟩ := h
 exact ⟨cur, m, by rw [hb.block g hg]; exact h1, h2⟩
theorem laws_FnSeal.Row.lt {xs : List Int} {g : Nat} {W : World} (h : laws_FnSeal.Row xs g W) : g < W.heap.size := by
 obtain ⟨cur, m, hb, _⟩ := h
 rcases Nat.lt_or_ge g W.heap.size with h' | h'
 ·
  exact h'
 ·
  rw [Array.getElem?_eq_none h'] at hb; cases hb
set_option maxHeartbeats 8000000 in
set_option maxRecDepth 100000 in
theorem laws_FnSeal.calls (k : Nat) (A0 : Option Addr) (c0 : Nat) (l0 : List Int) (A1 : Option Addr) (c1 : Nat) (l1 : List Int) (r : Bool) (w : World) (hr0 : Kd.C (Kd.int .u8) w A0 l0.length l0) (hc0 : l0.length ≤ c0) (hr1 : Kd.C (Kd.int .u8) w A1 l1.length l1) (hc1 : l1.length ≤ c1) (h : laws_FnSeal.f k l0 l1 = some r) :
  Calls Try.prog 3 #[.slice A0 l0.length c0, .slice A1 l1.length c1] w fun e w' => e = .returned (.bool r) ∧ Below w.heap.size w w' := by
 unfold laws_FnSeal.f at h
 by_cases c1_ : (l0.length : Int) > 1048576
 ·
  rw [if_pos c1_] at h
  obtain rfl := Option.some.inj h
  have c1b0 : decide (1048576 < (l0.length : Int)) = true := decide_eq_true c1_
  have c1b1 : decide (1048576 < l0.length) = true := decide_eq_true (by omega)
  go_enter Try.func3, Try.ntmps3
  go_wp2
  go_ret
  exact ⟨rfl, by first | exact Below.refl _ _ | (repeat (first | exact Below.refl _ _ | apply pw_below_drewN | apply below_drew1))⟩
 rw [if_neg c1_] at h
 have c1b0 : decide (1048576 < (l0.length : Int)) = false := decide_eq_false c1_
 have c1b1 : decide (1048576 < l0.length) = false := decide_eq_false (by omega)
 clear c1_
 by_cases c2_ : (l1.length : Int) > 1048576
 ·
  rw [if_pos c2_] at h
  obtain rfl := Option.some.inj h
  have c2b0 : decide (1048576 < (l1.length : Int)) = true := decide_eq_true c2_
  have c2b1 : decide (1048576 < l1.length) = true := decide_eq_true (by omega)
  go_enter Try.func3, Try.ntmps3
  go_wp2
  go_ret
  exact ⟨rfl, by first | exact Below.refl _ _ | (repeat (first | exact Below.refl _ _ | apply pw_below_drewN | apply below_drew1))⟩
 rw [if_neg c2_] at h
 have c2b0 : decide (1048576 < (l1.length : Int)) = false := decide_eq_false c2_
 have c2b1 : decide (1048576 < l1.length) = false := decide_eq_false (by omega)
 clear c2_
 have HR0_ := Aside0.mk hr0
 have HR1_ := Aside0.mk hr1
 have HC0_ := Aside0.mk hc0
 have HC1_ := Aside0.mk hc1
 clear hr0 hr1 hc0 hc1
 replace h := Option.bind_eq_some_iff.1 h
 obtain ⟨t, et, h⟩ := h
 by_cases ct : t.size ≤ 1000000
 rotate_left
 ·
  rw [if_neg ct] at h; cases h
 rw [if_pos ct] at h
 replace h := Option.bind_eq_some_iff.1 h
 obtain ⟨s, es, h⟩ := h
 replace h := Option.bind_eq_some_iff.1 h
 obtain ⟨s2, es2, h⟩ := h
 by_cases c3_ : s = s2
 rotate_left
 ·
  rw [if_neg c3_] at h; cases h
 subst c3_
 rw [if_pos rfl] at h
 have ET := Aside0.mk et
 have ES := Aside0.mk es
 have ES2 := Aside0.mk es2
 have CT := Aside0.mk ct
 clear et es es2 ct
 by_cases c4 : s.toList = ([] : List UInt8)
 ·
  rw [if_pos c4] at h
  have c4b0 : (s.toList != ([] : List UInt8)) = false := by rw [c4]; rfl
  have c4b1 : (s.toList == ([] : List UInt8)) = true := by rw [c4]; rfl
  have c4b2 : s = (⟨#[]⟩ : ByteArray) := by rcases s with ⟨⟨a⟩⟩; simp [ByteArray.toList_eq] at c4; subst c4; rfl
  clear c4
  subst c4b2
  go_enter Try.func3, Try.ntmps3
  have HH := Aside0.mk h
  unfold laws_FnSeal.rest at h
  replace h := Option.bind_eq_some_iff.1 h
  obtain ⟨⟨cc, u⟩, eu, h⟩ := h
  by_cases cu : u.size ≤ 1000000
  rotate_left
  ·
   simp only [if_neg cu] at h; cases h
  simp only [if_pos cu] at h
  have EU := Aside0.mk eu
  have CU := Aside0.mk cu
  clear eu cu HH
  have w64 : wrap64 ((t.size : Int) + (u.size : Int)) = (t.size : Int) + (u.size : Int) := by have := CT.out; have := CU.out; unfold wrap64; omega
  have cat1 : (9223372036854775807 < t.size + u.size) = False := eq_false (by have := CT.out; have := CU.out; omega)
  have cat2 : t.size + u.size ≤ 9223372036854775807 := by have := CT.out; have := CU.out; omega
  by_cases c8 : (t.size : Int) + (u.size : Int) > 8000
  ·
   rw [if_pos c8] at h
   obtain rfl := Option.some.inj h
   have c8b0 : decide (8000 < (t.size : Int) + (u.size : Int)) = true := decide_eq_true c8
   have c8b1 : decide (8000 < t.size + u.size) = true := decide_eq_true (by omega)
   go_wp2_with (first | (go_at_call 5; ((with_reducible refine (spec_DrawSeal.calls k A0 c0 l0 t _ (by repeat (first | exact HR0_.out | (with_reducible refine Kd.C_alloc ?_ _) | (with_reducible refine Kd.C_drewN ?_ _) | (with_reducible refine Kd.C_drew ?_))) HC0_.out ET.out).mono ?_); rintro e wq1 ⟨rfl, hb⟩; have HB1 := Aside0.mk (show Below w.heap.size w wq1 from below_step (by repeat (first | exact Below.refl _ _ | apply pw_below_drewN | apply below_drew1 | apply below_alloc)) hb); clear hb)) | (go_at_call 6; ((with_reducible refine (impl_Seal.calls k t _ _ ES.out).mono ?_); rintro e wq2 ⟨rfl, hb⟩; have HB2 := Aside0.mk (show Below w.heap.size w wq2 from below_step (by repeat (first | exact Below.refl _ _ | exact HB1.out | apply pw_below_drewN | apply below_drew1 | apply below_alloc)) hb); clear hb)) | (go_at_call 7; ((with_reducible refine (spec_Seal.calls k t _ _ ES2.out).mono ?_); rintro e wq3 ⟨rfl, hb⟩; have HB3 := Aside0.mk (show Below w.heap.size w wq3 from below_step (by repeat (first | exact Below.refl _ _ | exact HB2.out | apply pw_below_drewN | apply below_drew1 | apply below_alloc)) hb); clear hb)) | (go_at_call 10; ((with_reducible refine (spec_DrawCrcMore.calls k A1 c1 l1 cc u _ (by repeat (first | exact (Kd.C_below HR1_.out HB3.out) | (with_reducible refine Kd.C_alloc ?_ _) | (with_reducible refine Kd.C_drewN ?_ _) | (with_reducible refine Kd.C_drew ?_))) HC1_.out EU.out).mono ?_); rintro e wq7 ⟨rfl, hb⟩; have HBd := Aside0.mk (show Below w.heap.size w wq7 from below_step (by repeat (first | exact Below.refl _ _ | exact HB3.out | apply pw_below_drewN | apply below_drew1 | apply below_alloc)) hb); clear hb)))
   go_ret
   exact ⟨rfl, by repeat (first | exact Below.refl _ _ | exact HBd.out | apply pw_below_drewN | apply below_drew1 | apply below_alloc)⟩
  rw [if_neg c8] at h
  have c8b0 : decide (8000 < (t.size : Int) + (u.size : Int)) = false := decide_eq_false c8
  have c8b1 : decide (8000 < t.size + u.size) = false := decide_eq_false (by omega)
  clear c8
  replace h := Option.bind_eq_some_iff.1 h
  obtain ⟨x, ex, h⟩ := h
  replace h := Option.bind_eq_some_iff.1 h
  obtain ⟨y, ey, h⟩ := h
  by_cases cxy : x = y
  rotate_left
  ·
   rw [if_neg cxy] at h; cases h
  subst cxy
  rw [if_pos rfl] at h
  replace h := Option.bind_eq_some_iff.1 h
  obtain ⟨c, ec, h⟩ := h
  replace h := Option.bind_eq_some_iff.1 h
  obtain ⟨d, ed, h⟩ := h
  replace h := Option.bind_eq_some_iff.1 h
  obtain ⟨e', ee, h⟩ := h
  by_cases cde : d = e'
  rotate_left
  ·
   rw [if_neg cde] at h; cases h
  subst cde
  rw [if_pos rfl] at h
  obtain rfl := Option.some.inj h
  have EX := Aside0.mk ex
  have EY := Aside0.mk ey
  have EC := Aside0.mk ec
  have ED := Aside0.mk ed
  have EE := Aside0.mk ee
  clear ex ey ec ed ee
  go_wp2_with (first | (go_at_call 5; ((with_reducible refine (spec_DrawSeal.calls k A0 c0 l0 t _ (by repeat (first | exact HR0_.out | (with_reducible refine Kd.C_alloc ?_ _) | (with_reducible refine Kd.C_drewN ?_ _) | (with_reducible refine Kd.C_drew ?_))) HC0_.out ET.out).mono ?_); rintro e wq1 ⟨rfl, hb⟩; have HB1 := Aside0.mk (show Below w.heap.size w wq1 from below_step (by repeat (first | exact Below.refl _ _ | apply pw_below_drewN | apply below_drew1 | apply below_alloc)) hb); clear hb)) | (go_at_call 6; ((with_reducible refine (impl_Seal.calls k t _ _ ES.out).mono ?_); rintro e wq2 ⟨rfl, hb⟩; have HB2 := Aside0.mk (show Below w.heap.size w wq2 from below_step (by repeat (first | exact Below.refl _ _ | exact HB1.out | apply pw_below_drewN | apply below_drew1 | apply below_alloc)) hb); clear hb)) | (go_at_call 7; ((with_reducible refine (spec_Seal.calls k t _ _ ES2.out).mono ?_); rintro e wq3 ⟨rfl, hb⟩; have HB3 := Aside0.mk (show Below w.heap.size w wq3 from below_step (by repeat (first | exact Below.refl _ _ | exact HB2.out | apply pw_below_drewN | apply below_drew1 | apply below_alloc)) hb); clear hb)) | (go_at_call 10; ((with_reducible refine (spec_DrawCrcMore.calls k A1 c1 l1 cc u _ (by repeat (first | exact (Kd.C_below HR1_.out HB3.out) | (with_reducible refine Kd.C_alloc ?_ _) | (with_reducible refine Kd.C_drewN ?_ _) | (with_reducible refine Kd.C_drew ?_))) HC1_.out EU.out).mono ?_); rintro e wq7 ⟨rfl, hb⟩; have HBd := Aside0.mk (show Below w.heap.size w wq7 from below_step (by repeat (first | exact Below.refl _ _ | exact HB3.out | apply pw_below_drewN | apply below_drew1 | apply below_alloc)) hb); clear hb)) | (go_at_call 11; (with_reducible refine (impl_CrcMore.calls k cc u x _ EX.out).mono ?_); rintro e wq ⟨rfl, ⟨nd, rfl⟩⟩) | (go_at_call 12; (with_reducible refine (spec_CrcMore.calls k cc u x _ EY.out).mono ?_); rintro e wq ⟨rfl, ⟨nd, rfl⟩⟩) | (go_at_call 13; (with_reducible refine (impl_Crc.calls k t c _ EC.out).mono ?_); rintro e wq ⟨rfl, ⟨nd, rfl⟩⟩) | (go_at_call 11; (with_reducible refine (impl_CrcMore.calls k c u d _ ED.out).mono ?_); rintro e wq ⟨rfl, ⟨nd, rfl⟩⟩) | (go_at_call 13; (with_reducible refine (impl_Crc.calls k (t ++ u) d _ EE.out).mono ?_); rintro e wq ⟨rfl, ⟨nd, rfl⟩⟩))
  go_ret
  exact ⟨rfl, by repeat (first | exact Below.refl _ _ | exact HBd.out | apply pw_below_drewN | apply below_drew1 | apply below_alloc)⟩
 rw [if_neg c4] at h
 have c4b0 : (s.toList != ([] : List UInt8)) = true := by simpa using c4
 have c4b1 : (s.toList == ([] : List UInt8)) = false := by simpa using c4
 by_cases cs : s.size ≤ 1000000
 rotate_left
 ·
  rw [if_neg cs] at h; cases h
 rw [if_pos cs] at h
 replace h := Option.bind_eq_some_iff.1 h
 obtain ⟨i, ei, h⟩ := h
 replace h := Option.bind_eq_some_iff.1 h
 obtain ⟨v, ev, h⟩ := h
 by_cases ci : 0 ≤ i ∧ i < (s.size : Int)
 rotate_left
 ·
  rw [if_neg ci] at h; cases h
 rw [if_pos ci] at h
 obtain ⟨ci0, ci⟩ := ci
 obtain ⟨m, rfl⟩ := Int.eq_ofNat_of_zero_le ci0
 replace h := Option.bind_eq_some_iff.1 h
 obtain ⟨⟨u1, u2, u3⟩, eu1, h⟩ := h
 by_cases cu1 : (u1, u2, u3) = (t, (0 : Int), (0 : Int))
 rotate_left
 ·
  rw [if_neg cu1] at h; cases h
 rw [if_pos cu1] at h
 simp only [Prod.mk.injEq] at cu1
 obtain ⟨cu1, rfl, rfl⟩ := cu1
 replace cu1 := cu1.symm
 subst cu1
 replace h := Option.bind_eq_some_iff.1 h
 obtain ⟨⟨v1, v2, v3⟩, eu2, h⟩ := h
 by_cases cv3 : v3 = 5
 rotate_left
 ·
  simp only [if_neg cv3] at h; cases h
 subst cv3
 simp only [if_true] at h
 have EI := Aside0.mk ei
 have EV := Aside0.mk ev
 have EU1 := Aside0.mk eu1
 have EU2 := Aside0.mk eu2
 have CS := Aside0.mk cs
 have CI := Aside0.mk ci
 clear ei ev eu1 eu2 cs ci c4
 have HH := Aside0.mk h
 clear h
 have hu9 := Try.underlying9
 have hu22 := Try.underlying22
 have kb := fun W => print_bytes (P := Try.prog) 9 22 5 Try.underlying9 Try.underlying22 Try.underlying5 s W
 go_enter Try.func3, Try.ntmps3
 go_upto_region 9 with (first | (go_at_call 5; ((with_reducible refine (spec_DrawSeal.calls k A0 c0 l0 t _ (by repeat (first | exact HR0_.out | (with_reducible refine Kd.C_alloc ?_ _) | (with_reducible refine Kd.C_drewN ?_ _) | (with_reducible refine Kd.C_drew ?_))) HC0_.out ET.out).mono ?_); rintro e wq1 ⟨rfl, hb⟩; have HB1 := Aside0.mk (show Below w.heap.size w wq1 from below_step (by repeat (first | exact Below.refl _ _ | apply pw_below_drewN | apply below_drew1 | apply below_alloc)) hb); clear hb)) | (go_at_call 6; ((with_reducible refine (impl_Seal.calls k t _ _ ES.out).mono ?_); rintro e wq2 ⟨rfl, hb⟩; have HB2 := Aside0.mk (show Below w.heap.size w wq2 from below_step (by repeat (first | exact Below.refl _ _ | exact HB1.out | apply pw_below_drewN | apply below_drew1 | apply below_alloc)) hb); clear hb)) | (go_at_call 7; ((with_reducible refine (spec_Seal.calls k t _ _ ES2.out).mono ?_); rintro e wq3 ⟨rfl, hb⟩; have HB3 := Aside0.mk (show Below w.heap.size w wq3 from below_step (by repeat (first | exact Below.refl _ _ | exact HB2.out | apply pw_below_drewN | apply below_drew1 | apply below_alloc)) hb); clear hb)))
 have HB4 := Aside0.mk (bytes_below HB3.out HB3.out.size 5 s)
 have HR := Aside0.mk (laws_FnSeal.Row.begin s wq3)
 have HG := Aside0.mk HB3.out.size
 generalize grownCap wq3 s.size 0 5 = cap
 generalize Lib.bytesWorld wq3 5 s = wb at HR HB4 ⊢
 generalize wq3.heap.size = g at HR HG ⊢
 clear kb HB1 HB2 HB3
 have hm0 : (0 : Int) ≤ (m : Int) := by omega
 have hm1 : (m : Int) < (s.size : Int) := CI.out
 have hm2 : m < s.size := by omega
 go_upto_region 10 with (first | (go_at_call 8; (with_reducible refine (laws_lwAt.calls A1 c1 l1 0 (s.size : Int) (m : Int) _ (by repeat (first | exact (Kd.C_below HR1_.out HB4.out) | (with_reducible refine Kd.C_alloc ?_ _) | (with_reducible refine Kd.C_drewN ?_ _) | (with_reducible refine Kd.C_drew ?_))) HC1_.out EI.out).mono ?_); rintro e wq ⟨rfl, ⟨nd, rfl⟩⟩))
 have hbm : (bytesOf s).getD m 0 = bt s (m : Int) := by (simp [bytesOf, bt, hm2, List.getD_eq_getElem?_getD, List.getElem?_eq_getElem (show m < s.data.toList.length by rw [data_length]; exact hm2)]; try rfl)
 have hlen : (bytesOf s).length = s.size := bytesOf_length s
 have hx : (wb.drewN nd).drew.cell? ⟨g, m, none⟩ = some (.int .u8 (bt s (m : Int))) := by rw [← hbm]; exact (HR.out.cell m (by rw [hlen]; exact hm2)).1
 refine start_ (n := 13) (S := fun w' => w'.cell? ⟨g, m, none⟩ = some (.int .u8 (bt s (m : Int)))) (ds := [12]) #[false, false, false, false, false, false, false, false, false, false, false, false, false] (by kernel_rfl) rfl rfl hx (fun hHeld => ?_)
 have HB5 := Aside0.mk (show Below w.heap.size w (wb.drewN nd).drew from below_drew (pw_below_drewN HB4.out _))
 have HR5 := Aside0.mk (show laws_FnSeal.Row (bytesOf s) g (wb.drewN nd).drew from HR.out)
 clear hx HB4 HR
 generalize (wb.drewN nd).drew = wd at HB5 HR5 hHeld ⊢
 refine pure_ (i := 0) (N := some 35) (v := ?_) (a' := ?_) #[true, false, false, false, false, false, false, false, false, false, false, false, false] rfl rfl (by kernel_rfl) (fun _ _ _ h => h) (Or.inl ⟨by rfl, ?_⟩) ?_ ?_
 rotate_left
 ·
  intro w'
  go_simp
  with_reducible rfl
 rotate_left
 ·
  simp only [Act.put, List.setIfInBounds_toArray, List.set_cons_zero, List.set_cons_succ, i64_w, i32_w]
  rfl
 refine pure_ (i := 1) (N := some 36) (v := ?_) (a' := ?_) #[true, true, false, false, false, false, false, false, false, false, false, false, false] rfl rfl (by kernel_rfl) (fun _ _ _ h => h) (Or.inl ⟨by rfl, ?_⟩) ?_ ?_
 rotate_left
 ·
  intro w'
  go_simp
  with_reducible rfl
 rotate_left
 ·
  simp only [Act.put, List.setIfInBounds_toArray, List.set_cons_zero, List.set_cons_succ, i64_w, i32_w]
  rfl
 refine pure_ (i := 2) (N := some 37) (v := ?_) (a' := ?_) #[true, true, true, false, false, false, false, false, false, false, false, false, false] rfl rfl (by kernel_rfl) (fun _ _ _ h => h) (Or.inl ⟨by rfl, ?_⟩) ?_ ?_
 rotate_left
 ·
  intro w'
  go_simp
  with_reducible rfl
 rotate_left
 ·
  simp only [Act.put, List.setIfInBounds_toArray, List.set_cons_zero, List.set_cons_succ, i64_w, i32_w]
  rfl
 refine pure_ (i := 3) (N := some 38) (v := ?_) (a' := ?_) #[true, true, true, true, false, false, false, false, false, false, false, false, false] rfl rfl (by kernel_rfl) (fun _ _ _ h => h) (Or.inl ⟨by rfl, ?_⟩) ?_ ?_
 rotate_left
 ·
  intro w'
  go_simp
  with_reducible rfl
 rotate_left
 ·
  simp only [Act.put, List.setIfInBounds_toArray, List.set_cons_zero, List.set_cons_succ, i64_w, i32_w]
  rfl
 refine pure_ (i := 4) (N := some 39) (v := ?_) (a' := ?_) #[true, true, true, true, true, false, false, false, false, false, false, false, false] rfl rfl (by kernel_rfl) (fun _ _ _ h => h) (Or.inl ⟨by rfl, ?_⟩) ?_ ?_
 rotate_left
 ·
  intro w'
  go_simp
  with_reducible rfl
 rotate_left
 ·
  simp only [Act.put, List.setIfInBounds_toArray, List.set_cons_zero, List.set_cons_succ, i64_w, i32_w]
  rfl
 refine take_ (i := 5) (N := some 40) (v := ?_) (a' := ?_) #[true, true, true, true, true, true, false, false, false, false, false, false, false] rfl rfl (by kernel_rfl) (fun _ _ _ h => h) (Or.inl ⟨by rfl, ?_⟩) hHeld ?_ ?_
 rotate_left
 ·
  rintro w' s0
  go_simp
  with_reducible rfl
 rotate_left
 ·
  simp only [Act.put, List.setIfInBounds_toArray, List.set_cons_zero, List.set_cons_succ, i64_w, i32_w]
  rfl
 refine pure_ (i := 6) (N := some 41) (v := ?_) (a' := ?_) #[true, true, true, true, true, true, true, false, false, false, false, false, false] rfl rfl (by kernel_rfl) (fun _ _ _ h => h) (Or.inl ⟨by rfl, ?_⟩) ?_ ?_
 rotate_left
 ·
  intro w'
  go_simp
  with_reducible rfl
 rotate_left
 ·
  simp only [Act.put, List.setIfInBounds_toArray, List.set_cons_zero, List.set_cons_succ, i64_w, i32_w]
  rfl
 refine one_ (i := 7) (N := some 42) #[true, true, true, true, true, true, true, true, false, false, false, false, false] rfl rfl (by kernel_rfl) (by decide) (fun K hK => ?_)
 refine goes_ Try.func8 (by kernel_rfl) rfl #[.slice A1 l1.length c1, .int .i64 1, .int .i64 255] (by rfl) rfl rfl (by (try simp only [List.map_toArray, List.map_cons, List.map_nil]); first | done | rfl) ?_
 refine (laws_lwAt.calls A1 c1 l1 1 255 v _ (by repeat (first | exact (Kd.C_below HR1_.out HB5.out) | (with_reducible refine Kd.C_alloc ?_ _) | (with_reducible refine Kd.C_drewN ?_ _) | (with_reducible refine Kd.C_drew ?_))) HC1_.out EV.out).mono ?_
 rintro e w2 ⟨rfl, ⟨nd2, rfl⟩⟩
 refine ⟨_, rfl, ?_⟩
 have hx2 : (wd.drewN nd2).cell? ⟨g, m, none⟩ = some (.int .u8 (bt s (m : Int))) := by rw [← hbm]; exact (HR5.out.cell m (by rw [hlen]; exact hm2)).1
 have hf2 : (wd.drewN nd2).frozen? ⟨g, m, none⟩ = false := (HR5.out.cell m (by rw [hlen]; exact hm2)).2
 refine hK.out _ _ hx2 (fun hHeld => ?_)
 clear hK K
 refine norm_ (a' := ?_) ?_ ?_
 rotate_left
 ·
  show Act.put _ (some 42) _ = _
  simp only [Act.put, List.setIfInBounds_toArray, List.set_cons_zero, List.set_cons_succ, i64_w, i32_w]
  rfl
 refine pure_ (i := 8) (N := some 43) (v := ?_) (a' := ?_) #[true, true, true, true, true, true, true, true, true, false, false, false, false] rfl rfl (by kernel_rfl) (fun _ _ _ h => h) (Or.inl ⟨by rfl, ?_⟩) ?_ ?_
 rotate_left
 ·
  intro w'
  go_simp
  with_reducible rfl
 rotate_left
 ·
  simp only [Act.put, List.setIfInBounds_toArray, List.set_cons_zero, List.set_cons_succ, i64_w, i32_w]
  rfl
 refine pure_ (i := 9) (N := some 44) (v := ?_) (a' := ?_) #[true, true, true, true, true, true, true, true, true, true, false, false, false] rfl rfl (by kernel_rfl) (fun _ _ _ h => h) (Or.inl ⟨by rfl, ?_⟩) ?_ ?_
 rotate_left
 ·
  intro w'
  go_simp
  with_reducible rfl
 rotate_left
 ·
  simp only [Act.put, List.setIfInBounds_toArray, List.set_cons_zero, List.set_cons_succ, i64_w, i32_w]
  rfl
 refine pure_ (i := 10) (N := some 45) (v := ?_) (a' := ?_) #[true, true, true, true, true, true, true, true, true, true, true, false, false] rfl rfl (by kernel_rfl) (fun _ _ _ h => h) (Or.inl ⟨by rfl, ?_⟩) ?_ ?_
 rotate_left
 ·
  intro w'
  go_simp
  with_reducible rfl
 rotate_left
 ·
  simp only [Act.put, List.setIfInBounds_toArray, List.set_cons_zero, List.set_cons_succ, i64_w, i32_w]
  rfl
 refine pure_ (i := 11) (N := some 46) (v := ?_) (a' := ?_) #[true, true, true, true, true, true, true, true, true, true, true, true, false] rfl rfl (by kernel_rfl) (fun _ _ _ h => h) (Or.inl ⟨by rfl, ?_⟩) ?_ ?_
 rotate_left
 ·
  intro w'
  go_simp
  with_reducible rfl
 rotate_left
 ·
  simp only [Act.put, List.setIfInBounds_toArray, List.set_cons_zero, List.set_cons_succ, i64_w, i32_w]
  rfl
 refine last_ (i := 12) (N := none) #[true, true, true, true, true, true, true, true, true, true, true, true, true] rfl rfl (by kernel_rfl) (by decide) (fun K hK => ?_)
 refine skip_ (w1 := ?_) (by rfl) rfl ?_ ?_
 rotate_left
 ·
  go_simp
  rfl
 refine hK.out _ _ ?_
 clear hK K
 refine done_ (by kernel_rfl) ?_
 have HX := Aside0.mk (show laws_FnSeal.Row ((bytesOf s).set m (bits .xor .u8 (bt s (m : Int)) (IntKind.u8.wrap (wrap64 (1 + v))))) g ((wd.drewN nd2).setCell ⟨g, m, none⟩ (.int .u8 (bits .xor .u8 (bt s (m : Int)) (IntKind.u8.wrap (wrap64 (1 + v)))))) from laws_FnSeal.Row.put (W := wd.drewN nd2) HR5.out m (by rw [hlen]; exact hm2) _)
 have HB6 := Aside0.mk (show Below w.heap.size w ((wd.drewN nd2).setCell ⟨g, m, none⟩ (.int .u8 (bits .xor .u8 (bt s (m : Int)) (IntKind.u8.wrap (wrap64 (1 + v)))))) from (pw_below_drewN HB5.out nd2).setCell HG.out _)
 have EW := Aside0.mk (show impl_Unseal.f k (strOfNums ((bytesOf s).set m (bits .xor .u8 (bt s (m : Int)) (IntKind.u8.wrap (wrap64 (1 + v)))))) = some (v1, v2, 5) from EU2.out)
 clear hx2 hf2 hHeld HR5 HB5 EU2 hbm hm0 hm1
 generalize hXX : bits .xor .u8 (bt s (m : Int)) (IntKind.u8.wrap (wrap64 (1 + v))) = X at HX HB6 EW ⊢
 clear hXX
 generalize (wd.drewN nd2).setCell ⟨g, m, none⟩ (.int .u8 X) = wx at HX HB6 ⊢
 have hl2 : ((bytesOf s).set m X).length = s.size := by rw [List.length_set]; exact hlen
 have h := HH.out
 clear HH
 have HH := Aside0.mk h
 unfold laws_FnSeal.rest at h
 replace h := Option.bind_eq_some_iff.1 h
 obtain ⟨⟨cc, u⟩, eu, h⟩ := h
 by_cases cu : u.size ≤ 1000000
 rotate_left
 ·
  simp only [if_neg cu] at h; cases h
 simp only [if_pos cu] at h
 have EU := Aside0.mk eu
 have CU := Aside0.mk cu
 clear eu cu HH
 have w64 : wrap64 ((t.size : Int) + (u.size : Int)) = (t.size : Int) + (u.size : Int) := by have := CT.out; have := CU.out; unfold wrap64; omega
 have cat1 : (9223372036854775807 < t.size + u.size) = False := eq_false (by have := CT.out; have := CU.out; omega)
 have cat2 : t.size + u.size ≤ 9223372036854775807 := by have := CT.out; have := CU.out; omega
 by_cases c8 : (t.size : Int) + (u.size : Int) > 8000
 ·
  rw [if_pos c8] at h
  obtain rfl := Option.some.inj h
  have c8b0 : decide (8000 < (t.size : Int) + (u.size : Int)) = true := decide_eq_true c8
  have c8b1 : decide (8000 < t.size + u.size) = true := decide_eq_true (by omega)
  go_wp2_with (first | (go_at_call 9; ((with_reducible refine (impl_Unseal.calls k s t 0 0 _ EU1.out).mono ?_); rintro e wq4 ⟨rfl, hb⟩; have HB7 := Aside0.mk (show Below w.heap.size w wq4 from below_step (by repeat (first | exact Below.refl _ _ | exact HB6.out | apply pw_below_drewN | apply below_drew1 | apply below_alloc)) hb); have HX7 := Aside0.mk (HX.out.below hb HX.out.lt); have hcv := string_of_reads (P := Try.prog) (src := 22) (dst := 9) (c := cap) Try.underlying22 Try.underlying5 Try.underlying9 (show ReadsInt wq4 .u8 (some ⟨g, 0, none⟩) s.size ((bytesOf s).set m X) from by (have hq := HX7.out.reads (by rw [hl2]; have := CS.out; omega); rwa [hl2] at hq)); clear hb)) | (go_at_call 9; ((with_reducible refine (impl_Unseal.calls k _ v1 v2 5 _ EW.out).mono ?_); rintro e wq5 ⟨rfl, hb⟩; have HB8 := Aside0.mk (show Below w.heap.size w wq5 from below_step (by repeat (first | exact Below.refl _ _ | exact HB7.out | apply pw_below_drewN | apply below_drew1 | apply below_alloc)) hb); clear hb)) | (go_at_call 10; ((with_reducible refine (spec_DrawCrcMore.calls k A1 c1 l1 cc u _ (by repeat (first | exact (Kd.C_below HR1_.out HB8.out) | (with_reducible refine Kd.C_alloc ?_ _) | (with_reducible refine Kd.C_drewN ?_ _) | (with_reducible refine Kd.C_drew ?_))) HC1_.out EU.out).mono ?_); rintro e wq6 ⟨rfl, hb⟩; have HBd := Aside0.mk (show Below w.heap.size w wq6 from below_step (by repeat (first | exact Below.refl _ _ | exact HB8.out | apply pw_below_drewN | apply below_drew1 | apply below_alloc)) hb); clear hb)))
  go_ret
  exact ⟨rfl, by repeat (first | exact Below.refl _ _ | exact HBd.out | apply pw_below_drewN | apply below_drew1 | apply below_alloc)⟩
 rw [if_neg c8] at h
 have c8b0 : decide (8000 < (t.size : Int) + (u.size : Int)) = false := decide_eq_false c8
 have c8b1 : decide (8000 < t.size + u.size) = false := decide_eq_false (by omega)
 clear c8
 replace h := Option.bind_eq_some_iff.1 h
 obtain ⟨x, ex, h⟩ := h
 replace h := Option.bind_eq_some_iff.1 h
 obtain ⟨y, ey, h⟩ := h
 by_cases cxy : x = y
 rotate_left
 ·
  rw [if_neg cxy] at h; cases h
 subst cxy
 rw [if_pos rfl] at h
 replace h := Option.bind_eq_some_iff.1 h
 obtain ⟨c, ec, h⟩ := h
 replace h := Option.bind_eq_some_iff.1 h
 obtain ⟨d, ed, h⟩ := h
 replace h := Option.bind_eq_some_iff.1 h
 obtain ⟨e', ee, h⟩ := h
 by_cases cde : d = e'
 rotate_left
 ·
  rw [if_neg cde] at h; cases h
 subst cde
 rw [if_pos rfl] at h
 obtain rfl := Option.some.inj h
 have EX := Aside0.mk ex
 have EY := Aside0.mk ey
 have EC := Aside0.mk ec
 have ED := Aside0.mk ed
 have EE := Aside0.mk ee
 clear ex ey ec ed ee
 go_wp2_with (first | (go_at_call 9; ((with_reducible refine (impl_Unseal.calls k s t 0 0 _ EU1.out).mono ?_); rintro e wq4 ⟨rfl, hb⟩; have HB7 := Aside0.mk (show Below w.heap.size w wq4 from below_step (by repeat (first | exact Below.refl _ _ | exact HB6.out | apply pw_below_drewN | apply below_drew1 | apply below_alloc)) hb); have HX7 := Aside0.mk (HX.out.below hb HX.out.lt); have hcv := string_of_reads (P := Try.prog) (src := 22) (dst := 9) (c := cap) Try.underlying22 Try.underlying5 Try.underlying9 (show ReadsInt wq4 .u8 (some ⟨g, 0, none⟩) s.size ((bytesOf s).set m X) from by (have hq := HX7.out.reads (by rw [hl2]; have := CS.out; omega); rwa [hl2] at hq)); clear hb)) | (go_at_call 9; ((with_reducible refine (impl_Unseal.calls k _ v1 v2 5 _ EW.out).mono ?_); rintro e wq5 ⟨rfl, hb⟩; have HB8 := Aside0.mk (show Below w.heap.size w wq5 from below_step (by repeat (first | exact Below.refl _ _ | exact HB7.out | apply pw_below_drewN | apply below_drew1 | apply below_alloc)) hb); clear hb)) | (go_at_call 10; ((with_reducible refine (spec_DrawCrcMore.calls k A1 c1 l1 cc u _ (by repeat (first | exact (Kd.C_below HR1_.out HB8.out) | (with_reducible refine Kd.C_alloc ?_ _) | (with_reducible refine Kd.C_drewN ?_ _) | (with_reducible refine Kd.C_drew ?_))) HC1_.out EU.out).mono ?_); rintro e wq6 ⟨rfl, hb⟩; have HBd := Aside0.mk (show Below w.heap.size w wq6 from below_step (by repeat (first | exact Below.refl _ _ | exact HB8.out | apply pw_below_drewN | apply below_drew1 | apply below_alloc)) hb); clear hb)) | (go_at_call 11; (with_reducible refine (impl_CrcMore.calls k cc u x _ EX.out).mono ?_); rintro e wq ⟨rfl, ⟨nd, rfl⟩⟩) | (go_at_call 12; (with_reducible refine (spec_CrcMore.calls k cc u x _ EY.out).mono ?_); rintro e wq ⟨rfl, ⟨nd, rfl⟩⟩) | (go_at_call 13; (with_reducible refine (impl_Crc.calls k t c _ EC.out).mono ?_); rintro e wq ⟨rfl, ⟨nd, rfl⟩⟩) | (go_at_call 11; (with_reducible refine (impl_CrcMore.calls k c u d _ ED.out).mono ?_); rintro e wq ⟨rfl, ⟨nd, rfl⟩⟩) | (go_at_call 13; (with_reducible refine (impl_Crc.calls k (t ++ u) d _ EE.out).mono ?_); rintro e wq ⟨rfl, ⟨nd, rfl⟩⟩))
 go_ret
 exact ⟨rfl, by repeat (first | exact Below.refl _ _ | exact HBd.out | apply pw_below_drewN | apply below_drew1 | apply below_alloc)⟩
/-- THE ONE PURE STATEMENT of laws_FnSeal: yours. -/
def laws_FnSeal.Pure : Prop := ∀ (l0 : List Int) (l1 : List Int), l0.length ≤ maxLen → l0.length * 1 ≤ 140737488351232 → (∀ x ∈ l0, (Lit.int .u8 x).wf = true) → l1.length ≤ maxLen → l1.length * 1 ≤ 140737488351232 → (∀ x ∈ l1, (Lit.int .u8 x).wf = true) → ∃ k, laws_FnSeal.f k l0 l1 = some true
theorem laws_FnSeal.walk (P : laws_FnSeal.Pure) (a0 : Option Addr) (len0 cap0 : Nat) (z0 : List Int) (a1 : Option Addr) (len1 cap1 : Nat) (z1 : List Int) (w : World) (w0 : (a0 = none ∧ len0 = 0 ∧ cap0 = 0 ∧ z0 = []) ∨ ∃ x, a0 = some x ∧ len0 ≤ cap0 ∧ cap0 ≤ maxLen ∧ z0.length = cap0 ∧ (∀ i, i < z0.length → w.cell? (x.add i) = some (.int .u8 (z0.getD i 0))) ∧ ∀ n ∈ z0, (Lit.int .u8 n).wf = true) (y0 : len0 * 1 ≤ 140737488351232) (w1 : (a1 = none ∧ len1 = 0 ∧ cap1 = 0 ∧ z1 = []) ∨ ∃ x, a1 = some x ∧ len1 ≤ cap1 ∧ cap1 ≤ maxLen ∧ z1.length = cap1 ∧ (∀ i, i < z1.length → w.cell? (x.add i) = some (.int .u8 (z1.getD i 0))) ∧ ∀ n ∈ z1, (Lit.int .u8 n).wf = true) (y1 : len1 * 1 ≤ 140737488351232) :
  Calls Try.prog 3 #[.slice a0 len0 cap0, .slice a1 len1 cap1] w fun e w' => e = .returned (.bool true) ∧ Below w.heap.size w w' := by
 obtain ⟨l0, rfl, hr0, hm0, hw0, hc0⟩ := ReadsInt.ofRowC w0
 obtain ⟨l1, rfl, hr1, hm1, hw1, hc1⟩ := ReadsInt.ofRowC w1
 obtain ⟨k, h⟩ := P l0 l1 hm0 y0 hw0 hm1 y1 hw1
 refine (laws_FnSeal.calls k _ _ l0 _ _ l1 true w (Kd.C_of_reads (d := (0 : Int)) (h1 := fun _ => rfl) hr0) hc0 (Kd.C_of_reads (d := (0 : Int)) (h1 := fun _ => rfl) hr1) hc1 h).mono ?_
 rintro e w' ⟨rfl, hd⟩
 exact ⟨rfl, hd⟩

end Go.Proofs.Ytcmoenkbckmmfaa.Q
