/- For each Go function that the laws of this text reach: a Lean function, and the proof that the Go function returns what the Lean function tells, wherever it tells some value. Written by a program of this session. -/
import Derived.Test.YtibnmnkembbgeaaKFnExactMetaActs0
import Derived.Test.YtibnmnkembbgeaaKFnExactMetaActs1
import Derived.Test.YtibnmnkembbgeaaKFnExactMetaActs4
import Derived.Test.YtibnmnkembbgeaaKFnExactMetaActs6
import Derived.Test.YtibnmnkembbgeaaKFnExactMetaActs8
namespace Go.Proofs.Ytibnmnkembbgeaa.Q
open Go.RowKit Go.Proofs.YtibnmnkembbgeaaW.PrintWords Go.Proofs.YtibnmnkembbgeaaW.PrintLast Go.Proofs.YtibnmnkembbgeaaW.PrintMore
attribute [local go_sem] max2_int min2_int max_two min_two max_three min_three max_four min_four Instr.field asAgg   -- for this text's walks alone
set_option linter.unusedVariables false
set_option linter.unusedSimpArgs false
/-! ### impl_putText: function 141 -/
def impl_putText.f (k : Nat) (a0 : ByteArray) : Option (ByteArray) := (impl_putNum.f k (a0.size : Int)).bind fun t1036 => (if t1036.size + a0.size ≤ 9223372036854775807 then (some (t1036 ++ a0)) else (none))
theorem impl_putText.mono : ∀ a0 k, LeO (impl_putText.f k a0) (impl_putText.f (k + 1) a0) := by
 intro a0 k
 unfold impl_putText.f
 repeat' first
   | (with_reducible exact impl_putNum.mono _ _)
   | (with_reducible exact LeO.refl _)
   | (with_reducible exact LeO.none _)
   | (with_reducible refine LeO.ite ?_ ?_)
   | (with_reducible refine LeO.bind ?_ (fun _ => ?_))
   | exact impl_putNum.mono _ _
   | exact LeO.none _
   | refine LeO.ite ?_ ?_
   | refine LeO.bind ?_ (fun _ => ?_)
set_option maxHeartbeats 8000000 in
set_option maxRecDepth 100000 in
theorem impl_putText.calls (k : Nat) (a0 : ByteArray) (r : ByteArray) (w : World) (h : impl_putText.f k a0 = some r) :
  Calls Try.prog 141 #[.string a0] w fun e w' => e = .returned (.string r) ∧ Below w.heap.size w w' := by
 have HB := zA_ (Below.refl w.heap.size w)
 have H : ((impl_putNum.f k (a0.size : Int)).bind fun t1036 => (if t1036.size + a0.size ≤ 9223372036854775807 then (some (t1036 ++ a0)) else (none))) = some r := h
 clear h
 replace H := Option.bind_eq_some_iff.mp H
 obtain ⟨t1036, A20, H⟩ := H
 replace H : (if t1036.size + a0.size ≤ 9223372036854775807 then (some (t1036 ++ a0)) else (none)) = some r := H
 have A2 := zA_ A20
 clear A20
 by_cases c3 : t1036.size + a0.size ≤ 9223372036854775807
 ·
  rw [if_pos c3] at H
  have c3b0 := eq_true c3
  have c3b1 : decide (t1036.size + a0.size ≤ 9223372036854775807) = true := decide_eq_true c3
  try have c3b2 : (9223372036854775807 < t1036.size + a0.size) = False := eq_false (Nat.not_lt.2 c3)
  obtain rfl := Option.some.inj H
  go_enter Try.func141, Try.ntmps141
  go_wp2_with (first | ((with_reducible refine gate_callee (f := 140) rfl ?_); refine goesL_ (some 5) rfl rfl Try.func140 (by kernel_rfl) rfl #[.int .i64 (a0.size : Int)] rfl zs_ ?_; (with_reducible refine (impl_putNum.calls k (a0.size : Int) t1036 _ A2.out).mono ?_); rintro e w4 ⟨rfl, hb⟩; refine ⟨_, rfl, ?_⟩; have n0_ := zA_ (below_step (zh_ HB.out) hb); clear HB; have HB := n0_; clear n0_; (try clear hb); (try clear hb2); (try clear hk); (try clear hi)))
  go_ret
  exact ⟨by first | rfl | (simp [errW_none, errW_some] <;> rfl) | (simp [*, errW_none, errW_some] <;> rfl), by repeat (first | (with_reducible first | exact HB.out | apply below_alloc | apply pw_below_drewN | apply below_drew1) | exact HB.out)⟩
 ·
  rw [if_neg c3] at H
  exact absurd H (by simp)

/-! ### impl_metaBytes: function 119 -/
def impl_metaBytes.f (k : Nat) (a0 : Int) (a1 : ByteArray) : Option (ByteArray) := (impl_putNum.f k a0).bind fun t1037 => ((impl_putText.f k a1).bind fun t1038 => (if t1037.size + t1038.size ≤ 9223372036854775807 then ((impl_seal.f k (t1037 ++ t1038)).bind fun t1039 => (some t1039)) else (none)))
theorem impl_metaBytes.mono : ∀ a0 a1 k, LeO (impl_metaBytes.f k a0 a1) (impl_metaBytes.f (k + 1) a0 a1) := by
 intro a0 a1 k
 unfold impl_metaBytes.f
 repeat' first
   | (with_reducible exact impl_putNum.mono _ _)
   | (with_reducible exact impl_putText.mono _ _)
   | (with_reducible exact impl_seal.mono _ _)
   | (with_reducible exact LeO.refl _)
   | (with_reducible exact LeO.none _)
   | (with_reducible refine LeO.ite ?_ ?_)
   | (with_reducible refine LeO.bind ?_ (fun _ => ?_))
   | exact impl_putNum.mono _ _
   | exact impl_putText.mono _ _
   | exact impl_seal.mono _ _
   | exact LeO.none _
   | refine LeO.ite ?_ ?_
   | refine LeO.bind ?_ (fun _ => ?_)
set_option maxHeartbeats 8000000 in
set_option maxRecDepth 100000 in
theorem impl_metaBytes.calls (k : Nat) (a0 : Int) (a1 : ByteArray) (r : ByteArray) (w : World) (h : impl_metaBytes.f k a0 a1 = some r) :
  Calls Try.prog 119 #[.int .i64 a0, .string a1] w fun e w' => e = .returned (.string r) ∧ Below w.heap.size w w' := by
 have HB := zA_ (Below.refl w.heap.size w)
 have H : ((impl_putNum.f k a0).bind fun t1037 => ((impl_putText.f k a1).bind fun t1038 => (if t1037.size + t1038.size ≤ 9223372036854775807 then ((impl_seal.f k (t1037 ++ t1038)).bind fun t1039 => (some t1039)) else (none)))) = some r := h
 clear h
 replace H := Option.bind_eq_some_iff.mp H
 obtain ⟨t1037, A30, H⟩ := H
 replace H : ((impl_putText.f k a1).bind fun t1038 => (if t1037.size + t1038.size ≤ 9223372036854775807 then ((impl_seal.f k (t1037 ++ t1038)).bind fun t1039 => (some t1039)) else (none))) = some r := H
 have A3 := zA_ A30
 clear A30
 replace H := Option.bind_eq_some_iff.mp H
 obtain ⟨t1038, A40, H⟩ := H
 replace H : (if t1037.size + t1038.size ≤ 9223372036854775807 then ((impl_seal.f k (t1037 ++ t1038)).bind fun t1039 => (some t1039)) else (none)) = some r := H
 have A4 := zA_ A40
 clear A40
 by_cases c5 : t1037.size + t1038.size ≤ 9223372036854775807
 ·
  rw [if_pos c5] at H
  have c5b0 := eq_true c5
  have c5b1 : decide (t1037.size + t1038.size ≤ 9223372036854775807) = true := decide_eq_true c5
  try have c5b2 : (9223372036854775807 < t1037.size + t1038.size) = False := eq_false (Nat.not_lt.2 c5)
  replace H := Option.bind_eq_some_iff.mp H
  obtain ⟨t1039, A60, H⟩ := H
  replace H : (some t1039) = some r := H
  have A6 := zA_ A60
  clear A60
  obtain rfl := Option.some.inj H
  go_enter Try.func119, Try.ntmps119
  go_wp2_with (first | ((with_reducible refine gate_callee (f := 140) rfl ?_); refine goesL_ (some 6) rfl rfl Try.func140 (by kernel_rfl) rfl #[.int .i64 a0] rfl zs_ ?_; (with_reducible refine (impl_putNum.calls k a0 t1037 _ A3.out).mono ?_); rintro e w7 ⟨rfl, hb⟩; refine ⟨_, rfl, ?_⟩; have n0_ := zA_ (below_step (zh_ HB.out) hb); clear HB; have HB := n0_; clear n0_; (try clear hb); (try clear hb2); (try clear hk); (try clear hi)) | ((with_reducible refine gate_callee (f := 141) rfl ?_); refine goesL_ (some 8) rfl rfl Try.func141 (by kernel_rfl) rfl #[.string a1] rfl zs_ ?_; (with_reducible refine (impl_putText.calls k a1 t1038 _ A4.out).mono ?_); rintro e w8 ⟨rfl, hb⟩; refine ⟨_, rfl, ?_⟩; have n0_ := zA_ (below_step (zh_ HB.out) hb); clear HB; have HB := n0_; clear n0_; (try clear hb); (try clear hb2); (try clear hk); (try clear hi)) | ((with_reducible refine gate_callee (f := 139) rfl ?_); refine goesL_ (some 10) rfl rfl Try.func139 (by kernel_rfl) rfl #[.string (t1037 ++ t1038)] rfl zs_ ?_; (with_reducible refine (impl_seal.calls k (t1037 ++ t1038) t1039 _ A6.out).mono ?_); rintro e w9 ⟨rfl, hb⟩; refine ⟨_, rfl, ?_⟩; have n0_ := zA_ (below_step (zh_ HB.out) hb); clear HB; have HB := n0_; clear n0_; (try clear hb); (try clear hb2); (try clear hk); (try clear hi)))
  go_ret
  exact ⟨by first | rfl | (simp [errW_none, errW_some] <;> rfl) | (simp [*, errW_none, errW_some] <;> rfl), by repeat (first | (with_reducible first | exact HB.out | apply below_alloc | apply pw_below_drewN | apply below_drew1) | exact HB.out)⟩
 ·
  rw [if_neg c5] at H
  exact absurd H (by simp)

/-! ### impl_metaActs: function 107 -/
def impl_metaActs.f (k : Nat) (l0_0 : List ByteArray) (l0_1 : List (S92)) (a1 : ByteArray) : Option ((List (S116))) := (impl_metaGet.f k l0_0 l0_1).bind fun bt1041 => (if (wrap64 (bt1041.1 + 1)) > 1000000 then (some ([] : List (S116))) else (if bt1041.2.2.2 = 0 then ((impl_metaBytes.f k (wrap64 (bt1041.1 + 1)) a1).bind fun t1046 => (some (([(⟨false, 1, t1046⟩ : S116), (⟨true, 0, (⟨#[]⟩ : ByteArray)⟩ : S116)] : List (S116))))) else ((impl_metaBytes.f k (wrap64 (bt1041.1 + 1)) a1).bind fun t1050 => (some (([(⟨false, 0, t1050⟩ : S116), (⟨true, 0, (⟨#[]⟩ : ByteArray)⟩ : S116)] : List (S116)))))))
theorem impl_metaActs.mono : ∀ a0 a1 a2 k, LeO (impl_metaActs.f k a0 a1 a2) (impl_metaActs.f (k + 1) a0 a1 a2) := by
 intro a0 a1 a2 k
 unfold impl_metaActs.f
 repeat' first
   | (with_reducible exact impl_metaBytes.mono _ _ _)
   | (with_reducible exact impl_metaGet.mono _ _ _)
   | (with_reducible exact LeO.refl _)
   | (with_reducible exact LeO.none _)
   | (with_reducible refine LeO.ite ?_ ?_)
   | (with_reducible refine LeO.bind ?_ (fun _ => ?_))
   | exact impl_metaBytes.mono _ _ _
   | exact impl_metaGet.mono _ _ _
   | exact LeO.none _
   | refine LeO.ite ?_ ?_
   | refine LeO.bind ?_ (fun _ => ?_)
set_option maxHeartbeats 8000000 in
set_option maxRecDepth 100000 in
theorem impl_metaActs.calls (k : Nat) (A0_0 : Option Addr) (c0_0 : Nat) (l0_0 : List ByteArray) (A0_1 : Option Addr) (c0_1 : Nat) (l0_1 : List (S92)) (a1 : ByteArray) (r : List (S116)) (w : World) (hr0_0 : Kd.C Kd.string w A0_0 l0_0.length l0_0) (hc0_0 : l0_0.length ≤ c0_0) (hr0_1 : Kd.C k92 w A0_1 l0_1.length l0_1) (hc0_1 : l0_1.length ≤ c0_1) (h : impl_metaActs.f k l0_0 l0_1 a1 = some r) :
  Calls Try.prog 107 #[.agg #[.slice A0_0 l0_0.length c0_0, .slice A0_1 l0_1.length c0_1], .string a1] w fun e w' => ∃ v0_ : Value, e = .returned (v0_) ∧ Kd.R k116 116 w' w.heap.size (fun _ => True) v0_ r ∧ Below w.heap.size w w' := by
 have hu30 := Try.underlying30
 have hu41 := Try.underlying41
 have hu116 := Try.underlying116
 have HR0_0 := zA_ hr0_0
 have HC0_0 := zA_ hc0_0
 clear hr0_0 hc0_0
 have HR0_1 := zA_ hr0_1
 have HC0_1 := zA_ hc0_1
 clear hr0_1 hc0_1
 have HB := zA_ (Below.refl w.heap.size w)
 have H : ((impl_metaGet.f k l0_0 l0_1).bind fun bt1041 => (if (wrap64 (bt1041.1 + 1)) > 1000000 then (some ([] : List (S116))) else (if bt1041.2.2.2 = 0 then ((impl_metaBytes.f k (wrap64 (bt1041.1 + 1)) a1).bind fun t1046 => (some (([(⟨false, 1, t1046⟩ : S116), (⟨true, 0, (⟨#[]⟩ : ByteArray)⟩ : S116)] : List (S116))))) else ((impl_metaBytes.f k (wrap64 (bt1041.1 + 1)) a1).bind fun t1050 => (some (([(⟨false, 0, t1050⟩ : S116), (⟨true, 0, (⟨#[]⟩ : ByteArray)⟩ : S116)] : List (S116)))))))) = some r := h
 clear h
 replace H := Option.bind_eq_some_iff.mp H
 obtain ⟨⟨t1041, t1042, t1043, t1044⟩, A30, H⟩ := H
 replace H : (if (wrap64 (t1041 + 1)) > 1000000 then (some ([] : List (S116))) else (if t1044 = 0 then ((impl_metaBytes.f k (wrap64 (t1041 + 1)) a1).bind fun t1046 => (some (([(⟨false, 1, t1046⟩ : S116), (⟨true, 0, (⟨#[]⟩ : ByteArray)⟩ : S116)] : List (S116))))) else ((impl_metaBytes.f k (wrap64 (t1041 + 1)) a1).bind fun t1050 => (some (([(⟨false, 0, t1050⟩ : S116), (⟨true, 0, (⟨#[]⟩ : ByteArray)⟩ : S116)] : List (S116))))))) = some r := H
 have A3 := zA_ A30
 clear A30
 by_cases c4 : (wrap64 (t1041 + 1)) > 1000000
 ·
  rw [if_pos c4] at H
  have c4b0 : decide (1000000 < (wrap64 (t1041 + 1))) = true := decide_eq_true c4
  clear c4
  obtain rfl := Option.some.inj H
  go_enter Try.func107, Try.ntmps107
  go_wp2_with (first | ((with_reducible refine gate_dst (N := 2) rfl ?_); refine box_event ?hg (N := 2) ?hd (cs := #[.slice A0_0 l0_0.length c0_0, .slice A0_1 l0_1.length c0_1]) (t := 30) ?hr ?_; (case hd => rfl); (case hg => rfl); (case hr => first | (go_simp; done) | (go_simp; rfl)); intro gb1040 hg w5 hbox hb; have n0_ := zA_ (below_step (zh_ HB.out) hb); have n1_ := zA_ (hbox); have n2_ := zA_ ((by rw [hg]; exact (below_size (zh_ HB.out)) : w.heap.size ≤ gb1040)); have n3_ := zA_ ((by rw [hg]; exact (below_size (zh_ HB.out)) : w.heap.size ≤ gb1040)); clear HB; have HB := n0_; have BK1040 := n1_; have GW1040 := n2_; have GE1040 := n3_; clear n0_ n1_ n2_ n3_; clear hb hbox hg; have hcz6_0 : w5.cell? ⟨gb1040, 0, none⟩ = some (.slice A0_0 l0_0.length c0_0) := (blk_cell BK1040.out 0).trans rfl; have hcz6_1 : w5.cell? ⟨gb1040, 1, none⟩ = some (.slice A0_1 l0_1.length c0_1) := (blk_cell BK1040.out 1).trans rfl; have hfz6_0 := blk_frozen BK1040.out 0; have hfz6_1 := blk_frozen BK1040.out 1) | ((with_reducible refine gate_callee (f := 105) rfl ?_); refine goesL_ (some 11) rfl rfl Try.func105 (by kernel_rfl) rfl #[.agg #[.slice A0_0 l0_0.length c0_0, .slice A0_1 l0_1.length c0_1]] rfl zs_ ?_; (with_reducible refine (impl_metaGet.calls k _ _ l0_0 _ _ l0_1 t1041 t1042 t1043 t1044 _ ?side1 ?side2 ?side3 ?side4 A3.out).mono ?_); (case side1 => exact zc_ (Kd.C_below HR0_0.out HB.out)); (case side2 => exact HC0_0.out); (case side3 => exact zc_ (Kd.C_below HR0_1.out HB.out)); (case side4 => exact HC0_1.out); rintro e w7 ⟨rfl, hb⟩; refine ⟨_, rfl, ?_⟩; have n0_ := zA_ (blk_below (g := gb1040) (o := .cells #[.slice A0_0 l0_0.length c0_0, .slice A0_1 l0_1.length c0_1] 30 (0, 0)) (zb_ BK1040.out) hb); have n1_ := zA_ (below_step (zg1_ HB.out GE1040.out) hb); clear BK1040 HB; have BK1040 := n0_; have HB := n1_; clear n0_ n1_; (try clear hb); (try clear hb2); (try clear hk); (try clear hi)) | ((with_reducible refine gate_dst (N := 5) rfl ?_); refine box_event ?hg (N := 5) ?hd (cs := #[.int .i64 0, .string (⟨#[]⟩ : ByteArray), .int .i64 0]) (t := 41) ?hr ?_; (case hd => rfl); (case hg => rfl); (case hr => first | (go_simp; done) | (go_simp; rfl)); intro gb1045 hg w8 hbox hb; have n0_ := zA_ (blk_below (g := gb1040) (o := .cells #[.slice A0_0 l0_0.length c0_0, .slice A0_1 l0_1.length c0_1] 30 (0, 0)) (zb_ BK1040.out) hb); have n1_ := zA_ (below_step (zg1_ HB.out GE1040.out) hb); have n2_ := zA_ (hbox); have n3_ := zA_ ((by rw [hg]; exact (below_size (zg1_ HB.out GE1040.out)) : w.heap.size ≤ gb1045)); have n4_ := zA_ ((by rw [hg]; exact (below_size (zg1_ HB.out GE1040.out)) : w.heap.size ≤ gb1045)); have n5_ := zA_ ((by rw [hg]; exact Nat.ne_of_lt (blk_lt (g := gb1040) (o := .cells #[.slice A0_0 l0_0.length c0_0, .slice A0_1 l0_1.length c0_1] 30 (0, 0)) (zb_ BK1040.out)) : gb1040 ≠ gb1045)); have n6_ := zA_ ((by rw [hg]; exact Nat.ne_of_gt (blk_lt (g := gb1040) (o := .cells #[.slice A0_0 l0_0.length c0_0, .slice A0_1 l0_1.length c0_1] 30 (0, 0)) (zb_ BK1040.out)) : gb1045 ≠ gb1040)); clear BK1040 HB; have BK1040 := n0_; have HB := n1_; have BK1045 := n2_; have GW1045 := n3_; have GE1045 := n4_; have NB1040_1045 := n5_; have NB1045_1040 := n6_; clear n0_ n1_ n2_ n3_ n4_ n5_ n6_; clear hb hbox hg; have hnb9 := NB1045_1040.out; have hnc9 := NB1040_1045.out; have hcz10_0 : w8.cell? ⟨gb1045, 0, none⟩ = some (.int .i64 0) := (blk_cell BK1045.out 0).trans rfl; have hcz10_1 : w8.cell? ⟨gb1045, 1, none⟩ = some (.string (⟨#[]⟩ : ByteArray)) := (blk_cell BK1045.out 1).trans rfl; have hcz10_2 : w8.cell? ⟨gb1045, 2, none⟩ = some (.int .i64 0) := (blk_cell BK1045.out 2).trans rfl; have hfz10_0 := blk_frozen BK1045.out 0; have hfz10_1 := blk_frozen BK1045.out 1; have hfz10_2 := blk_frozen BK1045.out 2))
  go_ret
  exact ⟨_, by first | rfl | (simp [errW_none, errW_some] <;> rfl) | (simp [*, errW_none, errW_some] <;> rfl), by first | exact Kd.R_nil _ _ _ _ _ | exact Kd.N_nil _ _ _ _ _ | exact Kd.V_nil _ _ _ _ _ | exact Kd.Q_nil _ _ _ _ _ | exact Kd.S_nil _ _ _ _ _, by repeat (first | (with_reducible first | exact HB.out | apply below_alloc | apply pw_below_drewN | apply below_drew1 | refine below_set ?_ GE1040.out | refine below_set ?_ GE1045.out) | exact HB.out)⟩
 ·
  rw [if_neg c4] at H
  have c4b0 : decide (1000000 < (wrap64 (t1041 + 1))) = false := decide_eq_false c4
  clear c4
  by_cases c11 : t1044 = 0
  ·
   rw [if_pos c11] at H
   have c11b0 : (t1044 == 0) = true := beq_iff_eq.mpr c11
   have c11b1 : (t1044 != 0) = false := bne_eq_false_iff_eq.mpr c11
   clear c11
   replace H := Option.bind_eq_some_iff.mp H
   obtain ⟨t1046, A120, H⟩ := H
   replace H : (some (([(⟨false, 1, t1046⟩ : S116), (⟨true, 0, (⟨#[]⟩ : ByteArray)⟩ : S116)] : List (S116)))) = some r := H
   have A12 := zA_ A120
   clear A120
   obtain ⟨y1047, hy1047⟩ : ∃ y_ : List (S116), y_ = (([(⟨false, 1, t1046⟩ : S116), (⟨true, 0, (⟨#[]⟩ : ByteArray)⟩ : S116)] : List (S116))) := ⟨_, rfl⟩
   replace H : (some y1047) = some r := by first | (rw [hy1047]; with_reducible exact H) | (have H2_ := (Option.bind_some _ _).symm.trans H; rw [hy1047]; with_reducible exact H2_) | (have H2_ := (Option.bind_some _ _).symm.trans H; with_reducible exact H2_) | with_reducible exact H | (rw [hy1047]; exact H) | exact H
   have Ny1047 := zA_ hy1047
   clear hy1047
   obtain rfl := Option.some.inj H
   go_enter Try.func107, Try.ntmps107
   go_wp2_with (first | ((with_reducible refine gate_dst (N := 2) rfl ?_); refine box_event ?hg (N := 2) ?hd (cs := #[.slice A0_0 l0_0.length c0_0, .slice A0_1 l0_1.length c0_1]) (t := 30) ?hr ?_; (case hd => rfl); (case hg => rfl); (case hr => first | (go_simp; done) | (go_simp; rfl)); intro gb1040 hg w13 hbox hb; have n0_ := zA_ (below_step (zh_ HB.out) hb); have n1_ := zA_ (hbox); have n2_ := zA_ ((by rw [hg]; exact (below_size (zh_ HB.out)) : w.heap.size ≤ gb1040)); have n3_ := zA_ ((by rw [hg]; exact (below_size (zh_ HB.out)) : w.heap.size ≤ gb1040)); clear HB; have HB := n0_; have BK1040 := n1_; have GW1040 := n2_; have GE1040 := n3_; clear n0_ n1_ n2_ n3_; clear hb hbox hg; have hcz14_0 : w13.cell? ⟨gb1040, 0, none⟩ = some (.slice A0_0 l0_0.length c0_0) := (blk_cell BK1040.out 0).trans rfl; have hcz14_1 : w13.cell? ⟨gb1040, 1, none⟩ = some (.slice A0_1 l0_1.length c0_1) := (blk_cell BK1040.out 1).trans rfl; have hfz14_0 := blk_frozen BK1040.out 0; have hfz14_1 := blk_frozen BK1040.out 1) | ((with_reducible refine gate_callee (f := 105) rfl ?_); refine goesL_ (some 11) rfl rfl Try.func105 (by kernel_rfl) rfl #[.agg #[.slice A0_0 l0_0.length c0_0, .slice A0_1 l0_1.length c0_1]] rfl zs_ ?_; (with_reducible refine (impl_metaGet.calls k _ _ l0_0 _ _ l0_1 t1041 t1042 t1043 t1044 _ ?side1 ?side2 ?side3 ?side4 A3.out).mono ?_); (case side1 => exact zc_ (Kd.C_below HR0_0.out HB.out)); (case side2 => exact HC0_0.out); (case side3 => exact zc_ (Kd.C_below HR0_1.out HB.out)); (case side4 => exact HC0_1.out); rintro e w15 ⟨rfl, hb⟩; refine ⟨_, rfl, ?_⟩; have n0_ := zA_ (blk_below (g := gb1040) (o := .cells #[.slice A0_0 l0_0.length c0_0, .slice A0_1 l0_1.length c0_1] 30 (0, 0)) (zb_ BK1040.out) hb); have n1_ := zA_ (below_step (zg1_ HB.out GE1040.out) hb); clear BK1040 HB; have BK1040 := n0_; have HB := n1_; clear n0_ n1_; (try clear hb); (try clear hb2); (try clear hk); (try clear hi)) | ((with_reducible refine gate_dst (N := 5) rfl ?_); refine box_event ?hg (N := 5) ?hd (cs := #[.int .i64 0, .string (⟨#[]⟩ : ByteArray), .int .i64 0]) (t := 41) ?hr ?_; (case hd => rfl); (case hg => rfl); (case hr => first | (go_simp; done) | (go_simp; rfl)); intro gb1045 hg w16 hbox hb; have n0_ := zA_ (blk_below (g := gb1040) (o := .cells #[.slice A0_0 l0_0.length c0_0, .slice A0_1 l0_1.length c0_1] 30 (0, 0)) (zb_ BK1040.out) hb); have n1_ := zA_ (below_step (zg1_ HB.out GE1040.out) hb); have n2_ := zA_ (hbox); have n3_ := zA_ ((by rw [hg]; exact (below_size (zg1_ HB.out GE1040.out)) : w.heap.size ≤ gb1045)); have n4_ := zA_ ((by rw [hg]; exact (below_size (zg1_ HB.out GE1040.out)) : w.heap.size ≤ gb1045)); have n5_ := zA_ ((by rw [hg]; exact Nat.ne_of_lt (blk_lt (g := gb1040) (o := .cells #[.slice A0_0 l0_0.length c0_0, .slice A0_1 l0_1.length c0_1] 30 (0, 0)) (zb_ BK1040.out)) : gb1040 ≠ gb1045)); have n6_ := zA_ ((by rw [hg]; exact Nat.ne_of_gt (blk_lt (g := gb1040) (o := .cells #[.slice A0_0 l0_0.length c0_0, .slice A0_1 l0_1.length c0_1] 30 (0, 0)) (zb_ BK1040.out)) : gb1045 ≠ gb1040)); clear BK1040 HB; have BK1040 := n0_; have HB := n1_; have BK1045 := n2_; have GW1045 := n3_; have GE1045 := n4_; have NB1040_1045 := n5_; have NB1045_1040 := n6_; clear n0_ n1_ n2_ n3_ n4_ n5_ n6_; clear hb hbox hg; have hnb17 := NB1045_1040.out; have hnc17 := NB1040_1045.out; have hcz18_0 : w16.cell? ⟨gb1045, 0, none⟩ = some (.int .i64 0) := (blk_cell BK1045.out 0).trans rfl; have hcz18_1 : w16.cell? ⟨gb1045, 1, none⟩ = some (.string (⟨#[]⟩ : ByteArray)) := (blk_cell BK1045.out 1).trans rfl; have hcz18_2 : w16.cell? ⟨gb1045, 2, none⟩ = some (.int .i64 0) := (blk_cell BK1045.out 2).trans rfl; have hfz18_0 := blk_frozen BK1045.out 0; have hfz18_1 := blk_frozen BK1045.out 1; have hfz18_2 := blk_frozen BK1045.out 2) | ((with_reducible refine gate_callee (f := 119) rfl ?_); refine goesL_ (some 24) rfl rfl Try.func119 (by kernel_rfl) rfl #[.int .i64 (wrap64 (t1041 + 1)), .string a1] rfl zs_ ?_; (with_reducible refine (impl_metaBytes.calls k (wrap64 (t1041 + 1)) a1 t1046 _ A12.out).mono ?_); rintro e w19 ⟨rfl, hb⟩; refine ⟨_, rfl, ?_⟩; have n0_ := zA_ (blk_below (g := gb1040) (o := .cells #[.slice A0_0 l0_0.length c0_0, .slice A0_1 l0_1.length c0_1] 30 (0, 0)) (zf3_ NB1040_1045.out NB1040_1045.out NB1040_1045.out BK1040.out) hb); have n1_ := zA_ (blk_below (g := gb1045) (o := .cells #[.int .i64 t1041, .string t1042, .int .i64 t1043] 41 (0, 0)) (by (with_reducible repeat (first | refine blk_drewN ?_ _ | refine blk_drew ?_ | refine blk_alloc ?_ _)); refine blk_put (cs := #[.int .i64 t1041, .string t1042, .int .i64 0]) ?_ 2 _ rfl; (with_reducible repeat (first | refine blk_drewN ?_ _ | refine blk_drew ?_ | refine blk_alloc ?_ _)); refine blk_put (cs := #[.int .i64 t1041, .string (⟨#[]⟩ : ByteArray), .int .i64 0]) ?_ 1 _ rfl; (with_reducible repeat (first | refine blk_drewN ?_ _ | refine blk_drew ?_ | refine blk_alloc ?_ _)); refine blk_put (cs := #[.int .i64 0, .string (⟨#[]⟩ : ByteArray), .int .i64 0]) ?_ 0 _ rfl; (with_reducible repeat (first | refine blk_drewN ?_ _ | refine blk_drew ?_ | refine blk_alloc ?_ _)); exact BK1045.out) hb); have n2_ := zA_ (below_step (zg2_ HB.out GE1040.out GE1045.out) hb); clear BK1040 BK1045 HB; have BK1040 := n0_; have BK1045 := n1_; have HB := n2_; clear n0_ n1_ n2_; (try clear hb); (try clear hb2); (try clear hk); (try clear hi)) | ((with_reducible refine gate_dst (N := 27) rfl ?_); refine Kd.R_lit k116 _ 116 ?hg (N := 27) ?hd (xs := ([(⟨false, 1, t1046⟩ : S116), (⟨true, 0, (⟨#[]⟩ : ByteArray)⟩ : S116)] : List (S116))) (inner := [.bool false, .int .i64 1, .string t1046, .bool true, .int .i64 0, .string (⟨#[]⟩ : ByteArray)]) (ok := fun _ => True) (okp := fun _ => True) ?hr ?hp (fun _ hk => hk) trivial (Below.refl _ _) (Nat.le_refl _) (by simp) ?_; (case hd => rfl); (case hg => rfl); (case hr => first | (go_simp; done) | (go_simp; rfl)); (case hp => exact (Reps.c3 (show Kd.M k116 _ _ _ (⟨false, 1, t1046⟩ : S116) [.bool false, .int .i64 1, .string t1046] from (k116_mkM _ _ _ (⟨false, 1, t1046⟩ : S116) )) (Reps.c3 (show Kd.M k116 _ _ _ (⟨true, 0, (⟨#[]⟩ : ByteArray)⟩ : S116) [.bool true, .int .i64 0, .string (⟨#[]⟩ : ByteArray)] from (k116_mkM _ _ _ (⟨true, 0, (⟨#[]⟩ : ByteArray)⟩ : S116) )) (Reps.none _ _)))); intro v1048 w20 ho21 hb hg_ hnew_; clear hg_ hnew_; (first | rw [← Ny1047.out] at ho21 | (simp only [Int.reduceToNat] at ho21; rw [← Ny1047.out] at ho21)); have n0_ := zA_ (Kd.R_lower ho21 (below_size (zg2_ HB.out GE1040.out GE1045.out))); have n1_ := zA_ (blk_below (g := gb1040) (o := .cells #[.slice A0_0 l0_0.length c0_0, .slice A0_1 l0_1.length c0_1] 30 (0, 0)) (zb_ BK1040.out) hb); have n2_ := zA_ (blk_below (g := gb1045) (o := .cells #[.int .i64 t1041, .string t1042, .int .i64 t1043] 41 (0, 0)) (zb_ BK1045.out) hb); have n3_ := zA_ (below_step (zg2_ HB.out GE1040.out GE1045.out) hb); clear BK1040 BK1045 HB; have HO1049 := n0_; have BK1040 := n1_; have BK1045 := n2_; have HB := n3_; clear n0_ n1_ n2_ n3_; clear hb ho21))
   go_ret
   exact ⟨_, by first | rfl | (simp [errW_none, errW_some] <;> rfl) | (simp [*, errW_none, errW_some] <;> rfl), by (with_reducible repeat (first | apply Kd.R_alloc | apply Kd.R_drewN | apply Kd.R_drew)); exact HO1049.out, by repeat (first | (with_reducible first | exact HB.out | apply below_alloc | apply pw_below_drewN | apply below_drew1 | refine below_set ?_ GE1040.out | refine below_set ?_ GE1045.out) | exact HB.out)⟩
  ·
   rw [if_neg c11] at H
   have c11b0 : (t1044 == 0) = false := beq_eq_false_iff_ne.mpr c11
   have c11b1 : (t1044 != 0) = true := bne_iff_ne.mpr c11
   replace H := Option.bind_eq_some_iff.mp H
   obtain ⟨t1050, A220, H⟩ := H
   replace H : (some (([(⟨false, 0, t1050⟩ : S116), (⟨true, 0, (⟨#[]⟩ : ByteArray)⟩ : S116)] : List (S116)))) = some r := H
   have A22 := zA_ A220
   clear A220
   obtain ⟨y1051, hy1051⟩ : ∃ y_ : List (S116), y_ = (([(⟨false, 0, t1050⟩ : S116), (⟨true, 0, (⟨#[]⟩ : ByteArray)⟩ : S116)] : List (S116))) := ⟨_, rfl⟩
   replace H : (some y1051) = some r := by first | (rw [hy1051]; with_reducible exact H) | (have H2_ := (Option.bind_some _ _).symm.trans H; rw [hy1051]; with_reducible exact H2_) | (have H2_ := (Option.bind_some _ _).symm.trans H; with_reducible exact H2_) | with_reducible exact H | (rw [hy1051]; exact H) | exact H
   have Ny1051 := zA_ hy1051
   clear hy1051
   obtain rfl := Option.some.inj H
   go_enter Try.func107, Try.ntmps107
   go_wp2_with (first | ((with_reducible refine gate_dst (N := 2) rfl ?_); refine box_event ?hg (N := 2) ?hd (cs := #[.slice A0_0 l0_0.length c0_0, .slice A0_1 l0_1.length c0_1]) (t := 30) ?hr ?_; (case hd => rfl); (case hg => rfl); (case hr => first | (go_simp; done) | (go_simp; rfl)); intro gb1040 hg w23 hbox hb; have n0_ := zA_ (below_step (zh_ HB.out) hb); have n1_ := zA_ (hbox); have n2_ := zA_ ((by rw [hg]; exact (below_size (zh_ HB.out)) : w.heap.size ≤ gb1040)); have n3_ := zA_ ((by rw [hg]; exact (below_size (zh_ HB.out)) : w.heap.size ≤ gb1040)); clear HB; have HB := n0_; have BK1040 := n1_; have GW1040 := n2_; have GE1040 := n3_; clear n0_ n1_ n2_ n3_; clear hb hbox hg; have hcz24_0 : w23.cell? ⟨gb1040, 0, none⟩ = some (.slice A0_0 l0_0.length c0_0) := (blk_cell BK1040.out 0).trans rfl; have hcz24_1 : w23.cell? ⟨gb1040, 1, none⟩ = some (.slice A0_1 l0_1.length c0_1) := (blk_cell BK1040.out 1).trans rfl; have hfz24_0 := blk_frozen BK1040.out 0; have hfz24_1 := blk_frozen BK1040.out 1) | ((with_reducible refine gate_callee (f := 105) rfl ?_); refine goesL_ (some 11) rfl rfl Try.func105 (by kernel_rfl) rfl #[.agg #[.slice A0_0 l0_0.length c0_0, .slice A0_1 l0_1.length c0_1]] rfl zs_ ?_; (with_reducible refine (impl_metaGet.calls k _ _ l0_0 _ _ l0_1 t1041 t1042 t1043 t1044 _ ?side1 ?side2 ?side3 ?side4 A3.out).mono ?_); (case side1 => exact zc_ (Kd.C_below HR0_0.out HB.out)); (case side2 => exact HC0_0.out); (case side3 => exact zc_ (Kd.C_below HR0_1.out HB.out)); (case side4 => exact HC0_1.out); rintro e w25 ⟨rfl, hb⟩; refine ⟨_, rfl, ?_⟩; have n0_ := zA_ (blk_below (g := gb1040) (o := .cells #[.slice A0_0 l0_0.length c0_0, .slice A0_1 l0_1.length c0_1] 30 (0, 0)) (zb_ BK1040.out) hb); have n1_ := zA_ (below_step (zg1_ HB.out GE1040.out) hb); clear BK1040 HB; have BK1040 := n0_; have HB := n1_; clear n0_ n1_; (try clear hb); (try clear hb2); (try clear hk); (try clear hi)) | ((with_reducible refine gate_dst (N := 5) rfl ?_); refine box_event ?hg (N := 5) ?hd (cs := #[.int .i64 0, .string (⟨#[]⟩ : ByteArray), .int .i64 0]) (t := 41) ?hr ?_; (case hd => rfl); (case hg => rfl); (case hr => first | (go_simp; done) | (go_simp; rfl)); intro gb1045 hg w26 hbox hb; have n0_ := zA_ (blk_below (g := gb1040) (o := .cells #[.slice A0_0 l0_0.length c0_0, .slice A0_1 l0_1.length c0_1] 30 (0, 0)) (zb_ BK1040.out) hb); have n1_ := zA_ (below_step (zg1_ HB.out GE1040.out) hb); have n2_ := zA_ (hbox); have n3_ := zA_ ((by rw [hg]; exact (below_size (zg1_ HB.out GE1040.out)) : w.heap.size ≤ gb1045)); have n4_ := zA_ ((by rw [hg]; exact (below_size (zg1_ HB.out GE1040.out)) : w.heap.size ≤ gb1045)); have n5_ := zA_ ((by rw [hg]; exact Nat.ne_of_lt (blk_lt (g := gb1040) (o := .cells #[.slice A0_0 l0_0.length c0_0, .slice A0_1 l0_1.length c0_1] 30 (0, 0)) (zb_ BK1040.out)) : gb1040 ≠ gb1045)); have n6_ := zA_ ((by rw [hg]; exact Nat.ne_of_gt (blk_lt (g := gb1040) (o := .cells #[.slice A0_0 l0_0.length c0_0, .slice A0_1 l0_1.length c0_1] 30 (0, 0)) (zb_ BK1040.out)) : gb1045 ≠ gb1040)); clear BK1040 HB; have BK1040 := n0_; have HB := n1_; have BK1045 := n2_; have GW1045 := n3_; have GE1045 := n4_; have NB1040_1045 := n5_; have NB1045_1040 := n6_; clear n0_ n1_ n2_ n3_ n4_ n5_ n6_; clear hb hbox hg; have hnb27 := NB1045_1040.out; have hnc27 := NB1040_1045.out; have hcz28_0 : w26.cell? ⟨gb1045, 0, none⟩ = some (.int .i64 0) := (blk_cell BK1045.out 0).trans rfl; have hcz28_1 : w26.cell? ⟨gb1045, 1, none⟩ = some (.string (⟨#[]⟩ : ByteArray)) := (blk_cell BK1045.out 1).trans rfl; have hcz28_2 : w26.cell? ⟨gb1045, 2, none⟩ = some (.int .i64 0) := (blk_cell BK1045.out 2).trans rfl; have hfz28_0 := blk_frozen BK1045.out 0; have hfz28_1 := blk_frozen BK1045.out 1; have hfz28_2 := blk_frozen BK1045.out 2) | ((with_reducible refine gate_callee (f := 119) rfl ?_); refine goesL_ (some 24) rfl rfl Try.func119 (by kernel_rfl) rfl #[.int .i64 (wrap64 (t1041 + 1)), .string a1] rfl zs_ ?_; (with_reducible refine (impl_metaBytes.calls k (wrap64 (t1041 + 1)) a1 t1050 _ A22.out).mono ?_); rintro e w29 ⟨rfl, hb⟩; refine ⟨_, rfl, ?_⟩; have n0_ := zA_ (blk_below (g := gb1040) (o := .cells #[.slice A0_0 l0_0.length c0_0, .slice A0_1 l0_1.length c0_1] 30 (0, 0)) (zf3_ NB1040_1045.out NB1040_1045.out NB1040_1045.out BK1040.out) hb); have n1_ := zA_ (blk_below (g := gb1045) (o := .cells #[.int .i64 t1041, .string t1042, .int .i64 t1043] 41 (0, 0)) (by (with_reducible repeat (first | refine blk_drewN ?_ _ | refine blk_drew ?_ | refine blk_alloc ?_ _)); refine blk_put (cs := #[.int .i64 t1041, .string t1042, .int .i64 0]) ?_ 2 _ rfl; (with_reducible repeat (first | refine blk_drewN ?_ _ | refine blk_drew ?_ | refine blk_alloc ?_ _)); refine blk_put (cs := #[.int .i64 t1041, .string (⟨#[]⟩ : ByteArray), .int .i64 0]) ?_ 1 _ rfl; (with_reducible repeat (first | refine blk_drewN ?_ _ | refine blk_drew ?_ | refine blk_alloc ?_ _)); refine blk_put (cs := #[.int .i64 0, .string (⟨#[]⟩ : ByteArray), .int .i64 0]) ?_ 0 _ rfl; (with_reducible repeat (first | refine blk_drewN ?_ _ | refine blk_drew ?_ | refine blk_alloc ?_ _)); exact BK1045.out) hb); have n2_ := zA_ (below_step (zg2_ HB.out GE1040.out GE1045.out) hb); clear BK1040 BK1045 HB; have BK1040 := n0_; have BK1045 := n1_; have HB := n2_; clear n0_ n1_ n2_; (try clear hb); (try clear hb2); (try clear hk); (try clear hi)) | ((with_reducible refine gate_dst (N := 27) rfl ?_); refine Kd.R_lit k116 _ 116 ?hg (N := 27) ?hd (xs := ([(⟨false, 0, t1050⟩ : S116), (⟨true, 0, (⟨#[]⟩ : ByteArray)⟩ : S116)] : List (S116))) (inner := [.bool false, .int .i64 0, .string t1050, .bool true, .int .i64 0, .string (⟨#[]⟩ : ByteArray)]) (ok := fun _ => True) (okp := fun _ => True) ?hr ?hp (fun _ hk => hk) trivial (Below.refl _ _) (Nat.le_refl _) (by simp) ?_; (case hd => rfl); (case hg => rfl); (case hr => first | (go_simp; done) | (go_simp; rfl)); (case hp => exact (Reps.c3 (show Kd.M k116 _ _ _ (⟨false, 0, t1050⟩ : S116) [.bool false, .int .i64 0, .string t1050] from (k116_mkM _ _ _ (⟨false, 0, t1050⟩ : S116) )) (Reps.c3 (show Kd.M k116 _ _ _ (⟨true, 0, (⟨#[]⟩ : ByteArray)⟩ : S116) [.bool true, .int .i64 0, .string (⟨#[]⟩ : ByteArray)] from (k116_mkM _ _ _ (⟨true, 0, (⟨#[]⟩ : ByteArray)⟩ : S116) )) (Reps.none _ _)))); intro v1052 w30 ho31 hb hg_ hnew_; clear hg_ hnew_; (first | rw [← Ny1051.out] at ho31 | (simp only [Int.reduceToNat] at ho31; rw [← Ny1051.out] at ho31)); have n0_ := zA_ (Kd.R_lower ho31 (below_size (zg2_ HB.out GE1040.out GE1045.out))); have n1_ := zA_ (blk_below (g := gb1040) (o := .cells #[.slice A0_0 l0_0.length c0_0, .slice A0_1 l0_1.length c0_1] 30 (0, 0)) (zb_ BK1040.out) hb); have n2_ := zA_ (blk_below (g := gb1045) (o := .cells #[.int .i64 t1041, .string t1042, .int .i64 t1043] 41 (0, 0)) (zb_ BK1045.out) hb); have n3_ := zA_ (below_step (zg2_ HB.out GE1040.out GE1045.out) hb); clear BK1040 BK1045 HB; have HO1053 := n0_; have BK1040 := n1_; have BK1045 := n2_; have HB := n3_; clear n0_ n1_ n2_ n3_; clear hb ho31))
   go_ret
   exact ⟨_, by first | rfl | (simp [errW_none, errW_some] <;> rfl) | (simp [*, errW_none, errW_some] <;> rfl), by (with_reducible repeat (first | apply Kd.R_alloc | apply Kd.R_drewN | apply Kd.R_drew)); exact HO1053.out, by repeat (first | (with_reducible first | exact HB.out | apply below_alloc | apply pw_below_drewN | apply below_drew1 | refine below_set ?_ GE1040.out | refine below_set ?_ GE1045.out) | exact HB.out)⟩

/-! ### impl_MetaActs: function 47 -/
def impl_MetaActs.f (k : Nat) (l0_0 : List ByteArray) (l0_1 : List (S92)) (a1 : ByteArray) : Option ((List (S116))) := if (a1.size : Int) > 80 then (some ([] : List (S116))) else ((impl_isFlash.f l0_0 l0_1).bind fun t1055 => (if t1055 = true then (if (l0_0.length : Int) < 2 then (some ([] : List (S116))) else ((impl_metaActs.f k l0_0 l0_1 a1).bind fun t1056 => (some t1056))) else (some ([] : List (S116)))))
theorem impl_MetaActs.mono : ∀ a0 a1 a2 k, LeO (impl_MetaActs.f k a0 a1 a2) (impl_MetaActs.f (k + 1) a0 a1 a2) := by
 intro a0 a1 a2 k
 unfold impl_MetaActs.f
 repeat' first
   | (with_reducible exact impl_metaActs.mono _ _ _ _)
   | (with_reducible exact LeO.refl _)
   | (with_reducible exact LeO.none _)
   | (with_reducible refine LeO.ite ?_ ?_)
   | (with_reducible refine LeO.bind ?_ (fun _ => ?_))
   | exact impl_metaActs.mono _ _ _ _
   | exact LeO.none _
   | refine LeO.ite ?_ ?_
   | refine LeO.bind ?_ (fun _ => ?_)
set_option maxHeartbeats 8000000 in
set_option maxRecDepth 100000 in
theorem impl_MetaActs.calls (k : Nat) (A0_0 : Option Addr) (c0_0 : Nat) (l0_0 : List ByteArray) (A0_1 : Option Addr) (c0_1 : Nat) (l0_1 : List (S92)) (a1 : ByteArray) (r : List (S116)) (w : World) (hr0_0 : Kd.C Kd.string w A0_0 l0_0.length l0_0) (hc0_0 : l0_0.length ≤ c0_0) (hr0_1 : Kd.C k92 w A0_1 l0_1.length l0_1) (hc0_1 : l0_1.length ≤ c0_1) (h : impl_MetaActs.f k l0_0 l0_1 a1 = some r) :
  Calls Try.prog 47 #[.agg #[.slice A0_0 l0_0.length c0_0, .slice A0_1 l0_1.length c0_1], .string a1] w fun e w' => ∃ v0_ : Value, e = .returned (v0_) ∧ Kd.R k116 116 w' w.heap.size (fun _ => True) v0_ r ∧ Below w.heap.size w w' := by
 have hu30 := Try.underlying30
 have HR0_0 := zA_ hr0_0
 have HC0_0 := zA_ hc0_0
 clear hr0_0 hc0_0
 have HR0_1 := zA_ hr0_1
 have HC0_1 := zA_ hc0_1
 clear hr0_1 hc0_1
 have HB := zA_ (Below.refl w.heap.size w)
 have H : (if (a1.size : Int) > 80 then (some ([] : List (S116))) else ((impl_isFlash.f l0_0 l0_1).bind fun t1055 => (if t1055 = true then (if (l0_0.length : Int) < 2 then (some ([] : List (S116))) else ((impl_metaActs.f k l0_0 l0_1 a1).bind fun t1056 => (some t1056))) else (some ([] : List (S116)))))) = some r := h
 clear h
 by_cases c3 : (a1.size : Int) > 80
 ·
  rw [if_pos c3] at H
  have c3b0 : decide (80 < (a1.size : Int)) = true := decide_eq_true c3
  have c3b1 : decide (80 < a1.size) = true := decide_eq_true (by omega)
  clear c3
  obtain rfl := Option.some.inj H
  go_enter Try.func47, Try.ntmps47
  go_wp2_with (first | ((with_reducible refine gate_dst (N := 2) rfl ?_); (try (refine gate_guard (by rfl) ?_; dsimp only)); refine box_event ?hg (N := 2) ?hd (cs := #[.slice A0_0 l0_0.length c0_0, .slice A0_1 l0_1.length c0_1]) (t := 30) ?hr ?_; (case hd => rfl); (case hg => rfl); (case hr => first | (go_simp; done) | (go_simp; rfl)); intro gb1054 hg w4 hbox hb; have n0_ := zA_ (below_step (zh_ HB.out) hb); have n1_ := zA_ (hbox); have n2_ := zA_ ((by rw [hg]; exact (below_size (zh_ HB.out)) : w.heap.size ≤ gb1054)); have n3_ := zA_ ((by rw [hg]; exact (below_size (zh_ HB.out)) : w.heap.size ≤ gb1054)); clear HB; have HB := n0_; have BK1054 := n1_; have GW1054 := n2_; have GE1054 := n3_; clear n0_ n1_ n2_ n3_; clear hb hbox hg))
  go_ret
  exact ⟨_, by first | rfl | (simp [errW_none, errW_some] <;> rfl) | (simp [*, errW_none, errW_some] <;> rfl), by first | exact Kd.R_nil _ _ _ _ _ | exact Kd.N_nil _ _ _ _ _ | exact Kd.V_nil _ _ _ _ _ | exact Kd.Q_nil _ _ _ _ _ | exact Kd.S_nil _ _ _ _ _, by repeat (first | (with_reducible first | exact HB.out | apply below_alloc | apply pw_below_drewN | apply below_drew1 | refine below_set ?_ GE1054.out) | exact HB.out)⟩
 ·
  rw [if_neg c3] at H
  have c3b0 : decide (80 < (a1.size : Int)) = false := decide_eq_false c3
  have c3b1 : decide (80 < a1.size) = false := decide_eq_false (by omega)
  clear c3
  replace H := Option.bind_eq_some_iff.mp H
  obtain ⟨t1055, A50, H⟩ := H
  replace H : (if t1055 = true then (if (l0_0.length : Int) < 2 then (some ([] : List (S116))) else ((impl_metaActs.f k l0_0 l0_1 a1).bind fun t1056 => (some t1056))) else (some ([] : List (S116)))) = some r := H
  have A5 := zA_ A50
  clear A50
  by_cases c6 : t1055 = true
  ·
   subst c6
   have H1 : (if (l0_0.length : Int) < 2 then (some ([] : List (S116))) else ((impl_metaActs.f k l0_0 l0_1 a1).bind fun t1056 => (some t1056))) = some r := by rw [if_pos rfl] at H; exact H
   clear H
   have H := H1
   clear H1
   by_cases c7 : (l0_0.length : Int) < 2
   ·
    rw [if_pos c7] at H
    have c7b0 : decide ((l0_0.length : Int) < 2) = true := decide_eq_true c7
    have c7b1 : decide (l0_0.length < 2) = true := decide_eq_true (by omega)
    clear c7
    obtain rfl := Option.some.inj H
    go_enter Try.func47, Try.ntmps47
    go_wp2_with (first | ((with_reducible refine gate_dst (N := 2) rfl ?_); (try (refine gate_guard (by rfl) ?_; dsimp only)); refine box_event ?hg (N := 2) ?hd (cs := #[.slice A0_0 l0_0.length c0_0, .slice A0_1 l0_1.length c0_1]) (t := 30) ?hr ?_; (case hd => rfl); (case hg => rfl); (case hr => first | (go_simp; done) | (go_simp; rfl)); intro gb1054 hg w8 hbox hb; have n0_ := zA_ (below_step (zh_ HB.out) hb); have n1_ := zA_ (hbox); have n2_ := zA_ ((by rw [hg]; exact (below_size (zh_ HB.out)) : w.heap.size ≤ gb1054)); have n3_ := zA_ ((by rw [hg]; exact (below_size (zh_ HB.out)) : w.heap.size ≤ gb1054)); clear HB; have HB := n0_; have BK1054 := n1_; have GW1054 := n2_; have GE1054 := n3_; clear n0_ n1_ n2_ n3_; clear hb hbox hg; have hcz9_0 : w8.cell? ⟨gb1054, 0, none⟩ = some (.slice A0_0 l0_0.length c0_0) := (blk_cell BK1054.out 0).trans rfl; have hcz9_1 : w8.cell? ⟨gb1054, 1, none⟩ = some (.slice A0_1 l0_1.length c0_1) := (blk_cell BK1054.out 1).trans rfl; have hfz9_0 := blk_frozen BK1054.out 0; have hfz9_1 := blk_frozen BK1054.out 1) | (go_at_call 74; (with_reducible refine (impl_isFlash.calls _ _ l0_0 _ _ l0_1 true _ ?side1 ?side2 ?side3 ?side4 A5.out).mono ?_); (case side1 => exact zc_ (Kd.C_below HR0_0.out HB.out)); (case side2 => exact HC0_0.out); (case side3 => exact zc_ (Kd.C_below HR0_1.out HB.out)); (case side4 => exact HC0_1.out); rintro e w10 ⟨rfl, hb⟩; have n0_ := zA_ (blk_below (g := gb1054) (o := .cells #[.slice A0_0 l0_0.length c0_0, .slice A0_1 l0_1.length c0_1] 30 (0, 0)) (zb_ BK1054.out) hb); have n1_ := zA_ (below_step (zg1_ HB.out GE1054.out) hb); clear BK1054 HB; have BK1054 := n0_; have HB := n1_; clear n0_ n1_; (try clear hb); (try clear hb2); (try clear hk); (try clear hi); have hcz11_0 : w10.cell? ⟨gb1054, 0, none⟩ = some (.slice A0_0 l0_0.length c0_0) := (blk_cell BK1054.out 0).trans rfl; have hcz11_1 : w10.cell? ⟨gb1054, 1, none⟩ = some (.slice A0_1 l0_1.length c0_1) := (blk_cell BK1054.out 1).trans rfl; have hfz11_0 := blk_frozen BK1054.out 0; have hfz11_1 := blk_frozen BK1054.out 1))
    go_ret
    exact ⟨_, by first | rfl | (simp [errW_none, errW_some] <;> rfl) | (simp [*, errW_none, errW_some] <;> rfl), by first | exact Kd.R_nil _ _ _ _ _ | exact Kd.N_nil _ _ _ _ _ | exact Kd.V_nil _ _ _ _ _ | exact Kd.Q_nil _ _ _ _ _ | exact Kd.S_nil _ _ _ _ _, by repeat (first | (with_reducible first | exact HB.out | apply below_alloc | apply pw_below_drewN | apply below_drew1 | refine below_set ?_ GE1054.out) | exact HB.out)⟩
   ·
    rw [if_neg c7] at H
    have c7b0 : decide ((l0_0.length : Int) < 2) = false := decide_eq_false c7
    have c7b1 : decide (l0_0.length < 2) = false := decide_eq_false (by omega)
    clear c7
    replace H := Option.bind_eq_some_iff.mp H
    obtain ⟨t1056, A120, H⟩ := H
    replace H : (some t1056) = some r := H
    have A12 := zA_ A120
    clear A120
    obtain rfl := Option.some.inj H
    go_enter Try.func47, Try.ntmps47
    go_wp2_with (first | ((with_reducible refine gate_dst (N := 2) rfl ?_); (try (refine gate_guard (by rfl) ?_; dsimp only)); refine box_event ?hg (N := 2) ?hd (cs := #[.slice A0_0 l0_0.length c0_0, .slice A0_1 l0_1.length c0_1]) (t := 30) ?hr ?_; (case hd => rfl); (case hg => rfl); (case hr => first | (go_simp; done) | (go_simp; rfl)); intro gb1054 hg w13 hbox hb; have n0_ := zA_ (below_step (zh_ HB.out) hb); have n1_ := zA_ (hbox); have n2_ := zA_ ((by rw [hg]; exact (below_size (zh_ HB.out)) : w.heap.size ≤ gb1054)); have n3_ := zA_ ((by rw [hg]; exact (below_size (zh_ HB.out)) : w.heap.size ≤ gb1054)); clear HB; have HB := n0_; have BK1054 := n1_; have GW1054 := n2_; have GE1054 := n3_; clear n0_ n1_ n2_ n3_; clear hb hbox hg; have hcz14_0 : w13.cell? ⟨gb1054, 0, none⟩ = some (.slice A0_0 l0_0.length c0_0) := (blk_cell BK1054.out 0).trans rfl; have hcz14_1 : w13.cell? ⟨gb1054, 1, none⟩ = some (.slice A0_1 l0_1.length c0_1) := (blk_cell BK1054.out 1).trans rfl; have hfz14_0 := blk_frozen BK1054.out 0; have hfz14_1 := blk_frozen BK1054.out 1) | (go_at_call 74; (with_reducible refine (impl_isFlash.calls _ _ l0_0 _ _ l0_1 true _ ?side1 ?side2 ?side3 ?side4 A5.out).mono ?_); (case side1 => exact zc_ (Kd.C_below HR0_0.out HB.out)); (case side2 => exact HC0_0.out); (case side3 => exact zc_ (Kd.C_below HR0_1.out HB.out)); (case side4 => exact HC0_1.out); rintro e w15 ⟨rfl, hb⟩; have n0_ := zA_ (blk_below (g := gb1054) (o := .cells #[.slice A0_0 l0_0.length c0_0, .slice A0_1 l0_1.length c0_1] 30 (0, 0)) (zb_ BK1054.out) hb); have n1_ := zA_ (below_step (zg1_ HB.out GE1054.out) hb); clear BK1054 HB; have BK1054 := n0_; have HB := n1_; clear n0_ n1_; (try clear hb); (try clear hb2); (try clear hk); (try clear hi); have hcz16_0 : w15.cell? ⟨gb1054, 0, none⟩ = some (.slice A0_0 l0_0.length c0_0) := (blk_cell BK1054.out 0).trans rfl; have hcz16_1 : w15.cell? ⟨gb1054, 1, none⟩ = some (.slice A0_1 l0_1.length c0_1) := (blk_cell BK1054.out 1).trans rfl; have hfz16_0 := blk_frozen BK1054.out 0; have hfz16_1 := blk_frozen BK1054.out 1) | ((with_reducible refine gate_callee (f := 107) rfl ?_); refine goesL_ (some 21) rfl rfl Try.func107 (by kernel_rfl) rfl #[.agg #[.slice A0_0 l0_0.length c0_0, .slice A0_1 l0_1.length c0_1], .string a1] rfl zs_ ?_; (with_reducible refine (impl_metaActs.calls k _ _ l0_0 _ _ l0_1 a1 t1056 _ ?side1 ?side2 ?side3 ?side4 A12.out).mono ?_); (case side1 => exact zc_ (Kd.C_below HR0_0.out HB.out)); (case side2 => exact HC0_0.out); (case side3 => exact zc_ (Kd.C_below HR0_1.out HB.out)); (case side4 => exact HC0_1.out); rintro e w17 ⟨v1057, rfl, ho0, hb⟩; refine ⟨_, rfl, ?_⟩; have n0_ := zA_ (Kd.R_lower ho0 (below_size (zg1_ HB.out GE1054.out))); have n1_ := zA_ (blk_below (g := gb1054) (o := .cells #[.slice A0_0 l0_0.length c0_0, .slice A0_1 l0_1.length c0_1] 30 (0, 0)) (zb_ BK1054.out) hb); have n2_ := zA_ (below_step (zg1_ HB.out GE1054.out) hb); clear BK1054 HB; have HO1058 := n0_; have BK1054 := n1_; have HB := n2_; clear n0_ n1_ n2_; (try clear hb); (try clear hb2); (try clear hk); (try clear hi); (try clear ho0)))
    go_ret
    exact ⟨_, by first | rfl | (simp [errW_none, errW_some] <;> rfl) | (simp [*, errW_none, errW_some] <;> rfl), by (with_reducible repeat (first | apply Kd.R_alloc | apply Kd.R_drewN | apply Kd.R_drew)); exact HO1058.out, by repeat (first | (with_reducible first | exact HB.out | apply below_alloc | apply pw_below_drewN | apply below_drew1 | refine below_set ?_ GE1054.out) | exact HB.out)⟩
  ·
   replace c6 := Bool.eq_false_iff.mpr c6
   subst c6
   have H1 : (some ([] : List (S116))) = some r := by rw [if_neg (show ¬ (false = true) by decide)] at H; exact H
   clear H
   have H := H1
   clear H1
   obtain rfl := Option.some.inj H
   go_enter Try.func47, Try.ntmps47
   go_wp2_with (first | ((with_reducible refine gate_dst (N := 2) rfl ?_); (try (refine gate_guard (by rfl) ?_; dsimp only)); refine box_event ?hg (N := 2) ?hd (cs := #[.slice A0_0 l0_0.length c0_0, .slice A0_1 l0_1.length c0_1]) (t := 30) ?hr ?_; (case hd => rfl); (case hg => rfl); (case hr => first | (go_simp; done) | (go_simp; rfl)); intro gb1054 hg w18 hbox hb; have n0_ := zA_ (below_step (zh_ HB.out) hb); have n1_ := zA_ (hbox); have n2_ := zA_ ((by rw [hg]; exact (below_size (zh_ HB.out)) : w.heap.size ≤ gb1054)); have n3_ := zA_ ((by rw [hg]; exact (below_size (zh_ HB.out)) : w.heap.size ≤ gb1054)); clear HB; have HB := n0_; have BK1054 := n1_; have GW1054 := n2_; have GE1054 := n3_; clear n0_ n1_ n2_ n3_; clear hb hbox hg; have hcz19_0 : w18.cell? ⟨gb1054, 0, none⟩ = some (.slice A0_0 l0_0.length c0_0) := (blk_cell BK1054.out 0).trans rfl; have hcz19_1 : w18.cell? ⟨gb1054, 1, none⟩ = some (.slice A0_1 l0_1.length c0_1) := (blk_cell BK1054.out 1).trans rfl; have hfz19_0 := blk_frozen BK1054.out 0; have hfz19_1 := blk_frozen BK1054.out 1) | (go_at_call 74; (with_reducible refine (impl_isFlash.calls _ _ l0_0 _ _ l0_1 false _ ?side1 ?side2 ?side3 ?side4 A5.out).mono ?_); (case side1 => exact zc_ (Kd.C_below HR0_0.out HB.out)); (case side2 => exact HC0_0.out); (case side3 => exact zc_ (Kd.C_below HR0_1.out HB.out)); (case side4 => exact HC0_1.out); rintro e w20 ⟨rfl, hb⟩; have n0_ := zA_ (blk_below (g := gb1054) (o := .cells #[.slice A0_0 l0_0.length c0_0, .slice A0_1 l0_1.length c0_1] 30 (0, 0)) (zb_ BK1054.out) hb); have n1_ := zA_ (below_step (zg1_ HB.out GE1054.out) hb); clear BK1054 HB; have BK1054 := n0_; have HB := n1_; clear n0_ n1_; (try clear hb); (try clear hb2); (try clear hk); (try clear hi)))
   go_ret
   exact ⟨_, by first | rfl | (simp [errW_none, errW_some] <;> rfl) | (simp [*, errW_none, errW_some] <;> rfl), by first | exact Kd.R_nil _ _ _ _ _ | exact Kd.N_nil _ _ _ _ _ | exact Kd.V_nil _ _ _ _ _ | exact Kd.Q_nil _ _ _ _ _ | exact Kd.S_nil _ _ _ _ _, by repeat (first | (with_reducible first | exact HB.out | apply below_alloc | apply pw_below_drewN | apply below_drew1 | refine below_set ?_ GE1054.out) | exact HB.out)⟩

/-! ### laws_heldActS: function 48 -/
def laws_heldActS.l0 : Nat → List (S116) → Int → Int → Option (Int)
 | 0, _, _, _ => none
 | k + 1, x0, x1, x5 => if x5 < (x0.length : Int) then (if 0 ≤ x5 then (if (((rd_T116 x0 x5).f0) != ((Int.tmod x1 3) == 0)) = true then (some (-1)) else (if ((rd_T116 x0 x5).f1) = (wrap64 (x1 + 1)) then ((laws_markText.f k (wrap64 ((wrap64 (x1 + 1)) + 1))).bind fun t1062 => (if ((rd_T116 x0 x5).f2).toList = t1062.toList then (laws_heldActS.l0 k x0 (wrap64 ((wrap64 ((wrap64 (x1 + 1)) + 1)) + 1)) (wrap64 (x5 + 1))) else (some (-1)))) else (some (-1)))) else (none)) else (some x1)
def laws_heldActS.f (k : Nat) (l0 : List (S116)) (a1 : Int) : Option (Int) := laws_heldActS.l0 k l0 a1 0
theorem laws_heldActS.mono_l : ∀ k, (∀ y0 y1 y2, LeO (laws_heldActS.l0 k y0 y1 y2) (laws_heldActS.l0 (k + 1) y0 y1 y2))
 | 0 => fun _ _ _ r h => by simp [laws_heldActS.l0] at h
 | k + 1 => by
  have ih0 := laws_heldActS.mono_l k
  ·
   intro y0 y1 y2
   unfold laws_heldActS.l0
   repeat' first
   | (with_reducible exact ih0 _ _ _)
   | (with_reducible exact laws_markText.mono _ _)
   | (with_reducible exact LeO.refl _)
   | (with_reducible exact LeO.none _)
   | (with_reducible refine LeO.ite ?_ ?_)
   | (with_reducible refine LeO.bind ?_ (fun _ => ?_))
   | exact ih0 _ _ _
   | exact laws_markText.mono _ _
   | exact LeO.none _
   | refine LeO.ite ?_ ?_
   | refine LeO.bind ?_ (fun _ => ?_)
theorem laws_heldActS.mono : ∀ a0 a1 k, LeO (laws_heldActS.f k a0 a1) (laws_heldActS.f (k + 1) a0 a1) := by
 intro a0 a1 k
 have ih0 := laws_heldActS.mono_l k
 unfold laws_heldActS.f
 repeat' first
   | (with_reducible exact ih0 _ _ _)
   | (with_reducible exact laws_markText.mono _ _)
   | (with_reducible exact LeO.refl _)
   | (with_reducible exact LeO.none _)
   | (with_reducible refine LeO.ite ?_ ?_)
   | (with_reducible refine LeO.bind ?_ (fun _ => ?_))
   | exact ih0 _ _ _
   | exact laws_markText.mono _ _
   | exact LeO.none _
   | refine LeO.ite ?_ ?_
   | refine LeO.bind ?_ (fun _ => ?_)
def laws_heldActS.T10 : Bool × List (List Nat × List Nat) := (true, [([], []), ([], []), ([0, 1], [0, 1]), ([2], [2]), ([3], [3]), ([], []), ([5], [5]), ([4, 6], [4, 6])])
def laws_heldActS.B10 : List Nat := [0, 0, 3, 7, 15, 0, 32, 127]
theorem laws_heldActS.tab10 : rtab .any (opsOf Try.f48 10) = laws_heldActS.T10 := by kernel_rfl
theorem laws_heldActS.bits10 : waitsOk laws_heldActS.T10.2 laws_heldActS.B10 = true := by kernel_rfl
set_option maxHeartbeats 8000000 in
set_option maxRecDepth 100000 in
theorem laws_heldActS.calls (k : Nat) (A0 : Option Addr) (c0 : Nat) (l0 : List (S116)) (a1 : Int) (r : Int) (w : World) (hr0 : Kd.C k116 w A0 l0.length l0) (hc0 : l0.length ≤ c0) (h : laws_heldActS.f k l0 a1 = some r) :
  Calls Try.prog 48 #[.slice A0 l0.length c0, .int .i64 a1] w fun e w' => e = .returned (.int .i64 r) ∧ Below w.heap.size w w' := by
 have HR0 := zA_ hr0
 have HC0 := zA_ hc0
 clear hr0 hc0
 have HB := zA_ (Below.refl w.heap.size w)
 have H : (laws_heldActS.l0 k l0 a1 0) = some r := h
 clear h
 have H' := zA_ H
 clear H
 go_enter Try.func48, Try.ntmps48
 go_wp2
 go_loopg [1, 5] k (fun kq v1 v5 w' => ∃ (x1_1 : Int) (x5_1 : Int), v1 = .int .i64 x1_1 ∧ v5 = .int .i64 x5_1 ∧ Aside0 (laws_heldActS.l0 kq l0 x1_1 x5_1 = some r) ∧ Aside0 (kq ≤ k) ∧ Aside0 (Below w.heap.size w w'))
 case atStart => exact ⟨(a1), (0), (by first | rfl | (simp; done) | (simp [*]; done)), (by first | rfl | (simp; done) | (simp [*]; done)), H', ⟨Nat.le_refl _⟩, ⟨zh_ HB.out⟩⟩
 case round =>
  clear H'
  try clear p2
  obtain ⟨x1_1, x5_1, rfl, rfl, HA, HK1, HB⟩ := hrel
  cases gk with
  | zero => exact absurd HA.out (by simp [laws_heldActS.l0])
  | succ k1 =>
   have H := HA.out
   clear HA
   simp only [laws_heldActS.l0] at H
   by_cases c3 : x5_1 < (l0.length : Int)
   ·
    rw [if_pos c3] at H
    have c3b0 : decide (x5_1 < (l0.length : Int)) = true := decide_eq_true c3
    clear c3
    by_cases c4 : 0 ≤ x5_1
    ·
     rw [if_pos c4] at H
     have c4b0 : decide (0 ≤ x5_1) = true := decide_eq_true c4
     clear c4
     by_cases c5 : (((rd_T116 l0 x5_1).f0) != ((Int.tmod x1_1 3) == 0)) = true
     ·
      rw [if_pos c5] at H
      have c5b0 : (((rd_T116 l0 x5_1).f0) != ((Int.tmod x1_1 3) == 0)) = true := c5
      (try (have c5b1 : decide (((rd_T116 l0 x5_1).f0) = ((Int.tmod x1_1 3) == 0)) = false := by simpa using c5))
      (try (have c5b2 : (((rd_T116 l0 x5_1).f0) == ((Int.tmod x1_1 3) == 0)) = false := by simpa using c5))
      (try (have c5b3 : ¬ (((rd_T116 l0 x5_1).f0) = ((Int.tmod x1_1 3) == 0)) := by simpa using c5))
      clear c5
      obtain rfl := Option.some.inj H
      have p1059 : 0 ≤ (x5_1 : Int) := of_decide_eq_true (by first | (with_reducible assumption) | assumption)
      have q1059 : x5_1 < (l0.length : Int) := of_decide_eq_true (by first | (with_reducible assumption) | assumption)
      obtain ⟨ad1059, e1059, hx1059_0, hx1059_1, hx1059_2⟩ := at_T116 HR0.out x5_1 p1059 q1059
      cases e1059
      replace hx1059_0 := (HB.out.cell (World.block_lt_of_cell? _ _ hx1059_0)).trans hx1059_0
      replace hx1059_1 := (HB.out.cell (World.block_lt_of_cell? _ _ hx1059_1)).trans hx1059_1
      replace hx1059_2 := (HB.out.cell (World.block_lt_of_cell? _ _ hx1059_2)).trans hx1059_2
      replace p1059 := eq_true p1059
      replace q1059 := eq_true q1059
      go_wp2
      go_ret
      exact ⟨by first | rfl | (simp [errW_none, errW_some] <;> rfl) | (simp [*, errW_none, errW_some] <;> rfl), by repeat (first | (with_reducible first | exact HB.out | apply below_alloc | apply pw_below_drewN | apply below_drew1) | exact HB.out)⟩
     ·
      rw [if_neg c5] at H
      have c5b0 : (((rd_T116 l0 x5_1).f0) != ((Int.tmod x1_1 3) == 0)) = false := by simpa using c5
      (try (have c5b1 : decide (((rd_T116 l0 x5_1).f0) = ((Int.tmod x1_1 3) == 0)) = true := by simpa using c5))
      (try (have c5b2 : (((rd_T116 l0 x5_1).f0) == ((Int.tmod x1_1 3) == 0)) = true := by simpa using c5))
      clear c5
      by_cases c6 : ((rd_T116 l0 x5_1).f1) = (wrap64 (x1_1 + 1))
      ·
       rw [if_pos c6] at H
       have c6b0 : (((rd_T116 l0 x5_1).f1) == (wrap64 (x1_1 + 1))) = true := beq_iff_eq.mpr c6
       have c6b1 : (((rd_T116 l0 x5_1).f1) != (wrap64 (x1_1 + 1))) = false := bne_eq_false_iff_eq.mpr c6
       clear c6
       replace H := Option.bind_eq_some_iff.mp H
       obtain ⟨t1062, A70, H⟩ := H
       replace H : (if ((rd_T116 l0 x5_1).f2).toList = t1062.toList then (laws_heldActS.l0 k1 l0 (wrap64 ((wrap64 ((wrap64 (x1_1 + 1)) + 1)) + 1)) (wrap64 (x5_1 + 1))) else (some (-1))) = some r := H
       have A7 := zA_ A70
       clear A70
       by_cases c8 : ((rd_T116 l0 x5_1).f2).toList = t1062.toList
       ·
        rw [if_pos c8] at H
        have c8b0 : (((rd_T116 l0 x5_1).f2).toList == t1062.toList) = true := beq_iff_eq.mpr c8
        have c8b1 : (((rd_T116 l0 x5_1).f2).toList != t1062.toList) = false := bne_eq_false_iff_eq.mpr c8
        clear c8
        have H' := zA_ H
        clear H
        have p1059 : 0 ≤ (x5_1 : Int) := of_decide_eq_true (by first | (with_reducible assumption) | assumption)
        have q1059 : x5_1 < (l0.length : Int) := of_decide_eq_true (by first | (with_reducible assumption) | assumption)
        obtain ⟨ad1059, e1059, hx1059_0, hx1059_1, hx1059_2⟩ := at_T116 HR0.out x5_1 p1059 q1059
        cases e1059
        replace hx1059_0 := (HB.out.cell (World.block_lt_of_cell? _ _ hx1059_0)).trans hx1059_0
        replace hx1059_1 := (HB.out.cell (World.block_lt_of_cell? _ _ hx1059_1)).trans hx1059_1
        replace hx1059_2 := (HB.out.cell (World.block_lt_of_cell? _ _ hx1059_2)).trans hx1059_2
        replace p1059 := eq_true p1059
        replace q1059 := eq_true q1059
        have p1060 : 0 ≤ (x5_1 : Int) := of_decide_eq_true (by first | (with_reducible assumption) | assumption)
        have q1060 : x5_1 < (l0.length : Int) := of_decide_eq_true (by first | (with_reducible assumption) | assumption)
        obtain ⟨ad1060, e1060, hx1060_0, hx1060_1, hx1060_2⟩ := at_T116 HR0.out x5_1 p1060 q1060
        obtain rfl : ad1059 = ad1060 := (by injection e1060)
        replace hx1060_0 := (HB.out.cell (World.block_lt_of_cell? _ _ hx1060_0)).trans hx1060_0
        replace hx1060_1 := (HB.out.cell (World.block_lt_of_cell? _ _ hx1060_1)).trans hx1060_1
        replace hx1060_2 := (HB.out.cell (World.block_lt_of_cell? _ _ hx1060_2)).trans hx1060_2
        replace p1060 := eq_true p1060
        replace q1060 := eq_true q1060
        try go_wp2
        have n0_ := zA_ (below_drew1 HB.out)
        clear HB
        have HB := n0_
        clear n0_
        have p1061 : 0 ≤ (x5_1 : Int) := of_decide_eq_true (by first | (with_reducible assumption) | assumption)
        have q1061 : x5_1 < (l0.length : Int) := of_decide_eq_true (by first | (with_reducible assumption) | assumption)
        obtain ⟨ad1061, e1061, hx1061_0, hx1061_1, hx1061_2⟩ := at_T116 HR0.out x5_1 p1061 q1061
        have hw1061_2 := hx1061_2
        have hw1061_1 := hx1061_1
        have hw1061_0 := hx1061_0
        obtain rfl : ad1059 = ad1061 := (by injection e1061)
        replace hx1061_0 := (HB.out.cell (World.block_lt_of_cell? _ _ hx1061_0)).trans hx1061_0
        replace hx1061_1 := (HB.out.cell (World.block_lt_of_cell? _ _ hx1061_1)).trans hx1061_1
        replace hx1061_2 := (HB.out.cell (World.block_lt_of_cell? _ _ hx1061_2)).trans hx1061_2
        replace p1061 := eq_true p1061
        replace q1061 := eq_true q1061
        refine start_ (n := 8) (S := fun w' => w'.cell? (ad1059.add ((x5_1).toNat * 3)) = some (.bool ((rd_T116 l0 x5_1).f0)) ∧ w'.cell? ⟨(ad1059.add ((x5_1).toNat * 3)).block, (ad1059.add ((x5_1).toNat * 3)).off + 1, none⟩ = some (.int .i64 ((rd_T116 l0 x5_1).f1)) ∧ w'.cell? ⟨(ad1059.add ((x5_1).toNat * 3)).block, (ad1059.add ((x5_1).toNat * 3)).off + 2, none⟩ = some (.string ((rd_T116 l0 x5_1).f2))) (ds := []) #[false, false, false, false, false, false, false, false] (by kernel_rfl) rfl rfl ⟨((HB.out.cell (World.block_lt_of_cell? _ _ hw1061_0)).trans hw1061_0), ((HB.out.cell (World.block_lt_of_cell? _ _ hw1061_1)).trans hw1061_1), ((HB.out.cell (World.block_lt_of_cell? _ _ hw1061_2)).trans hw1061_2)⟩ (fun hHeld => ?_); refine with_tabW laws_heldActS.tab10 laws_heldActS.bits10 (fun HT_ HW_ => ?_)
        generalize wr.drew = w9 at HB hx1061_0 hx1061_1 hx1061_2 hHeld ⊢
        refine pure_ (i := 0) (N := some 32) (v := ?_) (a' := ?_) #[true, false, false, false, false, false, false, false] rfl rfl (any_of HT_.out (by kernel_rfl)) (fun _ _ _ h => h) (Or.inl ⟨by rfl, ?_⟩) ?_ ?_
        rotate_left
        ·
         intro w'
         go_simp
         with_reducible rfl
        rotate_left
        ·
         simp only [Act.put, List.setIfInBounds_toArray, List.set_cons_zero, List.set_cons_succ, i64_w, i32_w]
         rfl
        refine pure_ (i := 1) (N := some 33) (v := ?_) (a' := ?_) #[true, true, false, false, false, false, false, false] rfl rfl (any_of HT_.out (by kernel_rfl)) (fun _ _ _ h => h) (Or.inl ⟨by rfl, ?_⟩) ?_ ?_
        rotate_left
        ·
         intro w'
         go_simp
         with_reducible rfl
        rotate_left
        ·
         simp only [Act.put, List.setIfInBounds_toArray, List.set_cons_zero, List.set_cons_succ, i64_w, i32_w]
         rfl
        refine pure_ (i := 2) (N := some 34) (v := ?_) (a' := ?_) #[true, true, true, false, false, false, false, false] rfl rfl (any_of HT_.out (by kernel_rfl)) (fun _ _ _ h => h) (Or.inl ⟨by rfl, ?_⟩) ?_ ?_
        rotate_left
        ·
         intro w'
         go_simp
         with_reducible rfl
        rotate_left
        ·
         simp only [Act.put, List.setIfInBounds_toArray, List.set_cons_zero, List.set_cons_succ, i64_w, i32_w]
         rfl
        refine pure_ (i := 3) (N := some 35) (v := ?_) (a' := ?_) #[true, true, true, true, false, false, false, false] rfl rfl (any_of HT_.out (by kernel_rfl)) (fun _ _ _ h => h) (Or.inl ⟨by rfl, ?_⟩) ?_ ?_
        rotate_left
        ·
         intro w'
         go_simp
         with_reducible rfl
        rotate_left
        ·
         simp only [Act.put, List.setIfInBounds_toArray, List.set_cons_zero, List.set_cons_succ, i64_w, i32_w]
         rfl
        refine pure_ (i := 5) (N := some 37) (v := ?_) (a' := ?_) #[true, true, true, true, false, true, false, false] rfl rfl (any_of HT_.out (by kernel_rfl)) (fun _ _ _ h => h) (Or.inl ⟨by rfl, ?_⟩) ?_ ?_
        rotate_left
        ·
         intro w'
         go_simp
         with_reducible rfl
        rotate_left
        ·
         simp only [Act.put, List.setIfInBounds_toArray, List.set_cons_zero, List.set_cons_succ, i64_w, i32_w]
         rfl
        refine take_ (i := 4) (N := some 36) (v := ?_) (a' := ?_) #[true, true, true, true, true, true, false, false] rfl rfl (take_ofW HT_.out HW_.out (by kernel_rfl)) (fun _ _ _ h => h) (Or.inl ⟨by rfl, ?_⟩) hHeld ?_ ?_
        rotate_left
        ·
         rintro w' ⟨s0, s1, s2⟩
         go_simp
         with_reducible rfl
        rotate_left
        ·
         simp only [Act.put, List.setIfInBounds_toArray, List.set_cons_zero, List.set_cons_succ, i64_w, i32_w]
         rfl
        refine one_ (i := 6) (N := some 38) #[true, true, true, true, true, true, true, false] rfl rfl (one_of HT_.out (by kernel_rfl)) (by decide) (fun K hK => ?_)
        refine goes_ Try.func102 (by kernel_rfl) rfl #[.int .i64 (wrap64 ((wrap64 (x1_1 + 1)) + 1))] (by rfl) rfl rfl zs_ ?_
        with_reducible refine (laws_markText.calls k1 (wrap64 ((wrap64 (x1_1 + 1)) + 1)) t1062 _ A7.out).mono ?_
        rintro e w10 ⟨rfl, hb⟩
        refine ⟨_, rfl, ?_⟩
        have n0_ := zA_ (below_step (zh_ HB.out) hb)
        clear HB
        have HB := n0_
        clear n0_
        (try clear hb)
        (try clear hb2)
        (try clear hk)
        (try clear hi)
        refine hK.out _ _ ⟨((HB.out.cell (World.block_lt_of_cell? _ _ hw1061_0)).trans hw1061_0), ((HB.out.cell (World.block_lt_of_cell? _ _ hw1061_1)).trans hw1061_1), ((HB.out.cell (World.block_lt_of_cell? _ _ hw1061_2)).trans hw1061_2)⟩ (fun hHeld => ?_)
        clear hK K
        refine norm_ (a' := ?_) ?_ ?_
        rotate_left
        ·
         show Act.put _ (some 38) _ = _
         simp only [Act.put, List.setIfInBounds_toArray, List.set_cons_zero, List.set_cons_succ, i64_w, i32_w]
         rfl
        refine pure_ (i := 7) (N := some 39) (v := ?_) (a' := ?_) #[true, true, true, true, true, true, true, true] rfl rfl (any_of HT_.out (by kernel_rfl)) (fun _ _ _ h => h) (Or.inl ⟨by rfl, ?_⟩) ?_ ?_
        rotate_left
        ·
         intro w'
         go_simp
         with_reducible rfl
        rotate_left
        ·
         simp only [Act.put, List.setIfInBounds_toArray, List.set_cons_zero, List.set_cons_succ, i64_w, i32_w]
         rfl
        refine done_ (done_of HT_.out (by kernel_rfl)) ?_
        try go_wp2
        go_roundg k1
        case measure => have := HK1.out; omega
        case rel => exact ⟨(wrap64 ((wrap64 ((wrap64 (x1_1 + 1)) + 1)) + 1)), (wrap64 (x5_1 + 1)), (by first | rfl | (simp; done) | (simp [*]; done)), (by first | rfl | (simp; done) | (simp [*]; done)), H', ⟨by have := HK1.out; omega⟩, ⟨zh_ HB.out⟩⟩
       ·
        rw [if_neg c8] at H
        have c8b0 : (((rd_T116 l0 x5_1).f2).toList == t1062.toList) = false := beq_eq_false_iff_ne.mpr c8
        have c8b1 : (((rd_T116 l0 x5_1).f2).toList != t1062.toList) = true := bne_iff_ne.mpr c8
        obtain rfl := Option.some.inj H
        have p1059 : 0 ≤ (x5_1 : Int) := of_decide_eq_true (by first | (with_reducible assumption) | assumption)
        have q1059 : x5_1 < (l0.length : Int) := of_decide_eq_true (by first | (with_reducible assumption) | assumption)
        obtain ⟨ad1059, e1059, hx1059_0, hx1059_1, hx1059_2⟩ := at_T116 HR0.out x5_1 p1059 q1059
        cases e1059
        replace hx1059_0 := (HB.out.cell (World.block_lt_of_cell? _ _ hx1059_0)).trans hx1059_0
        replace hx1059_1 := (HB.out.cell (World.block_lt_of_cell? _ _ hx1059_1)).trans hx1059_1
        replace hx1059_2 := (HB.out.cell (World.block_lt_of_cell? _ _ hx1059_2)).trans hx1059_2
        replace p1059 := eq_true p1059
        replace q1059 := eq_true q1059
        have p1060 : 0 ≤ (x5_1 : Int) := of_decide_eq_true (by first | (with_reducible assumption) | assumption)
        have q1060 : x5_1 < (l0.length : Int) := of_decide_eq_true (by first | (with_reducible assumption) | assumption)
        obtain ⟨ad1060, e1060, hx1060_0, hx1060_1, hx1060_2⟩ := at_T116 HR0.out x5_1 p1060 q1060
        obtain rfl : ad1059 = ad1060 := (by injection e1060)
        replace hx1060_0 := (HB.out.cell (World.block_lt_of_cell? _ _ hx1060_0)).trans hx1060_0
        replace hx1060_1 := (HB.out.cell (World.block_lt_of_cell? _ _ hx1060_1)).trans hx1060_1
        replace hx1060_2 := (HB.out.cell (World.block_lt_of_cell? _ _ hx1060_2)).trans hx1060_2
        replace p1060 := eq_true p1060
        replace q1060 := eq_true q1060
        try go_wp2
        have n0_ := zA_ (below_drew1 HB.out)
        clear HB
        have HB := n0_
        clear n0_
        have p1061 : 0 ≤ (x5_1 : Int) := of_decide_eq_true (by first | (with_reducible assumption) | assumption)
        have q1061 : x5_1 < (l0.length : Int) := of_decide_eq_true (by first | (with_reducible assumption) | assumption)
        obtain ⟨ad1061, e1061, hx1061_0, hx1061_1, hx1061_2⟩ := at_T116 HR0.out x5_1 p1061 q1061
        have hw1061_2 := hx1061_2
        have hw1061_1 := hx1061_1
        have hw1061_0 := hx1061_0
        obtain rfl : ad1059 = ad1061 := (by injection e1061)
        replace hx1061_0 := (HB.out.cell (World.block_lt_of_cell? _ _ hx1061_0)).trans hx1061_0
        replace hx1061_1 := (HB.out.cell (World.block_lt_of_cell? _ _ hx1061_1)).trans hx1061_1
        replace hx1061_2 := (HB.out.cell (World.block_lt_of_cell? _ _ hx1061_2)).trans hx1061_2
        replace p1061 := eq_true p1061
        replace q1061 := eq_true q1061
        refine start_ (n := 8) (S := fun w' => w'.cell? (ad1059.add ((x5_1).toNat * 3)) = some (.bool ((rd_T116 l0 x5_1).f0)) ∧ w'.cell? ⟨(ad1059.add ((x5_1).toNat * 3)).block, (ad1059.add ((x5_1).toNat * 3)).off + 1, none⟩ = some (.int .i64 ((rd_T116 l0 x5_1).f1)) ∧ w'.cell? ⟨(ad1059.add ((x5_1).toNat * 3)).block, (ad1059.add ((x5_1).toNat * 3)).off + 2, none⟩ = some (.string ((rd_T116 l0 x5_1).f2))) (ds := []) #[false, false, false, false, false, false, false, false] (by kernel_rfl) rfl rfl ⟨((HB.out.cell (World.block_lt_of_cell? _ _ hw1061_0)).trans hw1061_0), ((HB.out.cell (World.block_lt_of_cell? _ _ hw1061_1)).trans hw1061_1), ((HB.out.cell (World.block_lt_of_cell? _ _ hw1061_2)).trans hw1061_2)⟩ (fun hHeld => ?_); refine with_tabW laws_heldActS.tab10 laws_heldActS.bits10 (fun HT_ HW_ => ?_)
        generalize wr.drew = w11 at HB hx1061_0 hx1061_1 hx1061_2 hHeld ⊢
        refine pure_ (i := 0) (N := some 32) (v := ?_) (a' := ?_) #[true, false, false, false, false, false, false, false] rfl rfl (any_of HT_.out (by kernel_rfl)) (fun _ _ _ h => h) (Or.inl ⟨by rfl, ?_⟩) ?_ ?_
        rotate_left
        ·
         intro w'
         go_simp
         with_reducible rfl
        rotate_left
        ·
         simp only [Act.put, List.setIfInBounds_toArray, List.set_cons_zero, List.set_cons_succ, i64_w, i32_w]
         rfl
        refine pure_ (i := 1) (N := some 33) (v := ?_) (a' := ?_) #[true, true, false, false, false, false, false, false] rfl rfl (any_of HT_.out (by kernel_rfl)) (fun _ _ _ h => h) (Or.inl ⟨by rfl, ?_⟩) ?_ ?_
        rotate_left
        ·
         intro w'
         go_simp
         with_reducible rfl
        rotate_left
        ·
         simp only [Act.put, List.setIfInBounds_toArray, List.set_cons_zero, List.set_cons_succ, i64_w, i32_w]
         rfl
        refine pure_ (i := 2) (N := some 34) (v := ?_) (a' := ?_) #[true, true, true, false, false, false, false, false] rfl rfl (any_of HT_.out (by kernel_rfl)) (fun _ _ _ h => h) (Or.inl ⟨by rfl, ?_⟩) ?_ ?_
        rotate_left
        ·
         intro w'
         go_simp
         with_reducible rfl
        rotate_left
        ·
         simp only [Act.put, List.setIfInBounds_toArray, List.set_cons_zero, List.set_cons_succ, i64_w, i32_w]
         rfl
        refine pure_ (i := 3) (N := some 35) (v := ?_) (a' := ?_) #[true, true, true, true, false, false, false, false] rfl rfl (any_of HT_.out (by kernel_rfl)) (fun _ _ _ h => h) (Or.inl ⟨by rfl, ?_⟩) ?_ ?_
        rotate_left
        ·
         intro w'
         go_simp
         with_reducible rfl
        rotate_left
        ·
         simp only [Act.put, List.setIfInBounds_toArray, List.set_cons_zero, List.set_cons_succ, i64_w, i32_w]
         rfl
        refine pure_ (i := 5) (N := some 37) (v := ?_) (a' := ?_) #[true, true, true, true, false, true, false, false] rfl rfl (any_of HT_.out (by kernel_rfl)) (fun _ _ _ h => h) (Or.inl ⟨by rfl, ?_⟩) ?_ ?_
        rotate_left
        ·
         intro w'
         go_simp
         with_reducible rfl
        rotate_left
        ·
         simp only [Act.put, List.setIfInBounds_toArray, List.set_cons_zero, List.set_cons_succ, i64_w, i32_w]
         rfl
        refine take_ (i := 4) (N := some 36) (v := ?_) (a' := ?_) #[true, true, true, true, true, true, false, false] rfl rfl (take_ofW HT_.out HW_.out (by kernel_rfl)) (fun _ _ _ h => h) (Or.inl ⟨by rfl, ?_⟩) hHeld ?_ ?_
        rotate_left
        ·
         rintro w' ⟨s0, s1, s2⟩
         go_simp
         with_reducible rfl
        rotate_left
        ·
         simp only [Act.put, List.setIfInBounds_toArray, List.set_cons_zero, List.set_cons_succ, i64_w, i32_w]
         rfl
        refine one_ (i := 6) (N := some 38) #[true, true, true, true, true, true, true, false] rfl rfl (one_of HT_.out (by kernel_rfl)) (by decide) (fun K hK => ?_)
        refine goes_ Try.func102 (by kernel_rfl) rfl #[.int .i64 (wrap64 ((wrap64 (x1_1 + 1)) + 1))] (by rfl) rfl rfl zs_ ?_
        with_reducible refine (laws_markText.calls k1 (wrap64 ((wrap64 (x1_1 + 1)) + 1)) t1062 _ A7.out).mono ?_
        rintro e w12 ⟨rfl, hb⟩
        refine ⟨_, rfl, ?_⟩
        have n0_ := zA_ (below_step (zh_ HB.out) hb)
        clear HB
        have HB := n0_
        clear n0_
        (try clear hb)
        (try clear hb2)
        (try clear hk)
        (try clear hi)
        refine hK.out _ _ ⟨((HB.out.cell (World.block_lt_of_cell? _ _ hw1061_0)).trans hw1061_0), ((HB.out.cell (World.block_lt_of_cell? _ _ hw1061_1)).trans hw1061_1), ((HB.out.cell (World.block_lt_of_cell? _ _ hw1061_2)).trans hw1061_2)⟩ (fun hHeld => ?_)
        clear hK K
        refine norm_ (a' := ?_) ?_ ?_
        rotate_left
        ·
         show Act.put _ (some 38) _ = _
         simp only [Act.put, List.setIfInBounds_toArray, List.set_cons_zero, List.set_cons_succ, i64_w, i32_w]
         rfl
        refine pure_ (i := 7) (N := some 39) (v := ?_) (a' := ?_) #[true, true, true, true, true, true, true, true] rfl rfl (any_of HT_.out (by kernel_rfl)) (fun _ _ _ h => h) (Or.inl ⟨by rfl, ?_⟩) ?_ ?_
        rotate_left
        ·
         intro w'
         go_simp
         with_reducible rfl
        rotate_left
        ·
         simp only [Act.put, List.setIfInBounds_toArray, List.set_cons_zero, List.set_cons_succ, i64_w, i32_w]
         rfl
        refine done_ (done_of HT_.out (by kernel_rfl)) ?_
        try go_wp2
        go_ret
        exact ⟨by first | rfl | (simp [errW_none, errW_some] <;> rfl) | (simp [*, errW_none, errW_some] <;> rfl), by repeat (first | (with_reducible first | exact HB.out | apply below_alloc | apply pw_below_drewN | apply below_drew1) | exact HB.out)⟩
      ·
       rw [if_neg c6] at H
       have c6b0 : (((rd_T116 l0 x5_1).f1) == (wrap64 (x1_1 + 1))) = false := beq_eq_false_iff_ne.mpr c6
       have c6b1 : (((rd_T116 l0 x5_1).f1) != (wrap64 (x1_1 + 1))) = true := bne_iff_ne.mpr c6
       obtain rfl := Option.some.inj H
       have p1059 : 0 ≤ (x5_1 : Int) := of_decide_eq_true (by first | (with_reducible assumption) | assumption)
       have q1059 : x5_1 < (l0.length : Int) := of_decide_eq_true (by first | (with_reducible assumption) | assumption)
       obtain ⟨ad1059, e1059, hx1059_0, hx1059_1, hx1059_2⟩ := at_T116 HR0.out x5_1 p1059 q1059
       cases e1059
       replace hx1059_0 := (HB.out.cell (World.block_lt_of_cell? _ _ hx1059_0)).trans hx1059_0
       replace hx1059_1 := (HB.out.cell (World.block_lt_of_cell? _ _ hx1059_1)).trans hx1059_1
       replace hx1059_2 := (HB.out.cell (World.block_lt_of_cell? _ _ hx1059_2)).trans hx1059_2
       replace p1059 := eq_true p1059
       replace q1059 := eq_true q1059
       have p1060 : 0 ≤ (x5_1 : Int) := of_decide_eq_true (by first | (with_reducible assumption) | assumption)
       have q1060 : x5_1 < (l0.length : Int) := of_decide_eq_true (by first | (with_reducible assumption) | assumption)
       obtain ⟨ad1060, e1060, hx1060_0, hx1060_1, hx1060_2⟩ := at_T116 HR0.out x5_1 p1060 q1060
       obtain rfl : ad1059 = ad1060 := (by injection e1060)
       replace hx1060_0 := (HB.out.cell (World.block_lt_of_cell? _ _ hx1060_0)).trans hx1060_0
       replace hx1060_1 := (HB.out.cell (World.block_lt_of_cell? _ _ hx1060_1)).trans hx1060_1
       replace hx1060_2 := (HB.out.cell (World.block_lt_of_cell? _ _ hx1060_2)).trans hx1060_2
       replace p1060 := eq_true p1060
       replace q1060 := eq_true q1060
       go_wp2
       go_ret
       exact ⟨by first | rfl | (simp [errW_none, errW_some] <;> rfl) | (simp [*, errW_none, errW_some] <;> rfl), by repeat (first | (with_reducible first | exact HB.out | apply below_alloc | apply pw_below_drewN | apply below_drew1) | exact HB.out)⟩
    ·
     rw [if_neg c4] at H
     exact absurd H (by simp)
   ·
    rw [if_neg c3] at H
    have c3b0 : decide (x5_1 < (l0.length : Int)) = false := decide_eq_false c3
    clear c3
    obtain rfl := Option.some.inj H
    go_wp2
    go_ret
    exact ⟨by first | rfl | (simp [errW_none, errW_some] <;> rfl) | (simp [*, errW_none, errW_some] <;> rfl), by repeat (first | (with_reducible first | exact HB.out | apply below_alloc | apply pw_below_drewN | apply below_drew1) | exact HB.out)⟩

end Go.Proofs.Ytibnmnkembbgeaa.Q
