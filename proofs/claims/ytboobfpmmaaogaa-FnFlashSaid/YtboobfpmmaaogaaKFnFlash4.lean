/- What is written is read, no other sector is turned; what is synced stays when the power goes; an unsynced sector is then what it was, what was written, or a beginning of it; for every draw. Part 4. -/
import Derived.Test.YtboobfpmmaaogaaKFnFlash3
namespace Go.Proofs.Ytboobfpmmaaogaa.Q
open Go.RowKit Go.Proofs.YtboobfpmmaaogaaW.PrintWords Go.Proofs.YtboobfpmmaaogaaW.PrintLast Go.Proofs.YtboobfpmmaaogaaW.PrintMore
attribute [local go_sem] max2_int min2_int max_two min_two max_three min_three max_four min_four Instr.field asAgg
set_option linter.unusedVariables false
set_option linter.unusedSimpArgs false
set_option maxHeartbeats 8000000
set_option maxRecDepth 100000
def spec_FlashCrash.l0 : Nat → List Int → Int → List ByteArray → List (S83) → List ByteArray → Option (List ByteArray × (List (S83)))
 | 0, _, _, _, _, _ => none
 | k + 1, x1, x6, x519000, x519001, x534000 => if x6 < (x519001.length : Int) then (if x6 < (x1.length : Int) then (if 0 ≤ x6 then (if 0 ≤ ((rd_T83 x519001 x6).f0) then (if ((rd_T83 x519001 x6).f0) < (x519000.length : Int) then ((spec_Torn.f k (rdOf ByteArray.empty x519000 ((rd_T83 x519001 x6).f0)) ((rd_T83 x519001 x6).f1) (rd x1 x6)).bind fun t539 => (if ((rd_T83 x519001 x6).f0) < (x534000.length : Int) then (spec_FlashCrash.l0 k x1 (wrap64 (x6 + 1)) x519000 x519001 (x534000.set (((rd_T83 x519001 x6).f0) : Int).toNat t539)) else (none))) else (none)) else (none)) else (none)) else (if 0 ≤ x6 then (if 0 ≤ ((rd_T83 x519001 x6).f0) then (if ((rd_T83 x519001 x6).f0) < (x519000.length : Int) then ((spec_Torn.f k (rdOf ByteArray.empty x519000 ((rd_T83 x519001 x6).f0)) ((rd_T83 x519001 x6).f1) 0).bind fun t545 => (if ((rd_T83 x519001 x6).f0) < (x534000.length : Int) then (spec_FlashCrash.l0 k x1 (wrap64 (x6 + 1)) x519000 x519001 (x534000.set (((rd_T83 x519001 x6).f0) : Int).toNat t545)) else (none))) else (none)) else (none)) else (none))) else (some (x534000, ([] : List (S83))))
def spec_FlashCrash.f (k : Nat) (l0_0 : List ByteArray) (l0_1 : List (S83)) (l1 : List Int) : Option (List ByteArray × (List (S83))) := if (l1.length : Int) > 400 then (some (([] : List ByteArray), ([] : List (S83)))) else ((spec_FlashRight.f k l0_0 l0_1).bind fun t520 => (if t520 = true then ((some (([] : List ByteArray) : List ByteArray)).bind fun y527 => (if y527.length + l0_0.length < 8796093022208 then (spec_FlashCrash.l0 k l1 0 l0_0 l0_1 (y527 ++ l0_0)) else (none))) else ((spec_l03Copy.f l0_0 l0_1).bind fun bt521 => (some (bt521.1, bt521.2)))))
def spec_FlashCrash.T12 : Bool × List (List Nat × List Nat) := (true, [([], []), ([0], [0]), ([], []), ([2], [2]), ([], []), ([3, 4], [3, 4]), ([5], [5]), ([6], [6]), ([], []), ([8], [8]), ([], []), ([10], [10]), ([], []), ([11, 12], [11, 12]), ([13], [13]), ([14], [14]), ([9, 15], [9, 15]), ([16], [16]), ([], []), ([18], [18]), ([], []), ([19, 20], [19, 20]), ([21], [21]), ([22], [22]), ([], []), ([17, 23, 24], [17, 23, 24]), ([1, 7, 0, 1, 2, 3, 4, 5, 6, 7, 8, 9, 10, 11, 12, 13, 14, 15, 16, 17, 18, 19, 20, 21, 22, 23, 24, 25], [1, 7]), ([26, 25, 25, 0, 1, 2, 3, 4, 5, 6, 7, 8, 9, 10, 11, 12, 13, 14, 15, 16, 17, 18, 19, 20, 21, 22, 23, 24, 25], [25, 26])])
def spec_FlashCrash.B12 : List Nat := [0, 1, 0, 4, 0, 28, 60, 124, 0, 256, 0, 1024, 0, 7168, 15360, 31744, 65280, 130816, 0, 262144, 0, 1835008, 3932160, 8126464, 0, 33554176, 67108863, 134217727]
theorem spec_FlashCrash.tab12 : rtab .any (opsOf Try.f16 12) = spec_FlashCrash.T12 := by kernel_rfl
theorem spec_FlashCrash.bits12 : waitsOk spec_FlashCrash.T12.2 spec_FlashCrash.B12 = true := by kernel_rfl
theorem spec_FlashCrash.calls (k : Nat) (A0_0 : Option Addr) (c0_0 : Nat) (l0_0 : List ByteArray) (A0_1 : Option Addr) (c0_1 : Nat) (l0_1 : List (S83)) (A1 : Option Addr) (c1 : Nat) (l1 : List Int) (r1 : List ByteArray) (r2 : List (S83)) (w : World) (hr0_0 : Kd.C Kd.string w A0_0 l0_0.length l0_0) (hc0_0 : l0_0.length ≤ c0_0) (hr0_1 : Kd.C k83 w A0_1 l0_1.length l0_1) (hc0_1 : l0_1.length ≤ c0_1) (hr1 : Kd.C (Kd.int .i64) w A1 l1.length l1) (hc1 : l1.length ≤ c1) (h : spec_FlashCrash.f k l0_0 l0_1 l1 = some (r1, r2)) :
 Calls Try.prog 16 #[.agg #[.slice A0_0 l0_0.length c0_0, .slice A0_1 l0_1.length c0_1], .slice A1 l1.length c1] w fun e w' => ∃ v0_ v1_ : Value, e = .returned (.agg #[v0_, v1_]) ∧ Kd.R Kd.string 9 w' w.heap.size (fun _ => True) v0_ r1 ∧ Kd.R k83 83 w' w.heap.size (fun _ => True) v1_ r2 ∧ Below w.heap.size w w' := by
 have hu26 := Try.underlying26
 have HR0_0 := zA_ hr0_0
 have HC0_0 := zA_ hc0_0
 clear hr0_0 hc0_0
 have HR0_1 := zA_ hr0_1
 have HC0_1 := zA_ hc0_1
 clear hr0_1 hc0_1
 have HR1 := zA_ hr1
 have HC1 := zA_ hc1
 clear hr1 hc1
 have HB := zA_ (Below.refl w.heap.size w)
 have H : (if (l1.length : Int) > 400 then (some (([] : List ByteArray), ([] : List (S83)))) else ((spec_FlashRight.f k l0_0 l0_1).bind fun t520 => (if t520 = true then ((some (([] : List ByteArray) : List ByteArray)).bind fun y527 => (if y527.length + l0_0.length < 8796093022208 then (spec_FlashCrash.l0 k l1 0 l0_0 l0_1 (y527 ++ l0_0)) else (none))) else ((spec_l03Copy.f l0_0 l0_1).bind fun bt521 => (some (bt521.1, bt521.2)))))) = some (r1, r2) := h
 clear h
 by_cases c3 : (l1.length : Int) > 400
 · rw [if_pos c3] at H
   have c3b0 : decide (400 < (l1.length : Int)) = true := decide_eq_true c3
   have c3b1 : decide (400 < l1.length) = true := decide_eq_true (by omega)
   clear c3
   simp only [Option.some.injEq, Prod.mk.injEq] at H
   obtain ⟨rfl, rfl⟩ := H
   go_enter Try.func16, Try.ntmps16
   go_wp2_with (first | ((with_reducible refine gate_dst (N := 2) rfl ?_); refine box_event ?hg (N := 2) ?hd (cs := #[.slice A0_0 l0_0.length c0_0, .slice A0_1 l0_1.length c0_1]) (t := 26) ?hr ?_; (case hd => exact (by rfl)); (case hg => exact (by rfl)); (case hr => exact βMb); intro gb518 hg w4 hbox hb; have BK518 := zA_ (hbox); have GW518 := zA_ ((by rw [hg]; exact (below_size (zh_ HB.out)) : w.heap.size ≤ gb518)); have GE518 := zA_ ((by rw [hg]; exact (below_size (zh_ HB.out)) : w.heap.size ≤ gb518)); replace HB := zA_ (below_step (zh_ HB.out) hb); clear hb hbox hg) | ((with_reducible refine gate_dst (N := 4) rfl ?_); refine box_event ?hg (N := 4) ?hd (cs := #[.slice none 0 0, .slice none 0 0]) (t := 26) ?hr ?_; (case hd => exact (by rfl)); (case hg => exact (by rfl)); (case hr => exact βMb); intro gb519 hg w5 hbox hb; have BK519 := zA_ (hbox); have GW519 := zA_ ((by rw [hg]; exact (below_size (zg1_ HB.out GE518.out)) : w.heap.size ≤ gb519)); have GE519 := zA_ ((by rw [hg]; exact (below_size (zg1_ HB.out GE518.out)) : w.heap.size ≤ gb519)); replace HB := zA_ (below_step (zg1_ HB.out GE518.out) hb); have NB518_519 := zA_ ((by rw [hg]; exact Nat.ne_of_lt (blk_lt (g := gb518) (o := .cells #[.slice A0_0 l0_0.length c0_0, .slice A0_1 l0_1.length c0_1] 26 (0, 0)) (zb_ BK518.out)) : gb518 ≠ gb519)); have NB519_518 := zA_ ((by rw [hg]; exact Nat.ne_of_gt (blk_lt (g := gb518) (o := .cells #[.slice A0_0 l0_0.length c0_0, .slice A0_1 l0_1.length c0_1] 26 (0, 0)) (zb_ BK518.out)) : gb519 ≠ gb518)); replace BK518 := zB_ BK518.out hb; clear hb hbox hg; have hnb6 := NB519_518.out; have hnc6 := NB518_519.out; have hcz7_0 := cz_ BK519.out 0 (.slice none 0 0) rfl; have hcz7_1 := cz_ BK519.out 1 (.slice none 0 0) rfl; have hfz7_0 := blk_frozen BK519.out 0; have hfz7_1 := blk_frozen BK519.out 1))
   refine bodyPost_ret (results_cell_row rfl _ _ gb519 26 #[.slice none 0 0, .slice none 0 0] (0, 0) _ rfl (by (with_reducible repeat (first | refine blk_drewN ?_ _ | refine blk_drew ?_ | refine blk_alloc ?_ _)); refine blk_put (cs := #[.slice none 0 0, .slice none 0 0]) ?_ 1 _ rfl; (with_reducible repeat (first | refine blk_drewN ?_ _ | refine blk_drew ?_ | refine blk_alloc ?_ _)); refine blk_put (cs := #[.slice none 0 0, .slice none 0 0]) ?_ 0 _ rfl; (with_reducible repeat (first | refine blk_drewN ?_ _ | refine blk_drew ?_ | refine blk_alloc ?_ _)); exact BK519.out) Try.underlying26 rfl βPb) rfl ?_
   exact ⟨_, _, βFb, βBb, βBb, βgb⟩
 · rw [if_neg c3] at H
   have c3b0 : decide (400 < (l1.length : Int)) = false := decide_eq_false c3
   have c3b1 : decide (400 < l1.length) = false := decide_eq_false (by omega)
   clear c3
   replace H := Option.bind_eq_some_iff.mp H
   obtain ⟨t520, A80, H⟩ := H
   (try dsimp -simprocs only at H)
   have A8 := zA_ A80
   clear A80
   by_cases c9 : t520 = true
   · subst c9
     have H1 : ((some (([] : List ByteArray) : List ByteArray)).bind fun y527 => (if y527.length + l0_0.length < 8796093022208 then (spec_FlashCrash.l0 k l1 0 l0_0 l0_1 (y527 ++ l0_0)) else (none))) = some (r1, r2) := by rw [if_pos rfl] at H; exact H
     clear H
     have H := H1
     clear H1
     obtain ⟨y527, hy527⟩ : ∃ y_ : List ByteArray, y_ = (([] : List ByteArray)) := ⟨_, rfl⟩
     replace H : (if y527.length + l0_0.length < 8796093022208 then (spec_FlashCrash.l0 k l1 0 l0_0 l0_1 (y527 ++ l0_0)) else (none)) = some (r1, r2) := by first | (rw [hy527]; with_reducible exact H) | (have H2_ := (Option.bind_some _ _).symm.trans H; rw [hy527]; with_reducible exact H2_) | (have H2_ := (Option.bind_some _ _).symm.trans H; with_reducible exact H2_) | with_reducible exact H | (rw [hy527]; exact H) | exact H
     have Ny527 := zA_ hy527
     clear hy527
     by_cases c10 : y527.length + l0_0.length < 8796093022208
     · rw [if_pos c10] at H
       have LMc10 := zA_ c10
       clear c10
       obtain ⟨y530, hy530⟩ : ∃ y_ : List ByteArray, y_ = (y527 ++ l0_0) := ⟨_, rfl⟩
       replace H : (spec_FlashCrash.l0 k l1 0 l0_0 l0_1 y530) = some (r1, r2) := by first | (rw [hy530]; with_reducible exact H) | (have H2_ := (Option.bind_some _ _).symm.trans H; rw [hy530]; with_reducible exact H2_) | (have H2_ := (Option.bind_some _ _).symm.trans H; with_reducible exact H2_) | with_reducible exact H | (rw [hy530]; exact H) | exact H
       have Ny530 := zA_ hy530
       clear hy530
       have H' := zA_ H
       clear H
       go_enter Try.func16, Try.ntmps16
       go_wp2_with (first | ((with_reducible refine gate_dst (N := 2) rfl ?_); refine box_event ?hg (N := 2) ?hd (cs := #[.slice A0_0 l0_0.length c0_0, .slice A0_1 l0_1.length c0_1]) (t := 26) ?hr ?_; (case hd => exact (by rfl)); (case hg => exact (by rfl)); (case hr => exact βMb); intro gb518 hg w11 hbox hb; have BK518 := zA_ (hbox); have GW518 := zA_ ((by rw [hg]; exact (below_size (zh_ HB.out)) : w.heap.size ≤ gb518)); have GE518 := zA_ ((by rw [hg]; exact (below_size (zh_ HB.out)) : w.heap.size ≤ gb518)); replace HB := zA_ (below_step (zh_ HB.out) hb); clear hb hbox hg) | ((with_reducible refine gate_dst (N := 4) rfl ?_); refine box_event ?hg (N := 4) ?hd (cs := #[.slice none 0 0, .slice none 0 0]) (t := 26) ?hr ?_; (case hd => exact (by rfl)); (case hg => exact (by rfl)); (case hr => exact βMb); intro gb519 hg w12 hbox hb; have BK519 := zA_ (hbox); have GW519 := zA_ ((by rw [hg]; exact (below_size (zg1_ HB.out GE518.out)) : w.heap.size ≤ gb519)); have GE519 := zA_ ((by rw [hg]; exact (below_size (zg1_ HB.out GE518.out)) : w.heap.size ≤ gb519)); replace HB := zA_ (below_step (zg1_ HB.out GE518.out) hb); have NB518_519 := zA_ ((by rw [hg]; exact Nat.ne_of_lt (blk_lt (g := gb518) (o := .cells #[.slice A0_0 l0_0.length c0_0, .slice A0_1 l0_1.length c0_1] 26 (0, 0)) (zb_ BK518.out)) : gb518 ≠ gb519)); have NB519_518 := zA_ ((by rw [hg]; exact Nat.ne_of_gt (blk_lt (g := gb518) (o := .cells #[.slice A0_0 l0_0.length c0_0, .slice A0_1 l0_1.length c0_1] 26 (0, 0)) (zb_ BK518.out)) : gb519 ≠ gb518)); replace BK518 := zB_ BK518.out hb; clear hb hbox hg; have hnb13 := NB518_519.out; have hnc13 := NB519_518.out; have hcz14_0 := cz_ BK518.out 0 (.slice A0_0 l0_0.length c0_0) rfl; have hcz14_1 := cz_ BK518.out 1 (.slice A0_1 l0_1.length c0_1) rfl; have hfz14_0 := blk_frozen BK518.out 0; have hfz14_1 := blk_frozen BK518.out 1) | ((with_reducible refine gate_callee (f := 25) rfl ?_); refine goesL_ (some 13) rfl rfl Try.func25 βPb rfl #[.agg #[.slice A0_0 l0_0.length c0_0, .slice A0_1 l0_1.length c0_1]] rfl zs_ ?_; (with_reducible refine (spec_FlashRight.calls k _ _ l0_0 _ _ l0_1 true _ ?side1 ?side2 ?side3 ?side4 A8.out).mono ?_); (case side1 => exact zc_ (Kd.C_below HR0_0.out HB.out)); (case side2 => exact HC0_0.out); (case side3 => exact zc_ (Kd.C_below HR0_1.out HB.out)); (case side4 => exact HC0_1.out); rintro e w15 ⟨rfl, hb⟩; refine ⟨_, rfl, ?_⟩; replace BK518 := zB_ BK518.out hb; replace BK519 := zB_ BK519.out hb; replace HB := zA_ (below_step (zg2_ HB.out GE518.out GE519.out) hb); (try clear hb); (try clear hb2); (try clear hk); (try clear hi)) | ((with_reducible refine gate_dst (N := 17) rfl ?_); refine Kd.R_lit Kd.string _ 9 ?hg (N := 17) ?hd (xs := ([] : List ByteArray)) (inner := []) (ok := fun _ => True) (okp := fun _ => True) ?hr ?hp (fun _ hk => hk) trivial (Below.refl _ _) (Nat.le_refl _) (by simp) ?_; (case hd => exact (by rfl)); (case hg => exact (by rfl)); (case hr => exact βMb); (case hp => exact (Reps.none _ _)); intro v528 w16 ho17 hb hg_ hnew_; clear hg_ hnew_; (first | rw [← Ny527.out] at ho17 | (simp only [Int.reduceToNat] at ho17; rw [← Ny527.out] at ho17)); have HO529 := zA_ (Kd.R_lower ho17 (below_size (zg2_ HB.out GE518.out GE519.out))); replace BK518 := zB_ BK518.out hb; replace BK519 := zB_ BK519.out hb; replace HB := zA_ (below_step (zg2_ HB.out GE518.out GE519.out) hb); clear hb ho17; have hcz18_0 := cz_ BK518.out 0 (.slice A0_0 l0_0.length c0_0) rfl; have hcz18_1 := cz_ BK518.out 1 (.slice A0_1 l0_1.length c0_1) rfl; have hfz18_0 := blk_frozen BK518.out 0; have hfz18_1 := blk_frozen BK518.out 1) | ((with_reducible refine gate_builtin (b := .append) (xs := #[.tmp 17, .tmp 19]) rfl ?_); at_builtin; refine Kd.R_append_rows Kd.string (w0 := w) w.heap.size rfl (.tmp 17) (.tmp 19) 23 9 (.string ⟨#[]⟩) 16 rfl Try.underlying23 info9 rfl (by decide) (by omega) v528 y527 l0_0 _ _ _ (fun _ => True) (fun _ => False) rfl rfl ?aO ?aR (fun _ _ h => h) (fun _ h => h.elim) ?aF ?aB ?aS ?aL ?_; (case aR => exact βmb); (case aB => exact (zg2_ HB.out GE518.out GE519.out)); (case aF => exact (fun _ _ => trivial)); (case aO => exact (zr_ HO529.out)); (case aS => exact (below_size (zg2_ HB.out GE518.out GE519.out))); (case aL => exact (by have := LMc10.out; omega)); intro v531 w19 ho hb hg hat; rw [← Ny530.out] at ho; replace BK518 := zA_ (blk_grown (g := gb518) (o := .cells #[.slice A0_0 l0_0.length c0_0, .slice A0_1 l0_1.length c0_1] 26 (0, 0)) (zb_ BK518.out) hg (Kd.R_ne HO529.out BK518.out (by decide))); replace BK519 := zA_ (blk_grown (g := gb519) (o := .cells #[.slice none 0 0, .slice none 0 0] 26 (0, 0)) (zb_ BK519.out) hg (Kd.R_ne HO529.out BK519.out (by decide))); replace HB := zA_ (hb); have HO532 := zA_ (ho); clear HO529; clear ho hb hg hat; obtain ⟨Ao20, co20, eo20⟩ := Kd.R_slice HO532.out; subst eo20) | ((with_reducible refine gate_dst (N := 5) rfl ?_); refine box_event ?hg (N := 5) ?hd (cs := #[.slice none 0 0, .slice none 0 0]) (t := 26) ?hr ?_; (case hd => exact (by rfl)); (case hg => exact (by rfl)); (case hr => exact βMb); intro gb533 hg w21 hbox hb; replace HO532 := zR_ HO532.out hb; have BK533 := zA_ (hbox); have GW533 := zA_ ((by rw [hg]; exact (below_size (zg2_ HB.out GE518.out GE519.out)) : w.heap.size ≤ gb533)); have GE533 := zA_ ((by rw [hg]; exact (below_size (zg2_ HB.out GE518.out GE519.out)) : w.heap.size ≤ gb533)); replace HB := zA_ (below_step (zg2_ HB.out GE518.out GE519.out) hb); have NB518_533 := zA_ ((by rw [hg]; exact Nat.ne_of_lt (blk_lt (g := gb518) (o := .cells #[.slice A0_0 l0_0.length c0_0, .slice A0_1 l0_1.length c0_1] 26 (0, 0)) (zb_ BK518.out)) : gb518 ≠ gb533)); have NB533_518 := zA_ ((by rw [hg]; exact Nat.ne_of_gt (blk_lt (g := gb518) (o := .cells #[.slice A0_0 l0_0.length c0_0, .slice A0_1 l0_1.length c0_1] 26 (0, 0)) (zb_ BK518.out)) : gb533 ≠ gb518)); replace BK518 := zB_ BK518.out hb; have NB519_533 := zA_ ((by rw [hg]; exact Nat.ne_of_lt (blk_lt (g := gb519) (o := .cells #[.slice none 0 0, .slice none 0 0] 26 (0, 0)) (zb_ BK519.out)) : gb519 ≠ gb533)); have NB533_519 := zA_ ((by rw [hg]; exact Nat.ne_of_gt (blk_lt (g := gb519) (o := .cells #[.slice none 0 0, .slice none 0 0] 26 (0, 0)) (zb_ BK519.out)) : gb533 ≠ gb519)); replace BK519 := zB_ BK519.out hb; clear hb hbox hg; have hnb22 := NB533_518.out; have hnc22 := NB518_533.out; have hnb23 := NB533_519.out; have hnc23 := NB519_533.out; have hcz24_0 := cz_ BK533.out 0 (.slice none 0 0) rfl; have hcz24_1 := cz_ BK533.out 1 (.slice none 0 0) rfl; have hfz24_0 := blk_frozen BK533.out 0; have hfz24_1 := blk_frozen BK533.out 1))
       go_loopg [6] k (fun kq v6 w' => ∃ (x6_1 : Int) (x534000_1 : List ByteArray) (u534000 : Value), v6 = .int .i64 x6_1 ∧ Aside0 (spec_FlashCrash.l0 kq l1 x6_1 l0_0 l0_1 x534000_1 = some (r1, r2)) ∧ Aside0 (kq ≤ k) ∧ Aside0 (Kd.R Kd.string 9 w' w.heap.size (fun _ => True) u534000 x534000_1) ∧ Aside0 (w'.heap[gb518]? = some (.cells #[(.slice A0_0 l0_0.length c0_0), (.slice A0_1 l0_1.length c0_1)] 26 (0, 0))) ∧ Aside0 (w'.heap[gb519]? = some (.cells #[(.slice none 0 0), (.slice none 0 0)] 26 (0, 0))) ∧ Aside0 (w'.heap[gb533]? = some (.cells #[u534000, (.slice none 0 0)] 26 (0, 0))) ∧ Aside0 (Below w.heap.size w w'))
       case atStart => exact ⟨(0), (y530), (.slice Ao20 y530.length co20), βLb, H', ⟨Nat.le_refl _⟩, ⟨(by (with_reducible repeat (first | apply Kd.R_alloc | apply Kd.R_drewN | apply Kd.R_drew)); exact Kd.R_mono (Kd.R_far (p := ⟨gb533, 1, none⟩) (Kd.R_far (p := ⟨gb533, 0, none⟩) (Kd.R_types HO532.out BK533.out (by decide)) (fun _ hk => hk.2) (.slice Ao20 y530.length co20)) (fun _ hk => hk.2) (.slice none 0 0)) (fun _ hk => trivial))⟩, ⟨zf2_ NB518_533.out NB518_533.out BK518.out⟩, ⟨zf2_ NB519_533.out NB519_533.out BK519.out⟩, ⟨(by (with_reducible repeat (first | refine blk_drewN ?_ _ | refine blk_drew ?_ | refine blk_alloc ?_ _)); refine blk_put (cs := #[.slice Ao20 y530.length co20, .slice none 0 0]) ?_ 1 _ rfl; (with_reducible repeat (first | refine blk_drewN ?_ _ | refine blk_drew ?_ | refine blk_alloc ?_ _)); refine blk_put (cs := #[.slice none 0 0, .slice none 0 0]) ?_ 0 _ rfl; (with_reducible repeat (first | refine blk_drewN ?_ _ | refine blk_drew ?_ | refine blk_alloc ?_ _)); exact BK533.out)⟩, ⟨zg3_ HB.out GE518.out GE519.out GE533.out⟩⟩
       case round =>
        clear H'
        try clear c1
        try clear c2
        try clear p2
        try clear c3
        try clear c3b0
        try clear c3b1
        try clear c6
        try clear c9
        try clear c10
        try clear c13
        try clear c16
        try clear c22
        try clear c23
        try clear hcz14_0
        try clear hcz14_1
        try clear hcz18_0
        try clear hcz18_1
        try clear hcz24_0
        try clear hcz24_1
        try clear hcz7_0
        try clear hcz7_1
        try clear hfz14_0
        try clear hfz14_1
        try clear hfz18_0
        try clear hfz18_1
        try clear hfz24_0
        try clear hfz24_1
        try clear hfz7_0
        try clear hfz7_1
        obtain ⟨x6_1, x534000_1, u534000, rfl, HA, HK1, HO_534000, BK518, BK519, BK533, HB⟩ := hrel
        cases gk with
        | zero => exact absurd HA.out (by simp [spec_FlashCrash.l0])
        | succ k1 =>
         have H := HA.out
         clear HA
         simp only [spec_FlashCrash.l0] at H
         by_cases c25 : x6_1 < (l0_1.length : Int)
         · rw [if_pos c25] at H
           have c25b0 : decide (x6_1 < (l0_1.length : Int)) = true := decide_eq_true c25
           clear c25
           by_cases c26 : x6_1 < (l1.length : Int)
           · rw [if_pos c26] at H
             have c26b0 : decide (x6_1 < (l1.length : Int)) = true := decide_eq_true c26
             clear c26
             by_cases c27 : 0 ≤ x6_1
             · rw [if_pos c27] at H
               have c27b0 : decide (0 ≤ x6_1) = true := decide_eq_true c27
               clear c27
               by_cases c28 : 0 ≤ ((rd_T83 l0_1 x6_1).f0)
               · rw [if_pos c28] at H
                 have c28b0 : decide (0 ≤ ((rd_T83 l0_1 x6_1).f0)) = true := decide_eq_true c28
                 clear c28
                 by_cases c29 : ((rd_T83 l0_1 x6_1).f0) < (l0_0.length : Int)
                 · rw [if_pos c29] at H
                   have c29b0 : decide (((rd_T83 l0_1 x6_1).f0) < (l0_0.length : Int)) = true := decide_eq_true c29
                   clear c29
                   replace H := Option.bind_eq_some_iff.mp H
                   obtain ⟨t539, A300, H⟩ := H
                   (try dsimp -simprocs only at H)
                   have A30 := zA_ A300
                   clear A300
                   by_cases c31 : ((rd_T83 l0_1 x6_1).f0) < (x534000_1.length : Int)
                   · rw [if_pos c31] at H
                     have c31b0 : decide (((rd_T83 l0_1 x6_1).f0) < (x534000_1.length : Int)) = true := decide_eq_true c31
                     clear c31
                     obtain ⟨y540, hy540⟩ : ∃ y_ : List ByteArray, y_ = (x534000_1.set (((rd_T83 l0_1 x6_1).f0) : Int).toNat t539) := ⟨_, rfl⟩
                     replace H : (spec_FlashCrash.l0 k1 l1 (wrap64 (x6_1 + 1)) l0_0 l0_1 y540) = some (r1, r2) := by first | (rw [hy540]; with_reducible exact H) | (have H2_ := (Option.bind_some _ _).symm.trans H; rw [hy540]; with_reducible exact H2_) | (have H2_ := (Option.bind_some _ _).symm.trans H; with_reducible exact H2_) | with_reducible exact H | (rw [hy540]; exact H) | exact H
                     have Ny540 := zA_ hy540
                     clear hy540
                     have H' := zA_ H
                     clear H
                     have hnb33 := NB518_519.out
                     have hnc33 := NB519_518.out
                     have hnb34 := NB518_533.out
                     have hnc34 := NB533_518.out
                     have hcz35_0 := cz_ BK518.out 0 (.slice A0_0 l0_0.length c0_0) rfl
                     have hcz35_1 := cz_ BK518.out 1 (.slice A0_1 l0_1.length c0_1) rfl
                     have hfz35_0 := blk_frozen BK518.out 0
                     have hfz35_1 := blk_frozen BK518.out 1
                     have p534 : 0 ≤ (x6_1 : Int) := of_decide_eq_true βKb
                     have q534 : x6_1 < (l1.length : Int) := of_decide_eq_true βKb
                     obtain ⟨ad534, e534, hx534_0⟩ := Kd.at_int HR1.out x6_1 p534 q534
                     cases e534
                     replace hx534_0 := bc_ HB.out hx534_0
                     replace p534 := eq_true p534
                     replace q534 := eq_true q534
                     try go_wp2
                     replace HO_534000 := zA_ (Kd.R_drew HO_534000.out)
                     replace BK518 := zA_ (blk_drew BK518.out)
                     replace BK519 := zA_ (blk_drew BK519.out)
                     replace BK533 := zA_ (blk_drew BK533.out)
                     replace HB := zA_ (below_drew1 HB.out)
                     have p535 : 0 ≤ (x6_1 : Int) := of_decide_eq_true βKb
                     have q535 : x6_1 < (l0_1.length : Int) := of_decide_eq_true βKb
                     obtain ⟨ad535, e535, hx535_0, hx535_1⟩ := at_T83 HR0_1.out x6_1 p535 q535
                     have hw535_1 := hx535_1
                     have hw535_0 := hx535_0
                     cases e535
                     replace hx535_0 := bc_ HB.out hx535_0
                     replace hx535_1 := bc_ HB.out hx535_1
                     replace p535 := eq_true p535
                     replace q535 := eq_true q535
                     have p536 : 0 ≤ (x6_1 : Int) := of_decide_eq_true βKb
                     have q536 : x6_1 < (l0_1.length : Int) := of_decide_eq_true βKb
                     obtain ⟨ad536, e536, hx536_0, hx536_1⟩ := at_T83 HR0_1.out x6_1 p536 q536
                     have hw536_1 := hx536_1
                     have hw536_0 := hx536_0
                     obtain rfl : ad535 = ad536 := (by injection e536)
                     replace hx536_0 := bc_ HB.out hx536_0
                     replace hx536_1 := bc_ HB.out hx536_1
                     replace p536 := eq_true p536
                     replace q536 := eq_true q536
                     have p537 : 0 ≤ (((rd_T83 l0_1 x6_1).f0) : Int) := of_decide_eq_true βKb
                     have q537 : ((rd_T83 l0_1 x6_1).f0) < (l0_0.length : Int) := of_decide_eq_true βKb
                     obtain ⟨ad537, e537, hx537_0⟩ := Kd.at_string HR0_0.out ((rd_T83 l0_1 x6_1).f0) p537 q537
                     have hw537_0 := hx537_0
                     cases e537
                     replace hx537_0 := bc_ HB.out hx537_0
                     replace p537 := eq_true p537
                     replace q537 := eq_true q537
                     have p538 : 0 ≤ (x6_1 : Int) := of_decide_eq_true βKb
                     have q538 : x6_1 < (l0_1.length : Int) := of_decide_eq_true βKb
                     obtain ⟨ad538, e538, hx538_0, hx538_1⟩ := at_T83 HR0_1.out x6_1 p538 q538
                     have hw538_1 := hx538_1
                     have hw538_0 := hx538_0
                     obtain rfl : ad535 = ad538 := (by injection e538)
                     replace hx538_0 := bc_ HB.out hx538_0
                     replace hx538_1 := bc_ HB.out hx538_1
                     replace p538 := eq_true p538
                     replace q538 := eq_true q538
                     refine start_ (n := 28) (S := fun w' => w'.cell? ⟨gb533, 0, none⟩ = some (u534000) ∧ w'.cell? ⟨gb533, 1, none⟩ = some (.slice none 0 0) ∧ w'.cell? ⟨gb518, 0, none⟩ = some (.slice (some ad537) l0_0.length c0_0) ∧ w'.cell? ⟨gb518, 1, none⟩ = some (.slice (some ad535) l0_1.length c0_1) ∧ w'.cell? (ad535.add ((x6_1).toNat * 2)) = some (.int .i64 ((rd_T83 l0_1 x6_1).f0)) ∧ w'.cell? ⟨(ad535.add ((x6_1).toNat * 2)).block, (ad535.add ((x6_1).toNat * 2)).off + 1, none⟩ = some (.string ((rd_T83 l0_1 x6_1).f1)) ∧ w'.cell? (ad535.add ((x6_1).toNat * 2)) = some (.int .i64 ((rd_T83 l0_1 x6_1).f0)) ∧ w'.cell? ⟨(ad535.add ((x6_1).toNat * 2)).block, (ad535.add ((x6_1).toNat * 2)).off + 1, none⟩ = some (.string ((rd_T83 l0_1 x6_1).f1)) ∧ w'.cell? (ad537.add (((rd_T83 l0_1 x6_1).f0)).toNat) = some (.string (rdOf ByteArray.empty l0_0 ((rd_T83 l0_1 x6_1).f0))) ∧ w'.cell? (ad535.add ((x6_1).toNat * 2)) = some (.int .i64 ((rd_T83 l0_1 x6_1).f0)) ∧ w'.cell? ⟨(ad535.add ((x6_1).toNat * 2)).block, (ad535.add ((x6_1).toNat * 2)).off + 1, none⟩ = some (.string ((rd_T83 l0_1 x6_1).f1))) (ds := [27]) (mr_ [0, 28]) βPb rfl rfl ⟨cy_ BK533.out 0, cy_ BK533.out 1, cy_ BK518.out 0, cy_ BK518.out 1, ((HB.out.cell (World.block_lt_of_cell? _ _ hw535_0)).trans hw535_0), ((HB.out.cell (World.block_lt_of_cell? _ _ hw535_1)).trans hw535_1), ((HB.out.cell (World.block_lt_of_cell? _ _ hw536_0)).trans hw536_0), ((HB.out.cell (World.block_lt_of_cell? _ _ hw536_1)).trans hw536_1), ((HB.out.cell (World.block_lt_of_cell? _ _ hw537_0)).trans hw537_0), ((HB.out.cell (World.block_lt_of_cell? _ _ hw538_0)).trans hw538_0), ((HB.out.cell (World.block_lt_of_cell? _ _ hw538_1)).trans hw538_1)⟩ (fun hHeld => ?_); refine with_tabW spec_FlashCrash.tab12 spec_FlashCrash.bits12 (fun HT_ HW_ => ?_)
                     generalize wr.drew = w36 at HO_534000 BK518 BK519 BK533 HB hx535_0 hx535_1 hx536_0 hx536_1 hx537_0 hx538_0 hx538_1 hHeld ⊢
                     refine pure_ (i := 0) (N := some 37) (v := ?_) (a' := ?_) (mr_ [1, 27]) rfl rfl (any_of HT_.out βPb) (fun _ _ _ h => h) (Or.inl ⟨(by rfl), ?_⟩) ?_ ?_
                     rotate_left; exact pv_; rotate_left; exact pp_
                     refine pure_ (i := 2) (N := some 39) (v := ?_) (a' := ?_) (mr_ [1, 1, 1, 25]) rfl rfl (any_of HT_.out βPb) (fun _ _ _ h => h) (Or.inl ⟨(by rfl), ?_⟩) ?_ ?_
                     rotate_left; exact pv_; rotate_left; exact pp_
                     refine pure_ (i := 4) (N := some 41) (v := ?_) (a' := ?_) (mr_ [1, 1, 1, 1, 1, 23]) rfl rfl (any_of HT_.out βPb) (fun _ _ _ h => h) (Or.inl ⟨(by rfl), ?_⟩) ?_ ?_
                     rotate_left; exact pv_; rotate_left; exact pp_
                     refine pure_ (i := 8) (N := some 45) (v := ?_) (a' := ?_) (mr_ [1, 1, 1, 1, 1, 3, 1, 19]) rfl rfl (any_of HT_.out βPb) (fun _ _ _ h => h) (Or.inl ⟨(by rfl), ?_⟩) ?_ ?_
                     rotate_left; exact pv_; rotate_left; exact pp_
                     refine pure_ (i := 10) (N := some 47) (v := ?_) (a' := ?_) (mr_ [1, 1, 1, 1, 1, 3, 1, 1, 1, 17]) rfl rfl (any_of HT_.out βPb) (fun _ _ _ h => h) (Or.inl ⟨(by rfl), ?_⟩) ?_ ?_
                     rotate_left; exact pv_; rotate_left; exact pp_
                     refine pure_ (i := 12) (N := some 49) (v := ?_) (a' := ?_) (mr_ [1, 1, 1, 1, 1, 3, 1, 1, 1, 1, 1, 15]) rfl rfl (any_of HT_.out βPb) (fun _ _ _ h => h) (Or.inl ⟨(by rfl), ?_⟩) ?_ ?_
                     rotate_left; exact pv_; rotate_left; exact pp_
                     refine pure_ (i := 18) (N := some 55) (v := ?_) (a' := ?_) (mr_ [1, 1, 1, 1, 1, 3, 1, 1, 1, 1, 1, 5, 1, 9]) rfl rfl (any_of HT_.out βPb) (fun _ _ _ h => h) (Or.inl ⟨(by rfl), ?_⟩) ?_ ?_
                     rotate_left; exact pv_; rotate_left; exact pp_
                     refine pure_ (i := 20) (N := some 57) (v := ?_) (a' := ?_) (mr_ [1, 1, 1, 1, 1, 3, 1, 1, 1, 1, 1, 5, 1, 1, 1, 7]) rfl rfl (any_of HT_.out βPb) (fun _ _ _ h => h) (Or.inl ⟨(by rfl), ?_⟩) ?_ ?_
                     rotate_left; exact pv_; rotate_left; exact pp_
                     refine pure_ (i := 24) (N := some 61) (v := ?_) (a' := ?_) (mr_ [1, 1, 1, 1, 1, 3, 1, 1, 1, 1, 1, 5, 1, 1, 1, 3, 1, 3]) rfl rfl (any_of HT_.out βPb) (fun _ _ _ h => h) (Or.inl ⟨(by rfl), ?_⟩) ?_ ?_
                     rotate_left; exact pv_; rotate_left; exact pp_
                     refine take_ (i := 1) (N := some 38) (v := ?_) (a' := ?_) (mr_ [3, 1, 1, 3, 1, 1, 1, 1, 1, 5, 1, 1, 1, 3, 1, 3]) rfl rfl (take_ofW HT_.out HW_.out βPb) (fun _ _ _ h => h) (Or.inl ⟨(by rfl), ?_⟩) hHeld ?_ ?_
                     rotate_left
                     · rintro w' ⟨s0, s1, s2, s3, s4, s5, s6, s7, s8, s9, s10⟩
                       go_simp
                       with_reducible rfl
                     rotate_left
                     exact pp_
                     refine take_ (i := 3) (N := some 40) (v := ?_) (a' := ?_) (mr_ [5, 3, 1, 1, 1, 1, 1, 5, 1, 1, 1, 3, 1, 3]) rfl rfl (take_ofW HT_.out HW_.out βPb) (fun _ _ _ h => h) (Or.inl ⟨(by rfl), ?_⟩) hHeld ?_ ?_
                     rotate_left
                     · rintro w' ⟨s0, s1, s2, s3, s4, s5, s6, s7, s8, s9, s10⟩
                       go_simp
                       with_reducible rfl
                     rotate_left
                     exact pp_
                     refine pure_ (i := 5) (N := some 42) (v := ?_) (a' := ?_) (mr_ [6, 2, 1, 1, 1, 1, 1, 5, 1, 1, 1, 3, 1, 3]) rfl rfl (any_of HT_.out βPb) (fun _ _ _ h => h) (Or.inl ⟨(by rfl), ?_⟩) ?_ ?_
                     rotate_left; exact pv_; rotate_left; exact pp_
                     refine pure_ (i := 6) (N := some 43) (v := ?_) (a' := ?_) (mr_ [7, 1, 1, 1, 1, 1, 1, 5, 1, 1, 1, 3, 1, 3]) rfl rfl (any_of HT_.out βPb) (fun _ _ _ h => h) (Or.inl ⟨(by rfl), ?_⟩) ?_ ?_
                     rotate_left; exact pv_; rotate_left; exact pp_
                     refine take_ (i := 7) (N := some 44) (v := ?_) (a' := ?_) (mr_ [9, 1, 1, 1, 1, 5, 1, 1, 1, 3, 1, 3]) rfl rfl (take_ofW HT_.out HW_.out βPb) (fun _ _ _ h => h) (Or.inl ⟨(by rfl), ?_⟩) hHeld ?_ ?_
                     rotate_left
                     · rintro w' ⟨s0, s1, s2, s3, s4, s5, s6, s7, s8, s9, s10⟩
                       go_simp
                       with_reducible rfl
                     rotate_left
                     exact pp_
                     refine take_ (i := 9) (N := some 46) (v := ?_) (a' := ?_) (mr_ [11, 1, 1, 5, 1, 1, 1, 3, 1, 3]) rfl rfl (take_ofW HT_.out HW_.out βPb) (fun _ _ _ h => h) (Or.inl ⟨(by rfl), ?_⟩) hHeld ?_ ?_
                     rotate_left
                     · rintro w' ⟨s0, s1, s2, s3, s4, s5, s6, s7, s8, s9, s10⟩
                       go_simp
                       with_reducible rfl
                     rotate_left
                     exact pp_
                     refine take_ (i := 11) (N := some 48) (v := ?_) (a' := ?_) (mr_ [13, 5, 1, 1, 1, 3, 1, 3]) rfl rfl (take_ofW HT_.out HW_.out βPb) (fun _ _ _ h => h) (Or.inl ⟨(by rfl), ?_⟩) hHeld ?_ ?_
                     rotate_left
                     · rintro w' ⟨s0, s1, s2, s3, s4, s5, s6, s7, s8, s9, s10⟩
                       go_simp
                       with_reducible rfl
                     rotate_left
                     exact pp_
                     refine pure_ (i := 13) (N := some 50) (v := ?_) (a' := ?_) (mr_ [14, 4, 1, 1, 1, 3, 1, 3]) rfl rfl (any_of HT_.out βPb) (fun _ _ _ h => h) (Or.inl ⟨(by rfl), ?_⟩) ?_ ?_
                     rotate_left; exact pv_; rotate_left; exact pp_
                     refine pure_ (i := 14) (N := some 51) (v := ?_) (a' := ?_) (mr_ [15, 3, 1, 1, 1, 3, 1, 3]) rfl rfl (any_of HT_.out βPb) (fun _ _ _ h => h) (Or.inl ⟨(by rfl), ?_⟩) ?_ ?_
                     rotate_left; exact pv_; rotate_left; exact pp_
                     refine take_ (i := 15) (N := some 52) (v := ?_) (a' := ?_) (mr_ [16, 2, 1, 1, 1, 3, 1, 3]) rfl rfl (take_ofW HT_.out HW_.out βPb) (fun _ _ _ h => h) (Or.inl ⟨(by rfl), ?_⟩) hHeld ?_ ?_
                     rotate_left
                     · rintro w' ⟨s0, s1, s2, s3, s4, s5, s6, s7, s8, s9, s10⟩
                       go_simp
                       with_reducible rfl
                     rotate_left
                     exact pp_
                     refine pure_ (i := 16) (N := some 53) (v := ?_) (a' := ?_) (mr_ [17, 1, 1, 1, 1, 3, 1, 3]) rfl rfl (any_of HT_.out βPb) (fun _ _ _ h => h) (Or.inl ⟨(by rfl), ?_⟩) ?_ ?_
                     rotate_left; exact pv_; rotate_left; exact pp_
                     refine take_ (i := 17) (N := some 54) (v := ?_) (a' := ?_) (mr_ [19, 1, 1, 3, 1, 3]) rfl rfl (take_ofW HT_.out HW_.out βPb) (fun _ _ _ h => h) (Or.inl ⟨(by rfl), ?_⟩) hHeld ?_ ?_
                     rotate_left
                     · rintro w' ⟨s0, s1, s2, s3, s4, s5, s6, s7, s8, s9, s10⟩
                       go_simp
                       with_reducible rfl
                     rotate_left
                     exact pp_
                     refine take_ (i := 19) (N := some 56) (v := ?_) (a' := ?_) (mr_ [21, 3, 1, 3]) rfl rfl (take_ofW HT_.out HW_.out βPb) (fun _ _ _ h => h) (Or.inl ⟨(by rfl), ?_⟩) hHeld ?_ ?_
                     rotate_left
                     · rintro w' ⟨s0, s1, s2, s3, s4, s5, s6, s7, s8, s9, s10⟩
                       go_simp
                       with_reducible rfl
                     rotate_left
                     exact pp_
                     refine pure_ (i := 21) (N := some 58) (v := ?_) (a' := ?_) (mr_ [22, 2, 1, 3]) rfl rfl (any_of HT_.out βPb) (fun _ _ _ h => h) (Or.inl ⟨(by rfl), ?_⟩) ?_ ?_
                     rotate_left; exact pv_; rotate_left; exact pp_
                     refine pure_ (i := 22) (N := some 59) (v := ?_) (a' := ?_) (mr_ [23, 1, 1, 3]) rfl rfl (any_of HT_.out βPb) (fun _ _ _ h => h) (Or.inl ⟨(by rfl), ?_⟩) ?_ ?_
                     rotate_left; exact pv_; rotate_left; exact pp_
                     refine take_ (i := 23) (N := some 60) (v := ?_) (a' := ?_) (mr_ [25, 3]) rfl rfl (take_ofW HT_.out HW_.out βPb) (fun _ _ _ h => h) (Or.inl ⟨(by rfl), ?_⟩) hHeld ?_ ?_
                     rotate_left
                     · rintro w' ⟨s0, s1, s2, s3, s4, s5, s6, s7, s8, s9, s10⟩
                       go_simp
                       with_reducible rfl
                     rotate_left
                     exact pp_
                     refine one_ (i := 25) (N := some 62) (mr_ [26, 2]) rfl rfl (one_of HT_.out βPb) (by decide) (fun K hK => ?_)
                     refine goes_ Try.func23 βPb rfl #[.string (rdOf ByteArray.empty l0_0 ((rd_T83 l0_1 x6_1).f0)), .string ((rd_T83 l0_1 x6_1).f1), .int .i64 (rd l1 x6_1)] (by rfl) rfl rfl zs_ ?_
                     with_reducible refine (spec_Torn.calls k1 (rdOf ByteArray.empty l0_0 ((rd_T83 l0_1 x6_1).f0)) ((rd_T83 l0_1 x6_1).f1) (rd l1 x6_1) t539 _ A30.out).mono ?_
                     rintro e w' ⟨rfl, ⟨nd, rfl⟩⟩
                     refine ⟨_, rfl, ?_⟩
                     have p32 : 0 ≤ (((rd_T83 l0_1 x6_1).f0) : Int) := of_decide_eq_true βKb
                     have q32 : (((rd_T83 l0_1 x6_1).f0) : Int) < ((x534000_1.length : Int) : Int) := of_decide_eq_true βKb
                     obtain ⟨go32, co32, eo32, gb32, gl32, cl32, HG32⟩ := Kd.R_form HO_534000.out (by omega)
                     (first | cases eo32 | (injection eo32 with ea_ en_ ec_; (first | subst ea_ | (injection ea_ with ea_; subst ea_)); subst ec_; clear en_))
                     have GB32 := zA_ gb32
                     have GG32 := zA_ HG32
                     clear gb32 gl32 HG32
                     obtain ⟨hx32_0, hf32_0⟩ := Kd.R_celln (⟨#[]⟩ : ByteArray) HO_534000.out (((rd_T83 l0_1 x6_1).f0) : Int) p32 q32
                     replace p32 := eq_true p32
                     replace q32 := eq_true q32
                     have HP37 := Kd.R_putn HO_534000.out (((rd_T83 l0_1 x6_1).f0) : Int) t539
                     rw [← Ny540.out] at HP37
                     have HQ37 := zA_ HP37
                     clear HP37
                     refine hK.out _ _ ⟨cy_ BK533.out 0, cy_ BK533.out 1, cy_ BK518.out 0, cy_ BK518.out 1, ((HB.out.cell (World.block_lt_of_cell? _ _ hw535_0)).trans hw535_0), ((HB.out.cell (World.block_lt_of_cell? _ _ hw535_1)).trans hw535_1), ((HB.out.cell (World.block_lt_of_cell? _ _ hw536_0)).trans hw536_0), ((HB.out.cell (World.block_lt_of_cell? _ _ hw536_1)).trans hw536_1), ((HB.out.cell (World.block_lt_of_cell? _ _ hw537_0)).trans hw537_0), ((HB.out.cell (World.block_lt_of_cell? _ _ hw538_0)).trans hw538_0), ((HB.out.cell (World.block_lt_of_cell? _ _ hw538_1)).trans hw538_1)⟩ (fun hHeld => ?_)
                     clear hK K
                     refine norm_ (a' := ?_) ?_ ?_
                     rotate_left
                     · show Act.put _ (some 62) _ = _
                       simp only [Act.put, List.setIfInBounds_toArray, List.set_cons_zero, List.set_cons_succ, i64_w, i32_w]
                       rfl
                     refine pure_ (i := 26) (N := some 63) (v := ?_) (a' := ?_) (mr_ [27, 1]) rfl rfl (any_of HT_.out βPb) (fun _ _ _ h => h) (Or.inl ⟨(by rfl), ?_⟩) ?_ ?_
                     rotate_left; exact pv_; rotate_left; exact pp_
                     refine last_ (i := 27) (N := none) (mr_ [28]) rfl rfl (one_of HT_.out βPb) (by decide) (fun K hK => ?_)
                     refine skip_ (w1 := ?_) (by rfl) rfl ?_ ?_
                     rotate_left
                     · go_simp
                       rfl
                     refine hK.out _ _ ?_
                     clear hK K
                     refine done_ (done_of HT_.out βPb) ?_
                     try go_wp2
                     go_roundg k1
                     case measure => have := HK1.out; omega
                     case rel => exact ⟨(wrap64 (x6_1 + 1)), (y540), (.slice (some ⟨go32, 0, none⟩) x534000_1.length co32), βLb, H', ⟨βOb⟩, ⟨zr_ HQ37.out⟩, ⟨βN⟩, ⟨βO⟩, ⟨βP⟩, ⟨zg4_ HB.out GB32.out GE518.out GE519.out GE533.out⟩⟩
                   · rw [if_neg c31] at H
                     exact absurd H (by simp)
                 · rw [if_neg c29] at H
                   exact absurd H (by simp)
               · rw [if_neg c28] at H
                 exact absurd H (by simp)
             · rw [if_neg c27] at H
               exact absurd H (by simp)
           · rw [if_neg c26] at H
             have c26b0 : decide (x6_1 < (l1.length : Int)) = false := decide_eq_false c26
             clear c26
             by_cases c38 : 0 ≤ x6_1
             · rw [if_pos c38] at H
               have c38b0 : decide (0 ≤ x6_1) = true := decide_eq_true c38
               clear c38
               by_cases c39 : 0 ≤ ((rd_T83 l0_1 x6_1).f0)
               · rw [if_pos c39] at H
                 have c39b0 : decide (0 ≤ ((rd_T83 l0_1 x6_1).f0)) = true := decide_eq_true c39
                 clear c39
                 by_cases c40 : ((rd_T83 l0_1 x6_1).f0) < (l0_0.length : Int)
                 · rw [if_pos c40] at H
                   have c40b0 : decide (((rd_T83 l0_1 x6_1).f0) < (l0_0.length : Int)) = true := decide_eq_true c40
                   clear c40
                   replace H := Option.bind_eq_some_iff.mp H
                   obtain ⟨t545, A410, H⟩ := H
                   (try dsimp -simprocs only at H)
                   have A41 := zA_ A410
                   clear A410
                   by_cases c42 : ((rd_T83 l0_1 x6_1).f0) < (x534000_1.length : Int)
                   · rw [if_pos c42] at H
                     have c42b0 : decide (((rd_T83 l0_1 x6_1).f0) < (x534000_1.length : Int)) = true := decide_eq_true c42
                     clear c42
                     obtain ⟨y546, hy546⟩ : ∃ y_ : List ByteArray, y_ = (x534000_1.set (((rd_T83 l0_1 x6_1).f0) : Int).toNat t545) := ⟨_, rfl⟩
                     replace H : (spec_FlashCrash.l0 k1 l1 (wrap64 (x6_1 + 1)) l0_0 l0_1 y546) = some (r1, r2) := by first | (rw [hy546]; with_reducible exact H) | (have H2_ := (Option.bind_some _ _).symm.trans H; rw [hy546]; with_reducible exact H2_) | (have H2_ := (Option.bind_some _ _).symm.trans H; with_reducible exact H2_) | with_reducible exact H | (rw [hy546]; exact H) | exact H
                     have Ny546 := zA_ hy546
                     clear hy546
                     have H' := zA_ H
                     clear H
                     have hnb44 := NB518_519.out
                     have hnc44 := NB519_518.out
                     have hnb45 := NB518_533.out
                     have hnc45 := NB533_518.out
                     have hcz46_0 := cz_ BK518.out 0 (.slice A0_0 l0_0.length c0_0) rfl
                     have hcz46_1 := cz_ BK518.out 1 (.slice A0_1 l0_1.length c0_1) rfl
                     have hfz46_0 := blk_frozen BK518.out 0
                     have hfz46_1 := blk_frozen BK518.out 1
                     try go_wp2
                     replace HO_534000 := zA_ (Kd.R_drew HO_534000.out)
                     replace BK518 := zA_ (blk_drew BK518.out)
                     replace BK519 := zA_ (blk_drew BK519.out)
                     replace BK533 := zA_ (blk_drew BK533.out)
                     replace HB := zA_ (below_drew1 HB.out)
                     have p541 : 0 ≤ (x6_1 : Int) := of_decide_eq_true βKb
                     have q541 : x6_1 < (l0_1.length : Int) := of_decide_eq_true βKb
                     obtain ⟨ad541, e541, hx541_0, hx541_1⟩ := at_T83 HR0_1.out x6_1 p541 q541
                     have hw541_1 := hx541_1
                     have hw541_0 := hx541_0
                     cases e541
                     replace hx541_0 := bc_ HB.out hx541_0
                     replace hx541_1 := bc_ HB.out hx541_1
                     replace p541 := eq_true p541
                     replace q541 := eq_true q541
                     have p542 : 0 ≤ (x6_1 : Int) := of_decide_eq_true βKb
                     have q542 : x6_1 < (l0_1.length : Int) := of_decide_eq_true βKb
                     obtain ⟨ad542, e542, hx542_0, hx542_1⟩ := at_T83 HR0_1.out x6_1 p542 q542
                     have hw542_1 := hx542_1
                     have hw542_0 := hx542_0
                     obtain rfl : ad541 = ad542 := (by injection e542)
                     replace hx542_0 := bc_ HB.out hx542_0
                     replace hx542_1 := bc_ HB.out hx542_1
                     replace p542 := eq_true p542
                     replace q542 := eq_true q542
                     have p543 : 0 ≤ (((rd_T83 l0_1 x6_1).f0) : Int) := of_decide_eq_true βKb
                     have q543 : ((rd_T83 l0_1 x6_1).f0) < (l0_0.length : Int) := of_decide_eq_true βKb
                     obtain ⟨ad543, e543, hx543_0⟩ := Kd.at_string HR0_0.out ((rd_T83 l0_1 x6_1).f0) p543 q543
                     have hw543_0 := hx543_0
                     cases e543
                     replace hx543_0 := bc_ HB.out hx543_0
                     replace p543 := eq_true p543
                     replace q543 := eq_true q543
                     have p544 : 0 ≤ (x6_1 : Int) := of_decide_eq_true βKb
                     have q544 : x6_1 < (l0_1.length : Int) := of_decide_eq_true βKb
                     obtain ⟨ad544, e544, hx544_0, hx544_1⟩ := at_T83 HR0_1.out x6_1 p544 q544
                     have hw544_1 := hx544_1
                     have hw544_0 := hx544_0
                     obtain rfl : ad541 = ad544 := (by injection e544)
                     replace hx544_0 := bc_ HB.out hx544_0
                     replace hx544_1 := bc_ HB.out hx544_1
                     replace p544 := eq_true p544
                     replace q544 := eq_true q544
                     refine start_ (n := 28) (S := fun w' => w'.cell? ⟨gb533, 0, none⟩ = some (u534000) ∧ w'.cell? ⟨gb533, 1, none⟩ = some (.slice none 0 0) ∧ w'.cell? ⟨gb518, 0, none⟩ = some (.slice (some ad543) l0_0.length c0_0) ∧ w'.cell? ⟨gb518, 1, none⟩ = some (.slice (some ad541) l0_1.length c0_1) ∧ w'.cell? (ad541.add ((x6_1).toNat * 2)) = some (.int .i64 ((rd_T83 l0_1 x6_1).f0)) ∧ w'.cell? ⟨(ad541.add ((x6_1).toNat * 2)).block, (ad541.add ((x6_1).toNat * 2)).off + 1, none⟩ = some (.string ((rd_T83 l0_1 x6_1).f1)) ∧ w'.cell? (ad541.add ((x6_1).toNat * 2)) = some (.int .i64 ((rd_T83 l0_1 x6_1).f0)) ∧ w'.cell? ⟨(ad541.add ((x6_1).toNat * 2)).block, (ad541.add ((x6_1).toNat * 2)).off + 1, none⟩ = some (.string ((rd_T83 l0_1 x6_1).f1)) ∧ w'.cell? (ad543.add (((rd_T83 l0_1 x6_1).f0)).toNat) = some (.string (rdOf ByteArray.empty l0_0 ((rd_T83 l0_1 x6_1).f0))) ∧ w'.cell? (ad541.add ((x6_1).toNat * 2)) = some (.int .i64 ((rd_T83 l0_1 x6_1).f0)) ∧ w'.cell? ⟨(ad541.add ((x6_1).toNat * 2)).block, (ad541.add ((x6_1).toNat * 2)).off + 1, none⟩ = some (.string ((rd_T83 l0_1 x6_1).f1))) (ds := [27]) (mr_ [0, 28]) βPb rfl rfl ⟨cy_ BK533.out 0, cy_ BK533.out 1, cy_ BK518.out 0, cy_ BK518.out 1, ((HB.out.cell (World.block_lt_of_cell? _ _ hw541_0)).trans hw541_0), ((HB.out.cell (World.block_lt_of_cell? _ _ hw541_1)).trans hw541_1), ((HB.out.cell (World.block_lt_of_cell? _ _ hw542_0)).trans hw542_0), ((HB.out.cell (World.block_lt_of_cell? _ _ hw542_1)).trans hw542_1), ((HB.out.cell (World.block_lt_of_cell? _ _ hw543_0)).trans hw543_0), ((HB.out.cell (World.block_lt_of_cell? _ _ hw544_0)).trans hw544_0), ((HB.out.cell (World.block_lt_of_cell? _ _ hw544_1)).trans hw544_1)⟩ (fun hHeld => ?_); refine with_tabW spec_FlashCrash.tab12 spec_FlashCrash.bits12 (fun HT_ HW_ => ?_)
                     generalize wr.drew = w47 at HO_534000 BK518 BK519 BK533 HB hx541_0 hx541_1 hx542_0 hx542_1 hx543_0 hx544_0 hx544_1 hHeld ⊢
                     refine pure_ (i := 0) (N := some 37) (v := ?_) (a' := ?_) (mr_ [1, 27]) rfl rfl (any_of HT_.out βPb) (fun _ _ _ h => h) (Or.inl ⟨(by rfl), ?_⟩) ?_ ?_
                     rotate_left; exact pv_; rotate_left; exact pp_
                     refine pure_ (i := 2) (N := some 39) (v := ?_) (a' := ?_) (mr_ [1, 1, 1, 25]) rfl rfl (any_of HT_.out βPb) (fun _ _ _ h => h) (Or.inl ⟨(by rfl), ?_⟩) ?_ ?_
                     rotate_left; exact pv_; rotate_left; exact pp_
                     refine pure_ (i := 4) (N := some 41) (v := ?_) (a' := ?_) (mr_ [1, 1, 1, 1, 1, 23]) rfl rfl (any_of HT_.out βPb) (fun _ _ _ h => h) (Or.inl ⟨(by rfl), ?_⟩) ?_ ?_
                     rotate_left; exact pv_; rotate_left; exact pp_
                     refine pure_ (i := 8) (N := some 45) (v := ?_) (a' := ?_) (mr_ [1, 1, 1, 1, 1, 3, 1, 19]) rfl rfl (any_of HT_.out βPb) (fun _ _ _ h => h) (Or.inl ⟨(by rfl), ?_⟩) ?_ ?_
                     rotate_left; exact pv_; rotate_left; exact pp_
                     refine pure_ (i := 10) (N := some 47) (v := ?_) (a' := ?_) (mr_ [1, 1, 1, 1, 1, 3, 1, 1, 1, 17]) rfl rfl (any_of HT_.out βPb) (fun _ _ _ h => h) (Or.inl ⟨(by rfl), ?_⟩) ?_ ?_
                     rotate_left; exact pv_; rotate_left; exact pp_
                     refine pure_ (i := 12) (N := some 49) (v := ?_) (a' := ?_) (mr_ [1, 1, 1, 1, 1, 3, 1, 1, 1, 1, 1, 15]) rfl rfl (any_of HT_.out βPb) (fun _ _ _ h => h) (Or.inl ⟨(by rfl), ?_⟩) ?_ ?_
                     rotate_left; exact pv_; rotate_left; exact pp_
                     refine pure_ (i := 18) (N := some 55) (v := ?_) (a' := ?_) (mr_ [1, 1, 1, 1, 1, 3, 1, 1, 1, 1, 1, 5, 1, 9]) rfl rfl (any_of HT_.out βPb) (fun _ _ _ h => h) (Or.inl ⟨(by rfl), ?_⟩) ?_ ?_
                     rotate_left; exact pv_; rotate_left; exact pp_
                     refine pure_ (i := 20) (N := some 57) (v := ?_) (a' := ?_) (mr_ [1, 1, 1, 1, 1, 3, 1, 1, 1, 1, 1, 5, 1, 1, 1, 7]) rfl rfl (any_of HT_.out βPb) (fun _ _ _ h => h) (Or.inl ⟨(by rfl), ?_⟩) ?_ ?_
                     rotate_left; exact pv_; rotate_left; exact pp_
                     refine pure_ (i := 24) (N := some 61) (v := ?_) (a' := ?_) (mr_ [1, 1, 1, 1, 1, 3, 1, 1, 1, 1, 1, 5, 1, 1, 1, 3, 1, 3]) rfl rfl (any_of HT_.out βPb) (fun _ _ _ h => h) (Or.inl ⟨(by rfl), ?_⟩) ?_ ?_
                     rotate_left; exact pv_; rotate_left; exact pp_
                     refine take_ (i := 1) (N := some 38) (v := ?_) (a' := ?_) (mr_ [3, 1, 1, 3, 1, 1, 1, 1, 1, 5, 1, 1, 1, 3, 1, 3]) rfl rfl (take_ofW HT_.out HW_.out βPb) (fun _ _ _ h => h) (Or.inl ⟨(by rfl), ?_⟩) hHeld ?_ ?_
                     rotate_left
                     · rintro w' ⟨s0, s1, s2, s3, s4, s5, s6, s7, s8, s9, s10⟩
                       go_simp
                       with_reducible rfl
                     rotate_left
                     exact pp_
                     refine take_ (i := 3) (N := some 40) (v := ?_) (a' := ?_) (mr_ [5, 3, 1, 1, 1, 1, 1, 5, 1, 1, 1, 3, 1, 3]) rfl rfl (take_ofW HT_.out HW_.out βPb) (fun _ _ _ h => h) (Or.inl ⟨(by rfl), ?_⟩) hHeld ?_ ?_
                     rotate_left
                     · rintro w' ⟨s0, s1, s2, s3, s4, s5, s6, s7, s8, s9, s10⟩
                       go_simp
                       with_reducible rfl
                     rotate_left
                     exact pp_
                     refine pure_ (i := 5) (N := some 42) (v := ?_) (a' := ?_) (mr_ [6, 2, 1, 1, 1, 1, 1, 5, 1, 1, 1, 3, 1, 3]) rfl rfl (any_of HT_.out βPb) (fun _ _ _ h => h) (Or.inl ⟨(by rfl), ?_⟩) ?_ ?_
                     rotate_left; exact pv_; rotate_left; exact pp_
                     refine pure_ (i := 6) (N := some 43) (v := ?_) (a' := ?_) (mr_ [7, 1, 1, 1, 1, 1, 1, 5, 1, 1, 1, 3, 1, 3]) rfl rfl (any_of HT_.out βPb) (fun _ _ _ h => h) (Or.inl ⟨(by rfl), ?_⟩) ?_ ?_
                     rotate_left; exact pv_; rotate_left; exact pp_
                     refine take_ (i := 7) (N := some 44) (v := ?_) (a' := ?_) (mr_ [9, 1, 1, 1, 1, 5, 1, 1, 1, 3, 1, 3]) rfl rfl (take_ofW HT_.out HW_.out βPb) (fun _ _ _ h => h) (Or.inl ⟨(by rfl), ?_⟩) hHeld ?_ ?_
                     rotate_left
                     · rintro w' ⟨s0, s1, s2, s3, s4, s5, s6, s7, s8, s9, s10⟩
                       go_simp
                       with_reducible rfl
                     rotate_left
                     exact pp_
                     refine take_ (i := 9) (N := some 46) (v := ?_) (a' := ?_) (mr_ [11, 1, 1, 5, 1, 1, 1, 3, 1, 3]) rfl rfl (take_ofW HT_.out HW_.out βPb) (fun _ _ _ h => h) (Or.inl ⟨(by rfl), ?_⟩) hHeld ?_ ?_
                     rotate_left
                     · rintro w' ⟨s0, s1, s2, s3, s4, s5, s6, s7, s8, s9, s10⟩
                       go_simp
                       with_reducible rfl
                     rotate_left
                     exact pp_
                     refine take_ (i := 11) (N := some 48) (v := ?_) (a' := ?_) (mr_ [13, 5, 1, 1, 1, 3, 1, 3]) rfl rfl (take_ofW HT_.out HW_.out βPb) (fun _ _ _ h => h) (Or.inl ⟨(by rfl), ?_⟩) hHeld ?_ ?_
                     rotate_left
                     · rintro w' ⟨s0, s1, s2, s3, s4, s5, s6, s7, s8, s9, s10⟩
                       go_simp
                       with_reducible rfl
                     rotate_left
                     exact pp_
                     refine pure_ (i := 13) (N := some 50) (v := ?_) (a' := ?_) (mr_ [14, 4, 1, 1, 1, 3, 1, 3]) rfl rfl (any_of HT_.out βPb) (fun _ _ _ h => h) (Or.inl ⟨(by rfl), ?_⟩) ?_ ?_
                     rotate_left; exact pv_; rotate_left; exact pp_
                     refine pure_ (i := 14) (N := some 51) (v := ?_) (a' := ?_) (mr_ [15, 3, 1, 1, 1, 3, 1, 3]) rfl rfl (any_of HT_.out βPb) (fun _ _ _ h => h) (Or.inl ⟨(by rfl), ?_⟩) ?_ ?_
                     rotate_left; exact pv_; rotate_left; exact pp_
                     refine take_ (i := 15) (N := some 52) (v := ?_) (a' := ?_) (mr_ [16, 2, 1, 1, 1, 3, 1, 3]) rfl rfl (take_ofW HT_.out HW_.out βPb) (fun _ _ _ h => h) (Or.inl ⟨(by rfl), ?_⟩) hHeld ?_ ?_
                     rotate_left
                     · rintro w' ⟨s0, s1, s2, s3, s4, s5, s6, s7, s8, s9, s10⟩
                       go_simp
                       with_reducible rfl
                     rotate_left
                     exact pp_
                     refine pure_ (i := 16) (N := some 53) (v := ?_) (a' := ?_) (mr_ [17, 1, 1, 1, 1, 3, 1, 3]) rfl rfl (any_of HT_.out βPb) (fun _ _ _ h => h) (Or.inl ⟨(by rfl), ?_⟩) ?_ ?_
                     rotate_left; exact pv_; rotate_left; exact pp_
                     refine take_ (i := 17) (N := some 54) (v := ?_) (a' := ?_) (mr_ [19, 1, 1, 3, 1, 3]) rfl rfl (take_ofW HT_.out HW_.out βPb) (fun _ _ _ h => h) (Or.inl ⟨(by rfl), ?_⟩) hHeld ?_ ?_
                     rotate_left
                     · rintro w' ⟨s0, s1, s2, s3, s4, s5, s6, s7, s8, s9, s10⟩
                       go_simp
                       with_reducible rfl
                     rotate_left
                     exact pp_
                     refine take_ (i := 19) (N := some 56) (v := ?_) (a' := ?_) (mr_ [21, 3, 1, 3]) rfl rfl (take_ofW HT_.out HW_.out βPb) (fun _ _ _ h => h) (Or.inl ⟨(by rfl), ?_⟩) hHeld ?_ ?_
                     rotate_left
                     · rintro w' ⟨s0, s1, s2, s3, s4, s5, s6, s7, s8, s9, s10⟩
                       go_simp
                       with_reducible rfl
                     rotate_left
                     exact pp_
                     refine pure_ (i := 21) (N := some 58) (v := ?_) (a' := ?_) (mr_ [22, 2, 1, 3]) rfl rfl (any_of HT_.out βPb) (fun _ _ _ h => h) (Or.inl ⟨(by rfl), ?_⟩) ?_ ?_
                     rotate_left; exact pv_; rotate_left; exact pp_
                     refine pure_ (i := 22) (N := some 59) (v := ?_) (a' := ?_) (mr_ [23, 1, 1, 3]) rfl rfl (any_of HT_.out βPb) (fun _ _ _ h => h) (Or.inl ⟨(by rfl), ?_⟩) ?_ ?_
                     rotate_left; exact pv_; rotate_left; exact pp_
                     refine take_ (i := 23) (N := some 60) (v := ?_) (a' := ?_) (mr_ [25, 3]) rfl rfl (take_ofW HT_.out HW_.out βPb) (fun _ _ _ h => h) (Or.inl ⟨(by rfl), ?_⟩) hHeld ?_ ?_
                     rotate_left
                     · rintro w' ⟨s0, s1, s2, s3, s4, s5, s6, s7, s8, s9, s10⟩
                       go_simp
                       with_reducible rfl
                     rotate_left
                     exact pp_
                     refine one_ (i := 25) (N := some 62) (mr_ [26, 2]) rfl rfl (one_of HT_.out βPb) (by decide) (fun K hK => ?_)
                     refine goes_ Try.func23 βPb rfl #[.string (rdOf ByteArray.empty l0_0 ((rd_T83 l0_1 x6_1).f0)), .string ((rd_T83 l0_1 x6_1).f1), .int .i64 0] (by rfl) rfl rfl zs_ ?_
                     with_reducible refine (spec_Torn.calls k1 (rdOf ByteArray.empty l0_0 ((rd_T83 l0_1 x6_1).f0)) ((rd_T83 l0_1 x6_1).f1) 0 t545 _ A41.out).mono ?_
                     rintro e w' ⟨rfl, ⟨nd, rfl⟩⟩
                     refine ⟨_, rfl, ?_⟩
                     have p43 : 0 ≤ (((rd_T83 l0_1 x6_1).f0) : Int) := of_decide_eq_true βKb
                     have q43 : (((rd_T83 l0_1 x6_1).f0) : Int) < ((x534000_1.length : Int) : Int) := of_decide_eq_true βKb
                     obtain ⟨go43, co43, eo43, gb43, gl43, cl43, HG43⟩ := Kd.R_form HO_534000.out (by omega)
                     (first | cases eo43 | (injection eo43 with ea_ en_ ec_; (first | subst ea_ | (injection ea_ with ea_; subst ea_)); subst ec_; clear en_))
                     have GB43 := zA_ gb43
                     have GG43 := zA_ HG43
                     clear gb43 gl43 HG43
                     obtain ⟨hx43_0, hf43_0⟩ := Kd.R_celln (⟨#[]⟩ : ByteArray) HO_534000.out (((rd_T83 l0_1 x6_1).f0) : Int) p43 q43
                     replace p43 := eq_true p43
                     replace q43 := eq_true q43
                     have HP48 := Kd.R_putn HO_534000.out (((rd_T83 l0_1 x6_1).f0) : Int) t545
                     rw [← Ny546.out] at HP48
                     have HQ48 := zA_ HP48
                     clear HP48
                     refine hK.out _ _ ⟨cy_ BK533.out 0, cy_ BK533.out 1, cy_ BK518.out 0, cy_ BK518.out 1, ((HB.out.cell (World.block_lt_of_cell? _ _ hw541_0)).trans hw541_0), ((HB.out.cell (World.block_lt_of_cell? _ _ hw541_1)).trans hw541_1), ((HB.out.cell (World.block_lt_of_cell? _ _ hw542_0)).trans hw542_0), ((HB.out.cell (World.block_lt_of_cell? _ _ hw542_1)).trans hw542_1), ((HB.out.cell (World.block_lt_of_cell? _ _ hw543_0)).trans hw543_0), ((HB.out.cell (World.block_lt_of_cell? _ _ hw544_0)).trans hw544_0), ((HB.out.cell (World.block_lt_of_cell? _ _ hw544_1)).trans hw544_1)⟩ (fun hHeld => ?_)
                     clear hK K
                     refine norm_ (a' := ?_) ?_ ?_
                     rotate_left
                     · show Act.put _ (some 62) _ = _
                       simp only [Act.put, List.setIfInBounds_toArray, List.set_cons_zero, List.set_cons_succ, i64_w, i32_w]
                       rfl
                     refine pure_ (i := 26) (N := some 63) (v := ?_) (a' := ?_) (mr_ [27, 1]) rfl rfl (any_of HT_.out βPb) (fun _ _ _ h => h) (Or.inl ⟨(by rfl), ?_⟩) ?_ ?_
                     rotate_left; exact pv_; rotate_left; exact pp_
                     refine last_ (i := 27) (N := none) (mr_ [28]) rfl rfl (one_of HT_.out βPb) (by decide) (fun K hK => ?_)
                     refine skip_ (w1 := ?_) (by rfl) rfl ?_ ?_
                     rotate_left
                     · go_simp
                       rfl
                     refine hK.out _ _ ?_
                     clear hK K
                     refine done_ (done_of HT_.out βPb) ?_
                     try go_wp2
                     go_roundg k1
                     case measure => have := HK1.out; omega
                     case rel => exact ⟨(wrap64 (x6_1 + 1)), (y546), (.slice (some ⟨go43, 0, none⟩) x534000_1.length co43), βLb, H', ⟨βOb⟩, ⟨zr_ HQ48.out⟩, ⟨βN⟩, ⟨βO⟩, ⟨βP⟩, ⟨zg4_ HB.out GB43.out GE518.out GE519.out GE533.out⟩⟩
                   · rw [if_neg c42] at H
                     exact absurd H (by simp)
                 · rw [if_neg c40] at H
                   exact absurd H (by simp)
               · rw [if_neg c39] at H
                 exact absurd H (by simp)
             · rw [if_neg c38] at H
               exact absurd H (by simp)
         · rw [if_neg c25] at H
           have c25b0 : decide (x6_1 < (l0_1.length : Int)) = false := decide_eq_false c25
           clear c25
           simp only [Option.some.injEq, Prod.mk.injEq] at H
           obtain ⟨rfl, rfl⟩ := H
           have hnb49 := NB518_519.out
           have hnc49 := NB519_518.out
           have hnb50 := NB518_533.out
           have hnc50 := NB533_518.out
           have hcz51_0 := cz_ BK518.out 0 (.slice A0_0 l0_0.length c0_0) rfl
           have hcz51_1 := cz_ BK518.out 1 (.slice A0_1 l0_1.length c0_1) rfl
           have hfz51_0 := blk_frozen BK518.out 0
           have hfz51_1 := blk_frozen BK518.out 1
           have hnb52 := NB533_519.out
           have hnc52 := NB519_533.out
           have hcz53_0 : wr.cell? ⟨gb533, 0, none⟩ = some (u534000) := (blk_cell BK533.out 0).trans rfl
           have hcz53_1 := cz_ BK533.out 1 (.slice none 0 0) rfl
           have hfz53_0 := blk_frozen BK533.out 0
           have hfz53_1 := blk_frozen BK533.out 1
           obtain ⟨Ao54, co54, eo54⟩ := Kd.R_slice HO_534000.out
           subst eo54
           have hcz55_0 := cz_ BK519.out 0 (.slice none 0 0) rfl
           have hcz55_1 := cz_ BK519.out 1 (.slice none 0 0) rfl
           have hfz55_0 := blk_frozen BK519.out 0
           have hfz55_1 := blk_frozen BK519.out 1
           go_wp2
           refine bodyPost_ret (results_cell_row rfl _ _ gb519 26 #[.slice Ao54 x534000_1.length co54, .slice none 0 0] (0, 0) _ rfl (by (with_reducible repeat (first | refine blk_drewN ?_ _ | refine blk_drew ?_ | refine blk_alloc ?_ _)); refine blk_put (cs := #[.slice Ao54 x534000_1.length co54, .slice none 0 0]) ?_ 1 _ rfl; (with_reducible repeat (first | refine blk_drewN ?_ _ | refine blk_drew ?_ | refine blk_alloc ?_ _)); refine blk_put (cs := #[.slice none 0 0, .slice none 0 0]) ?_ 0 _ rfl; (with_reducible repeat (first | refine blk_drewN ?_ _ | refine blk_drew ?_ | refine blk_alloc ?_ _)); exact BK519.out) Try.underlying26 rfl βPb) rfl ?_
           exact ⟨_, _, βFb, (by (with_reducible repeat (first | apply Kd.R_alloc | apply Kd.R_drewN | apply Kd.R_drew)); exact Kd.R_mono (Kd.R_far (p := ⟨gb519, 1, none⟩) (Kd.R_far (p := ⟨gb519, 0, none⟩) (Kd.R_types HO_534000.out BK519.out (by decide)) (fun _ hk => hk.2) (.slice Ao54 x534000_1.length co54)) (fun _ hk => hk.2) (.slice none 0 0)) (fun _ hk => trivial)), βBb, (by repeat (first | (with_reducible first | exact HB.out | apply below_alloc | apply pw_below_drewN | apply below_drew1 | refine below_set ?_ GE518.out | refine below_set ?_ GE519.out | refine below_set ?_ GE533.out) | exact HB.out))⟩
     · rw [if_neg c10] at H
       exact absurd H (by simp)
   · replace c9 := Bool.eq_false_iff.mpr c9
     subst c9
     have H1 : ((spec_l03Copy.f l0_0 l0_1).bind fun bt521 => (some (bt521.1, bt521.2))) = some (r1, r2) := by rw [if_neg (show ¬ (false = true) by decide)] at H; exact H
     clear H
     have H := H1
     clear H1
     replace H := Option.bind_eq_some_iff.mp H
     obtain ⟨⟨t521, t524⟩, A560, H⟩ := H
     (try dsimp -simprocs only at H)
     have A56 := zA_ A560
     clear A560
     simp only [Option.some.injEq, Prod.mk.injEq] at H
     obtain ⟨rfl, rfl⟩ := H
     go_enter Try.func16, Try.ntmps16
     go_wp2_with (first | ((with_reducible refine gate_dst (N := 2) rfl ?_); refine box_event ?hg (N := 2) ?hd (cs := #[.slice A0_0 l0_0.length c0_0, .slice A0_1 l0_1.length c0_1]) (t := 26) ?hr ?_; (case hd => exact (by rfl)); (case hg => exact (by rfl)); (case hr => exact βMb); intro gb518 hg w57 hbox hb; have BK518 := zA_ (hbox); have GW518 := zA_ ((by rw [hg]; exact (below_size (zh_ HB.out)) : w.heap.size ≤ gb518)); have GE518 := zA_ ((by rw [hg]; exact (below_size (zh_ HB.out)) : w.heap.size ≤ gb518)); replace HB := zA_ (below_step (zh_ HB.out) hb); clear hb hbox hg) | ((with_reducible refine gate_dst (N := 4) rfl ?_); refine box_event ?hg (N := 4) ?hd (cs := #[.slice none 0 0, .slice none 0 0]) (t := 26) ?hr ?_; (case hd => exact (by rfl)); (case hg => exact (by rfl)); (case hr => exact βMb); intro gb519 hg w58 hbox hb; have BK519 := zA_ (hbox); have GW519 := zA_ ((by rw [hg]; exact (below_size (zg1_ HB.out GE518.out)) : w.heap.size ≤ gb519)); have GE519 := zA_ ((by rw [hg]; exact (below_size (zg1_ HB.out GE518.out)) : w.heap.size ≤ gb519)); replace HB := zA_ (below_step (zg1_ HB.out GE518.out) hb); have NB518_519 := zA_ ((by rw [hg]; exact Nat.ne_of_lt (blk_lt (g := gb518) (o := .cells #[.slice A0_0 l0_0.length c0_0, .slice A0_1 l0_1.length c0_1] 26 (0, 0)) (zb_ BK518.out)) : gb518 ≠ gb519)); have NB519_518 := zA_ ((by rw [hg]; exact Nat.ne_of_gt (blk_lt (g := gb518) (o := .cells #[.slice A0_0 l0_0.length c0_0, .slice A0_1 l0_1.length c0_1] 26 (0, 0)) (zb_ BK518.out)) : gb519 ≠ gb518)); replace BK518 := zB_ BK518.out hb; clear hb hbox hg; have hnb59 := NB518_519.out; have hnc59 := NB519_518.out; have hcz60_0 := cz_ BK518.out 0 (.slice A0_0 l0_0.length c0_0) rfl; have hcz60_1 := cz_ BK518.out 1 (.slice A0_1 l0_1.length c0_1) rfl; have hfz60_0 := blk_frozen BK518.out 0; have hfz60_1 := blk_frozen BK518.out 1) | ((with_reducible refine gate_callee (f := 25) rfl ?_); refine goesL_ (some 13) rfl rfl Try.func25 βPb rfl #[.agg #[.slice A0_0 l0_0.length c0_0, .slice A0_1 l0_1.length c0_1]] rfl zs_ ?_; (with_reducible refine (spec_FlashRight.calls k _ _ l0_0 _ _ l0_1 false _ ?side1 ?side2 ?side3 ?side4 A8.out).mono ?_); (case side1 => exact zc_ (Kd.C_below HR0_0.out HB.out)); (case side2 => exact HC0_0.out); (case side3 => exact zc_ (Kd.C_below HR0_1.out HB.out)); (case side4 => exact HC0_1.out); rintro e w61 ⟨rfl, hb⟩; refine ⟨_, rfl, ?_⟩; replace BK518 := zB_ BK518.out hb; replace BK519 := zB_ BK519.out hb; replace HB := zA_ (below_step (zg2_ HB.out GE518.out GE519.out) hb); (try clear hb); (try clear hb2); (try clear hk); (try clear hi); have hcz62_0 := cz_ BK518.out 0 (.slice A0_0 l0_0.length c0_0) rfl; have hcz62_1 := cz_ BK518.out 1 (.slice A0_1 l0_1.length c0_1) rfl; have hfz62_0 := blk_frozen BK518.out 0; have hfz62_1 := blk_frozen BK518.out 1) | ((with_reducible refine gate_callee (f := 60) rfl ?_); refine goesL_ (some 16) rfl rfl Try.func60 βPb rfl #[.agg #[.slice A0_0 l0_0.length c0_0, .slice A0_1 l0_1.length c0_1]] rfl zs_ ?_; (with_reducible refine (spec_l03Copy.calls _ _ l0_0 _ _ l0_1 t521 t524 _ ?side1 ?side2 ?side3 ?side4 A56.out).mono ?_); (case side1 => exact zc_ (Kd.C_below HR0_0.out HB.out)); (case side2 => exact HC0_0.out); (case side3 => exact zc_ (Kd.C_below HR0_1.out HB.out)); (case side4 => exact HC0_1.out); rintro e w63 ⟨v522, v525, rfl, ho0, ho1, hb⟩; refine ⟨_, rfl, ?_⟩; have HO523 := zA_ (Kd.R_lower ho0 (below_size (zg2_ HB.out GE518.out GE519.out))); have HO526 := zA_ (Kd.R_lower ho1 (below_size (zg2_ HB.out GE518.out GE519.out))); replace BK518 := zB_ BK518.out hb; replace BK519 := zB_ BK519.out hb; replace HB := zA_ (below_step (zg2_ HB.out GE518.out GE519.out) hb); (try clear hb); (try clear hb2); (try clear hk); (try clear hi); (try clear ho0); (try clear ho1); obtain ⟨Ao64, co64, eo64⟩ := Kd.R_slice HO523.out; subst eo64; have hcz65_0 := cz_ BK519.out 0 (.slice none 0 0) rfl; have hcz65_1 := cz_ BK519.out 1 (.slice none 0 0) rfl; have hfz65_0 := blk_frozen BK519.out 0; have hfz65_1 := blk_frozen BK519.out 1; obtain ⟨Ao66, co66, eo66⟩ := Kd.R_slice HO526.out; subst eo66))
     refine bodyPost_ret (results_cell_row rfl _ _ gb519 26 #[.slice Ao64 t521.length co64, .slice Ao66 t524.length co66] (0, 0) _ rfl (by (with_reducible repeat (first | refine blk_drewN ?_ _ | refine blk_drew ?_ | refine blk_alloc ?_ _)); refine blk_put (cs := #[.slice Ao64 t521.length co64, .slice none 0 0]) ?_ 1 _ rfl; (with_reducible repeat (first | refine blk_drewN ?_ _ | refine blk_drew ?_ | refine blk_alloc ?_ _)); refine blk_put (cs := #[.slice none 0 0, .slice none 0 0]) ?_ 0 _ rfl; (with_reducible repeat (first | refine blk_drewN ?_ _ | refine blk_drew ?_ | refine blk_alloc ?_ _)); exact BK519.out) Try.underlying26 rfl βPb) rfl ?_
     exact ⟨_, _, βFb, (by (with_reducible repeat (first | apply Kd.R_alloc | apply Kd.R_drewN | apply Kd.R_drew)); exact Kd.R_mono (Kd.R_far (p := ⟨gb519, 1, none⟩) (Kd.R_far (p := ⟨gb519, 0, none⟩) (Kd.R_types HO523.out BK519.out (by decide)) (fun _ hk => hk.2) (.slice Ao64 t521.length co64)) (fun _ hk => hk.2) (.slice Ao66 t524.length co66)) (fun _ hk => trivial)), (by (with_reducible repeat (first | apply Kd.R_alloc | apply Kd.R_drewN | apply Kd.R_drew)); exact Kd.R_mono (Kd.R_far (p := ⟨gb519, 1, none⟩) (Kd.R_far (p := ⟨gb519, 0, none⟩) (Kd.R_types HO526.out BK519.out (by decide)) (fun _ hk => hk.2) (.slice Ao64 t521.length co64)) (fun _ hk => hk.2) (.slice Ao66 t524.length co66)) (fun _ hk => trivial)), βgb⟩
def impl_Flash_read.f (l0_0 : List ByteArray) (l0_1 : List (S83)) (a1 : Int) : Option (ByteArray) := (impl_Flash_dirty.f l0_0 l0_1 a1).bind fun t548 => (if t548 ≥ 0 then (if 0 ≤ t548 then (if t548 < (l0_1.length : Int) then (some ((rd_T83 l0_1 t548).f1)) else (none)) else (none)) else (if 0 ≤ a1 then (if a1 < (l0_0.length : Int) then (some (rdOf ByteArray.empty l0_0 a1)) else (none)) else (none)))
theorem impl_Flash_read.calls (A0_0 : Option Addr) (c0_0 : Nat) (l0_0 : List ByteArray) (A0_1 : Option Addr) (c0_1 : Nat) (l0_1 : List (S83)) (a1 : Int) (r : ByteArray) (w : World) (hr0_0 : Kd.C Kd.string w A0_0 l0_0.length l0_0) (hc0_0 : l0_0.length ≤ c0_0) (hr0_1 : Kd.C k83 w A0_1 l0_1.length l0_1) (hc0_1 : l0_1.length ≤ c0_1) (h : impl_Flash_read.f l0_0 l0_1 a1 = some r) :
 Calls Try.prog 62 #[.agg #[.slice A0_0 l0_0.length c0_0, .slice A0_1 l0_1.length c0_1], .int .i64 a1] w fun e w' => e = .returned (.string r) ∧ Below w.heap.size w w' := by
 have hu26 := Try.underlying26
 have HR0_0 := zA_ hr0_0
 have HC0_0 := zA_ hc0_0
 clear hr0_0 hc0_0
 have HR0_1 := zA_ hr0_1
 have HC0_1 := zA_ hc0_1
 clear hr0_1 hc0_1
 have HB := zA_ (Below.refl w.heap.size w)
 have H : ((impl_Flash_dirty.f l0_0 l0_1 a1).bind fun t548 => (if t548 ≥ 0 then (if 0 ≤ t548 then (if t548 < (l0_1.length : Int) then (some ((rd_T83 l0_1 t548).f1)) else (none)) else (none)) else (if 0 ≤ a1 then (if a1 < (l0_0.length : Int) then (some (rdOf ByteArray.empty l0_0 a1)) else (none)) else (none)))) = some r := h
 clear h
 replace H := Option.bind_eq_some_iff.mp H
 obtain ⟨t548, A30, H⟩ := H
 (try dsimp -simprocs only at H)
 have A3 := zA_ A30
 clear A30
 by_cases c4 : t548 ≥ 0
 · rw [if_pos c4] at H
   have c4b0 : decide (0 ≤ t548) = true := decide_eq_true c4
   clear c4
   by_cases c5 : 0 ≤ t548
   · rw [if_pos c5] at H
     have c5b0 : decide (0 ≤ t548) = true := decide_eq_true c5
     clear c5
     by_cases c6 : t548 < (l0_1.length : Int)
     · rw [if_pos c6] at H
       have c6b0 : decide (t548 < (l0_1.length : Int)) = true := decide_eq_true c6
       clear c6
       obtain rfl := Option.some.inj H
       go_enter Try.func62, Try.ntmps62
       go_wp2_with (first | ((with_reducible refine gate_dst (N := 2) rfl ?_); refine box_event ?hg (N := 2) ?hd (cs := #[.slice A0_0 l0_0.length c0_0, .slice A0_1 l0_1.length c0_1]) (t := 26) ?hr ?_; (case hd => exact (by rfl)); (case hg => exact (by rfl)); (case hr => exact βMb); intro gb547 hg w7 hbox hb; have BK547 := zA_ (hbox); have GW547 := zA_ ((by rw [hg]; exact (below_size (zh_ HB.out)) : w.heap.size ≤ gb547)); have GE547 := zA_ ((by rw [hg]; exact (below_size (zh_ HB.out)) : w.heap.size ≤ gb547)); replace HB := zA_ (below_step (zh_ HB.out) hb); clear hb hbox hg; have hcz8_0 := cz_ BK547.out 0 (.slice A0_0 l0_0.length c0_0) rfl; have hcz8_1 := cz_ BK547.out 1 (.slice A0_1 l0_1.length c0_1) rfl; have hfz8_0 := blk_frozen BK547.out 0; have hfz8_1 := blk_frozen BK547.out 1) | ((with_reducible refine gate_callee (f := 87) rfl ?_); refine goesL_ (some 8) rfl rfl Try.func87 βPb rfl #[.agg #[.slice A0_0 l0_0.length c0_0, .slice A0_1 l0_1.length c0_1], .int .i64 a1] rfl zs_ ?_; (with_reducible refine (impl_Flash_dirty.calls _ _ l0_0 _ _ l0_1 a1 t548 _ ?side1 ?side2 ?side3 ?side4 A3.out).mono ?_); (case side1 => exact zc_ (Kd.C_below HR0_0.out HB.out)); (case side2 => exact HC0_0.out); (case side3 => exact zc_ (Kd.C_below HR0_1.out HB.out)); (case side4 => exact HC0_1.out); rintro e w9 ⟨rfl, hb⟩; refine ⟨_, rfl, ?_⟩; replace BK547 := zB_ BK547.out hb; replace HB := zA_ (below_step (zg1_ HB.out GE547.out) hb); (try clear hb); (try clear hb2); (try clear hk); (try clear hi); have hcz10_0 := cz_ BK547.out 0 (.slice A0_0 l0_0.length c0_0) rfl; have hcz10_1 := cz_ BK547.out 1 (.slice A0_1 l0_1.length c0_1) rfl; have hfz10_0 := blk_frozen BK547.out 0; have hfz10_1 := blk_frozen BK547.out 1; have p549 : 0 ≤ (t548 : Int) := of_decide_eq_true βKb; have q549 : t548 < (l0_1.length : Int) := of_decide_eq_true βKb; obtain ⟨ad549, e549, hx549_0, hx549_1⟩ := at_T83 HR0_1.out t548 p549 q549; cases e549; replace hx549_0 := bc_ HB.out hx549_0; replace hx549_1 := bc_ HB.out hx549_1; replace p549 := eq_true p549; replace q549 := eq_true q549))
       go_ret
       exact ⟨βFb, βvb⟩
     · rw [if_neg c6] at H
       exact absurd H (by simp)
   · rw [if_neg c5] at H
     exact absurd H (by simp)
 · rw [if_neg c4] at H
   have c4b0 : decide (0 ≤ t548) = false := decide_eq_false c4
   clear c4
   by_cases c11 : 0 ≤ a1
   · rw [if_pos c11] at H
     have c11b0 : decide (0 ≤ a1) = true := decide_eq_true c11
     clear c11
     by_cases c12 : a1 < (l0_0.length : Int)
     · rw [if_pos c12] at H
       have c12b0 : decide (a1 < (l0_0.length : Int)) = true := decide_eq_true c12
       clear c12
       obtain rfl := Option.some.inj H
       go_enter Try.func62, Try.ntmps62
       go_wp2_with (first | ((with_reducible refine gate_dst (N := 2) rfl ?_); refine box_event ?hg (N := 2) ?hd (cs := #[.slice A0_0 l0_0.length c0_0, .slice A0_1 l0_1.length c0_1]) (t := 26) ?hr ?_; (case hd => exact (by rfl)); (case hg => exact (by rfl)); (case hr => exact βMb); intro gb547 hg w13 hbox hb; have BK547 := zA_ (hbox); have GW547 := zA_ ((by rw [hg]; exact (below_size (zh_ HB.out)) : w.heap.size ≤ gb547)); have GE547 := zA_ ((by rw [hg]; exact (below_size (zh_ HB.out)) : w.heap.size ≤ gb547)); replace HB := zA_ (below_step (zh_ HB.out) hb); clear hb hbox hg; have hcz14_0 := cz_ BK547.out 0 (.slice A0_0 l0_0.length c0_0) rfl; have hcz14_1 := cz_ BK547.out 1 (.slice A0_1 l0_1.length c0_1) rfl; have hfz14_0 := blk_frozen BK547.out 0; have hfz14_1 := blk_frozen BK547.out 1) | ((with_reducible refine gate_callee (f := 87) rfl ?_); refine goesL_ (some 8) rfl rfl Try.func87 βPb rfl #[.agg #[.slice A0_0 l0_0.length c0_0, .slice A0_1 l0_1.length c0_1], .int .i64 a1] rfl zs_ ?_; (with_reducible refine (impl_Flash_dirty.calls _ _ l0_0 _ _ l0_1 a1 t548 _ ?side1 ?side2 ?side3 ?side4 A3.out).mono ?_); (case side1 => exact zc_ (Kd.C_below HR0_0.out HB.out)); (case side2 => exact HC0_0.out); (case side3 => exact zc_ (Kd.C_below HR0_1.out HB.out)); (case side4 => exact HC0_1.out); rintro e w15 ⟨rfl, hb⟩; refine ⟨_, rfl, ?_⟩; replace BK547 := zB_ BK547.out hb; replace HB := zA_ (below_step (zg1_ HB.out GE547.out) hb); (try clear hb); (try clear hb2); (try clear hk); (try clear hi); have hcz16_0 := cz_ BK547.out 0 (.slice A0_0 l0_0.length c0_0) rfl; have hcz16_1 := cz_ BK547.out 1 (.slice A0_1 l0_1.length c0_1) rfl; have hfz16_0 := blk_frozen BK547.out 0; have hfz16_1 := blk_frozen BK547.out 1; have p550 : 0 ≤ (a1 : Int) := of_decide_eq_true βKb; have q550 : a1 < (l0_0.length : Int) := of_decide_eq_true βKb; obtain ⟨ad550, e550, hx550_0⟩ := Kd.at_string HR0_0.out a1 p550 q550; cases e550; replace hx550_0 := bc_ HB.out hx550_0; replace p550 := eq_true p550; replace q550 := eq_true q550))
       go_ret
       exact ⟨βFb, βvb⟩
     · rw [if_neg c12] at H
       exact absurd H (by simp)
   · rw [if_neg c11] at H
     exact absurd H (by simp)
def impl_FlashRead.f (l0_0 : List ByteArray) (l0_1 : List (S83)) (a1 : Int) : Option (List ByteArray × (List (S83)) × ByteArray × Int) := (impl_isFlash.f l0_0 l0_1).bind fun t553 => (if t553 = true then ((impl_Flash_has.f l0_0 l0_1 a1).bind fun t554 => (if t554 = true then ((impl_cloneFlash.f l0_0 l0_1).bind fun bt555 => ((impl_Flash_read.f l0_0 l0_1 a1).bind fun t561 => (some (bt555.1, bt555.2, t561, 0)))) else (some (([] : List ByteArray), ([] : List (S83)), (⟨#[]⟩ : ByteArray), 8)))) else (some (([] : List ByteArray), ([] : List (S83)), (⟨#[]⟩ : ByteArray), 1)))
theorem impl_FlashRead.calls (A0_0 : Option Addr) (c0_0 : Nat) (l0_0 : List ByteArray) (A0_1 : Option Addr) (c0_1 : Nat) (l0_1 : List (S83)) (a1 : Int) (r1 : List ByteArray) (r2 : List (S83)) (r3 : ByteArray) (r4 : Int) (w : World) (hr0_0 : Kd.C Kd.string w A0_0 l0_0.length l0_0) (hc0_0 : l0_0.length ≤ c0_0) (hr0_1 : Kd.C k83 w A0_1 l0_1.length l0_1) (hc0_1 : l0_1.length ≤ c0_1) (h : impl_FlashRead.f l0_0 l0_1 a1 = some (r1, r2, r3, r4)) :
 Calls Try.prog 18 #[.agg #[.slice A0_0 l0_0.length c0_0, .slice A0_1 l0_1.length c0_1], .int .i64 a1] w fun e w' => ∃ v0_ v1_ : Value, e = .returned (.agg #[v0_, v1_, .string r3, .int .i64 r4]) ∧ Kd.R Kd.string 9 w' w.heap.size (fun _ => True) v0_ r1 ∧ Kd.R k83 83 w' w.heap.size (fun _ => True) v1_ r2 ∧ Below w.heap.size w w' := by
 have hu26 := Try.underlying26
 have hu30 := Try.underlying30
 have HR0_0 := zA_ hr0_0
 have HC0_0 := zA_ hc0_0
 clear hr0_0 hc0_0
 have HR0_1 := zA_ hr0_1
 have HC0_1 := zA_ hc0_1
 clear hr0_1 hc0_1
 have HB := zA_ (Below.refl w.heap.size w)
 have H : ((impl_isFlash.f l0_0 l0_1).bind fun t553 => (if t553 = true then ((impl_Flash_has.f l0_0 l0_1 a1).bind fun t554 => (if t554 = true then ((impl_cloneFlash.f l0_0 l0_1).bind fun bt555 => ((impl_Flash_read.f l0_0 l0_1 a1).bind fun t561 => (some (bt555.1, bt555.2, t561, 0)))) else (some (([] : List ByteArray), ([] : List (S83)), (⟨#[]⟩ : ByteArray), 8)))) else (some (([] : List ByteArray), ([] : List (S83)), (⟨#[]⟩ : ByteArray), 1)))) = some (r1, r2, r3, r4) := h
 clear h
 replace H := Option.bind_eq_some_iff.mp H
 obtain ⟨t553, A30, H⟩ := H
 (try dsimp -simprocs only at H)
 have A3 := zA_ A30
 clear A30
 by_cases c4 : t553 = true
 · subst c4
   have H1 : ((impl_Flash_has.f l0_0 l0_1 a1).bind fun t554 => (if t554 = true then ((impl_cloneFlash.f l0_0 l0_1).bind fun bt555 => ((impl_Flash_read.f l0_0 l0_1 a1).bind fun t561 => (some (bt555.1, bt555.2, t561, 0)))) else (some (([] : List ByteArray), ([] : List (S83)), (⟨#[]⟩ : ByteArray), 8)))) = some (r1, r2, r3, r4) := by rw [if_pos rfl] at H; exact H
   clear H
   have H := H1
   clear H1
   replace H := Option.bind_eq_some_iff.mp H
   obtain ⟨t554, A50, H⟩ := H
   (try dsimp -simprocs only at H)
   have A5 := zA_ A50
   clear A50
   by_cases c6 : t554 = true
   · subst c6
     have H1 : ((impl_cloneFlash.f l0_0 l0_1).bind fun bt555 => ((impl_Flash_read.f l0_0 l0_1 a1).bind fun t561 => (some (bt555.1, bt555.2, t561, 0)))) = some (r1, r2, r3, r4) := by rw [if_pos rfl] at H; exact H
     clear H
     have H := H1
     clear H1
     replace H := Option.bind_eq_some_iff.mp H
     obtain ⟨⟨t555, t558⟩, A70, H⟩ := H
     (try dsimp -simprocs only at H)
     have A7 := zA_ A70
     clear A70
     replace H := Option.bind_eq_some_iff.mp H
     obtain ⟨t561, A80, H⟩ := H
     (try dsimp -simprocs only at H)
     have A8 := zA_ A80
     clear A80
     simp only [Option.some.injEq, Prod.mk.injEq] at H
     obtain ⟨rfl, rfl, rfl, rfl⟩ := H
     go_enter Try.func18, Try.ntmps18
     try go_wp2_with (first | ((with_reducible refine gate_dst (N := 2) rfl ?_); refine box_event ?hg (N := 2) ?hd (cs := #[.slice A0_0 l0_0.length c0_0, .slice A0_1 l0_1.length c0_1]) (t := 26) ?hr ?_; (case hd => exact (by rfl)); (case hg => exact (by rfl)); (case hr => exact βMb); intro gb551 hg w9 hbox hb; have BK551 := zA_ (hbox); have GW551 := zA_ ((by rw [hg]; exact (below_size (zh_ HB.out)) : w.heap.size ≤ gb551)); have GE551 := zA_ ((by rw [hg]; exact (below_size (zh_ HB.out)) : w.heap.size ≤ gb551)); replace HB := zA_ (below_step (zh_ HB.out) hb); clear hb hbox hg) | ((with_reducible refine gate_dst (N := 4) rfl ?_); refine box_event ?hg (N := 4) ?hd (cs := #[.slice none 0 0, .slice none 0 0, .string (⟨#[]⟩ : ByteArray), .int .i64 0]) (t := 30) ?hr ?_; (case hd => exact (by rfl)); (case hg => exact (by rfl)); (case hr => exact βMb); intro gb552 hg w10 hbox hb; have BK552 := zA_ (hbox); have GW552 := zA_ ((by rw [hg]; exact (below_size (zg1_ HB.out GE551.out)) : w.heap.size ≤ gb552)); have GE552 := zA_ ((by rw [hg]; exact (below_size (zg1_ HB.out GE551.out)) : w.heap.size ≤ gb552)); replace HB := zA_ (below_step (zg1_ HB.out GE551.out) hb); have NB551_552 := zA_ ((by rw [hg]; exact Nat.ne_of_lt (blk_lt (g := gb551) (o := .cells #[.slice A0_0 l0_0.length c0_0, .slice A0_1 l0_1.length c0_1] 26 (0, 0)) (zb_ BK551.out)) : gb551 ≠ gb552)); have NB552_551 := zA_ ((by rw [hg]; exact Nat.ne_of_gt (blk_lt (g := gb551) (o := .cells #[.slice A0_0 l0_0.length c0_0, .slice A0_1 l0_1.length c0_1] 26 (0, 0)) (zb_ BK551.out)) : gb552 ≠ gb551)); replace BK551 := zB_ BK551.out hb; clear hb hbox hg; have hnb11 := NB551_552.out; have hnc11 := NB552_551.out; have hcz12_0 := cz_ BK551.out 0 (.slice A0_0 l0_0.length c0_0) rfl; have hcz12_1 := cz_ BK551.out 1 (.slice A0_1 l0_1.length c0_1) rfl; have hfz12_0 := blk_frozen BK551.out 0; have hfz12_1 := blk_frozen BK551.out 1) | ((with_reducible refine gate_callee (f := 48) rfl ?_); refine goesL_ (some 7) rfl rfl Try.func48 βPb rfl #[.agg #[.slice A0_0 l0_0.length c0_0, .slice A0_1 l0_1.length c0_1]] rfl zs_ ?_; (with_reducible refine (impl_isFlash.calls _ _ l0_0 _ _ l0_1 true _ ?side1 ?side2 ?side3 ?side4 A3.out).mono ?_); (case side1 => exact zc_ (Kd.C_below HR0_0.out HB.out)); (case side2 => exact HC0_0.out); (case side3 => exact zc_ (Kd.C_below HR0_1.out HB.out)); (case side4 => exact HC0_1.out); rintro e w13 ⟨rfl, hb⟩; refine ⟨_, rfl, ?_⟩; replace BK551 := zB_ BK551.out hb; replace BK552 := zB_ BK552.out hb; replace HB := zA_ (below_step (zg2_ HB.out GE551.out GE552.out) hb); (try clear hb); (try clear hb2); (try clear hk); (try clear hi); have hcz14_0 := cz_ BK551.out 0 (.slice A0_0 l0_0.length c0_0) rfl; have hcz14_1 := cz_ BK551.out 1 (.slice A0_1 l0_1.length c0_1) rfl; have hfz14_0 := blk_frozen BK551.out 0; have hfz14_1 := blk_frozen BK551.out 1) | ((with_reducible refine gate_callee (f := 49) rfl ?_); refine goesL_ (some 13) rfl rfl Try.func49 βPb rfl #[.agg #[.slice A0_0 l0_0.length c0_0, .slice A0_1 l0_1.length c0_1], .int .i64 a1] rfl zs_ ?_; (with_reducible refine (impl_Flash_has.calls _ _ l0_0 _ _ l0_1 a1 true _ ?side1 ?side2 ?side3 ?side4 A5.out).mono ?_); (case side1 => exact zc_ (Kd.C_below HR0_0.out HB.out)); (case side2 => exact HC0_0.out); (case side3 => exact zc_ (Kd.C_below HR0_1.out HB.out)); (case side4 => exact HC0_1.out); rintro e w15 ⟨rfl, hb⟩; refine ⟨_, rfl, ?_⟩; replace BK551 := zB_ BK551.out hb; replace BK552 := zB_ BK552.out hb; replace HB := zA_ (below_step (zg2_ HB.out GE551.out GE552.out) hb); (try clear hb); (try clear hb2); (try clear hk); (try clear hi)))
     replace BK551 := zA_ (blk_drew BK551.out)
     replace BK552 := zA_ (blk_drew BK552.out)
     replace HB := zA_ (below_drew1 HB.out)
     refine start_ (n := 7) (S := fun w' => w'.cell? ⟨gb551, 0, none⟩ = some (.slice A0_0 l0_0.length c0_0) ∧ w'.cell? ⟨gb551, 1, none⟩ = some (.slice A0_1 l0_1.length c0_1)) (ds := []) #[false, false, false, false, false, false, false] βPb rfl rfl ⟨cy_ BK551.out 0, cy_ BK551.out 1⟩ (fun hHeld => ?_)
     generalize w15.drew = w16 at BK551 BK552 HB hHeld ⊢
     refine pure_ (i := 3) (N := some 19) (v := ?_) (a' := ?_) #[false, false, false, true, false, false, false] rfl rfl βPb (fun _ _ _ h => h) (Or.inl ⟨(by rfl), ?_⟩) ?_ ?_
     rotate_left; exact pv_; rotate_left; exact pp_
     refine take_ (i := 0) (N := some 16) (v := ?_) (a' := ?_) #[true, false, false, true, false, false, false] rfl rfl βPb (fun _ _ _ h => h) (Or.inl ⟨(by rfl), ?_⟩) hHeld ?_ ?_
     rotate_left
     · rintro w' ⟨s0, s1⟩
       go_simp
       with_reducible rfl
     rotate_left
     exact pp_
     refine take_ (i := 2) (N := some 18) (v := ?_) (a' := ?_) #[true, false, true, true, false, false, false] rfl rfl βPb (fun _ _ _ h => h) (Or.inl ⟨(by rfl), ?_⟩) hHeld ?_ ?_
     rotate_left
     · rintro w' ⟨s0, s1⟩
       go_simp
       with_reducible rfl
     rotate_left
     exact pp_
     refine one_ (i := 1) (N := some 17) #[true, true, true, true, false, false, false] rfl rfl βPb (by decide) (fun K hK => ?_)
     refine goes_ Try.func50 βPb rfl #[.agg #[.slice A0_0 l0_0.length c0_0, .slice A0_1 l0_1.length c0_1]] (by rfl) rfl rfl zs_ ?_
     with_reducible refine (impl_cloneFlash.calls _ _ l0_0 _ _ l0_1 t555 t558 _ ?side1 ?side2 ?side3 ?side4 A7.out).mono ?_
     (case side1 => exact zc_ (Kd.C_below HR0_0.out HB.out))
     (case side2 => exact HC0_0.out)
     (case side3 => exact zc_ (Kd.C_below HR0_1.out HB.out))
     (case side4 => exact HC0_1.out)
     rintro e w17 ⟨v556, v559, rfl, ho0, ho1, hb⟩
     refine ⟨_, rfl, ?_⟩
     have HO557 := zA_ (Kd.R_lower ho0 (below_size (zg2_ HB.out GE551.out GE552.out)))
     have HO560 := zA_ (Kd.R_lower ho1 (below_size (zg2_ HB.out GE551.out GE552.out)))
     replace BK551 := zB_ BK551.out hb
     replace BK552 := zB_ BK552.out hb
     replace HB := zA_ (below_step (zg2_ HB.out GE551.out GE552.out) hb)
     (try clear hb)
     (try clear hb2)
     (try clear hk)
     (try clear hi)
     (try clear ho0)
     (try clear ho1)
     refine hK.out _ _ ⟨cy_ BK551.out 0, cy_ BK551.out 1⟩ (fun hHeld => ?_)
     clear hK K
     refine norm_ (a' := ?_) ?_ ?_
     rotate_left
     · show Act.put _ (some 17) _ = _
       simp only [Act.put, List.setIfInBounds_toArray, List.set_cons_zero, List.set_cons_succ, i64_w, i32_w]
       rfl
     refine one_ (i := 4) (N := some 20) #[true, true, true, true, true, false, false] rfl rfl βPb (by decide) (fun K hK => ?_)
     refine goes_ Try.func62 βPb rfl #[.agg #[.slice A0_0 l0_0.length c0_0, .slice A0_1 l0_1.length c0_1], .int .i64 a1] (by rfl) rfl rfl zs_ ?_
     with_reducible refine (impl_Flash_read.calls _ _ l0_0 _ _ l0_1 a1 t561 _ ?side1 ?side2 ?side3 ?side4 A8.out).mono ?_
     (case side1 => exact zc_ (Kd.C_below HR0_0.out HB.out))
     (case side2 => exact HC0_0.out)
     (case side3 => exact zc_ (Kd.C_below HR0_1.out HB.out))
     (case side4 => exact HC0_1.out)
     rintro e w18 ⟨rfl, hb⟩
     refine ⟨_, rfl, ?_⟩
     replace HO557 := zR_ HO557.out hb
     replace HO560 := zR_ HO560.out hb
     replace BK551 := zB_ BK551.out hb
     replace BK552 := zB_ BK552.out hb
     replace HB := zA_ (below_step (zg2_ HB.out GE551.out GE552.out) hb)
     (try clear hb)
     (try clear hb2)
     (try clear hk)
     (try clear hi)
     obtain ⟨Ao19, co19, eo19⟩ := Kd.R_slice HO560.out
     (first | subst eo19 | (injection eo19 with f1_ f2_ f3_; have f4_ := f1_.symm; have f5_ := f3_.symm; clear f1_ f2_ f3_; subst f4_; subst f5_))
     obtain ⟨Ao20, co20, eo20⟩ := Kd.R_slice HO557.out
     (first | subst eo20 | (injection eo20 with f1_ f2_ f3_; have f4_ := f1_.symm; have f5_ := f3_.symm; clear f1_ f2_ f3_; subst f4_; subst f5_))
     refine hK.out _ _ ⟨cy_ BK551.out 0, cy_ BK551.out 1⟩ (fun hHeld => ?_)
     clear hK K
     refine norm_ (a' := ?_) ?_ ?_
     rotate_left
     · show Act.put _ (some 20) _ = _
       simp only [Act.put, List.setIfInBounds_toArray, List.set_cons_zero, List.set_cons_succ, i64_w, i32_w]
       rfl
     refine pure_ (i := 5) (N := some 21) (v := ?_) (a' := ?_) #[true, true, true, true, true, true, false] rfl rfl βPb (fun _ _ _ h => h) (Or.inl ⟨(by rfl), ?_⟩) ?_ ?_
     rotate_left; exact pv_; rotate_left; exact pp_
     refine one_ (i := 6) (N := none) #[true, true, true, true, true, true, true] rfl rfl βPb (by decide) (fun K hK => ?_)
     have hs21 := cz_ BK552.out 0 (.slice none 0 0) rfl
     have hfs21 := blk_frozen BK552.out 0
     have hns21_0 := NB551_552.out
     have hms21_0 := NB552_551.out
     have hs22 := cz_ BK552.out 1 (.slice none 0 0) rfl
     have hfs22 := blk_frozen BK552.out 1
     have hns22_0 := NB551_552.out
     have hms22_0 := NB552_551.out
     have hs23 := cz_ BK552.out 2 (.string (⟨#[]⟩ : ByteArray)) rfl
     have hfs23 := blk_frozen BK552.out 2
     have hns23_0 := NB551_552.out
     have hms23_0 := NB552_551.out
     have hs24 := cz_ BK552.out 3 (.int .i64 0) rfl
     have hfs24 := blk_frozen BK552.out 3
     have hns24_0 := NB551_552.out
     have hms24_0 := NB552_551.out
     refine skip_ (w1 := ?_) (by rfl) rfl ?_ ?_
     rotate_left
     · go_simp
       rfl
     refine hK.out _ _ ⟨((cell_far (p := ⟨gb552, _, none⟩) NB551_552.out _).trans (((cell_far (p := ⟨gb552, _, none⟩) NB551_552.out _).trans (((cell_far (p := ⟨gb552, _, none⟩) NB551_552.out _).trans (((cell_far (p := ⟨gb552, _, none⟩) NB551_552.out _).trans (hHeld.1)))))))), ((cell_far (p := ⟨gb552, _, none⟩) NB551_552.out _).trans (((cell_far (p := ⟨gb552, _, none⟩) NB551_552.out _).trans (((cell_far (p := ⟨gb552, _, none⟩) NB551_552.out _).trans (((cell_far (p := ⟨gb552, _, none⟩) NB551_552.out _).trans (hHeld.2))))))))⟩ (fun hHeld => ?_)
     clear hK K
     refine done_ βPb ?_
     try go_wp2
     refine bodyPost_ret (results_cell_row rfl _ _ gb552 30 #[.slice Ao20 t555.length co20, .slice Ao19 t558.length co19, .string t561, .int .i64 0] (0, 0) _ rfl (by (with_reducible repeat (first | refine blk_drewN ?_ _ | refine blk_drew ?_ | refine blk_alloc ?_ _)); refine blk_put (cs := #[.slice Ao20 t555.length co20, .slice Ao19 t558.length co19, .string t561, .int .i64 0]) ?_ 3 _ rfl; (with_reducible repeat (first | refine blk_drewN ?_ _ | refine blk_drew ?_ | refine blk_alloc ?_ _)); refine blk_put (cs := #[.slice Ao20 t555.length co20, .slice Ao19 t558.length co19, .string (⟨#[]⟩ : ByteArray), .int .i64 0]) ?_ 2 _ rfl; (with_reducible repeat (first | refine blk_drewN ?_ _ | refine blk_drew ?_ | refine blk_alloc ?_ _)); refine blk_put (cs := #[.slice Ao20 t555.length co20, .slice none 0 0, .string (⟨#[]⟩ : ByteArray), .int .i64 0]) ?_ 1 _ rfl; (with_reducible repeat (first | refine blk_drewN ?_ _ | refine blk_drew ?_ | refine blk_alloc ?_ _)); refine blk_put (cs := #[.slice none 0 0, .slice none 0 0, .string (⟨#[]⟩ : ByteArray), .int .i64 0]) ?_ 0 _ rfl; (with_reducible repeat (first | refine blk_drewN ?_ _ | refine blk_drew ?_ | refine blk_alloc ?_ _)); exact BK552.out) Try.underlying30 rfl βPb) rfl ?_
     exact ⟨_, _, βFb, (by (with_reducible repeat (first | apply Kd.R_alloc | apply Kd.R_drewN | apply Kd.R_drew)); exact Kd.R_mono (Kd.R_far (p := ⟨gb552, 3, none⟩) (Kd.R_far (p := ⟨gb552, 2, none⟩) (Kd.R_far (p := ⟨gb552, 1, none⟩) (Kd.R_far (p := ⟨gb552, 0, none⟩) (Kd.R_types HO557.out BK552.out (by decide)) (fun _ hk => hk.2) (.slice Ao20 t555.length co20)) (fun _ hk => hk.2) (.slice Ao19 t558.length co19)) (fun _ hk => hk.2) (.string t561)) (fun _ hk => hk.2) (.int .i64 0)) (fun _ hk => trivial)), (by (with_reducible repeat (first | apply Kd.R_alloc | apply Kd.R_drewN | apply Kd.R_drew)); exact Kd.R_mono (Kd.R_far (p := ⟨gb552, 3, none⟩) (Kd.R_far (p := ⟨gb552, 2, none⟩) (Kd.R_far (p := ⟨gb552, 1, none⟩) (Kd.R_far (p := ⟨gb552, 0, none⟩) (Kd.R_types HO560.out BK552.out (by decide)) (fun _ hk => hk.2) (.slice Ao20 t555.length co20)) (fun _ hk => hk.2) (.slice Ao19 t558.length co19)) (fun _ hk => hk.2) (.string t561)) (fun _ hk => hk.2) (.int .i64 0)) (fun _ hk => trivial)), βhb⟩
   · replace c6 := Bool.eq_false_iff.mpr c6
     subst c6
     have H1 : (some (([] : List ByteArray), ([] : List (S83)), (⟨#[]⟩ : ByteArray), 8)) = some (r1, r2, r3, r4) := by rw [if_neg (show ¬ (false = true) by decide)] at H; exact H
     clear H
     have H := H1
     clear H1
     simp only [Option.some.injEq, Prod.mk.injEq] at H
     obtain ⟨rfl, rfl, rfl, rfl⟩ := H
     go_enter Try.func18, Try.ntmps18
     go_wp2_with (first | ((with_reducible refine gate_dst (N := 2) rfl ?_); refine box_event ?hg (N := 2) ?hd (cs := #[.slice A0_0 l0_0.length c0_0, .slice A0_1 l0_1.length c0_1]) (t := 26) ?hr ?_; (case hd => exact (by rfl)); (case hg => exact (by rfl)); (case hr => exact βMb); intro gb551 hg w25 hbox hb; have BK551 := zA_ (hbox); have GW551 := zA_ ((by rw [hg]; exact (below_size (zh_ HB.out)) : w.heap.size ≤ gb551)); have GE551 := zA_ ((by rw [hg]; exact (below_size (zh_ HB.out)) : w.heap.size ≤ gb551)); replace HB := zA_ (below_step (zh_ HB.out) hb); clear hb hbox hg) | ((with_reducible refine gate_dst (N := 4) rfl ?_); refine box_event ?hg (N := 4) ?hd (cs := #[.slice none 0 0, .slice none 0 0, .string (⟨#[]⟩ : ByteArray), .int .i64 0]) (t := 30) ?hr ?_; (case hd => exact (by rfl)); (case hg => exact (by rfl)); (case hr => exact βMb); intro gb552 hg w26 hbox hb; have BK552 := zA_ (hbox); have GW552 := zA_ ((by rw [hg]; exact (below_size (zg1_ HB.out GE551.out)) : w.heap.size ≤ gb552)); have GE552 := zA_ ((by rw [hg]; exact (below_size (zg1_ HB.out GE551.out)) : w.heap.size ≤ gb552)); replace HB := zA_ (below_step (zg1_ HB.out GE551.out) hb); have NB551_552 := zA_ ((by rw [hg]; exact Nat.ne_of_lt (blk_lt (g := gb551) (o := .cells #[.slice A0_0 l0_0.length c0_0, .slice A0_1 l0_1.length c0_1] 26 (0, 0)) (zb_ BK551.out)) : gb551 ≠ gb552)); have NB552_551 := zA_ ((by rw [hg]; exact Nat.ne_of_gt (blk_lt (g := gb551) (o := .cells #[.slice A0_0 l0_0.length c0_0, .slice A0_1 l0_1.length c0_1] 26 (0, 0)) (zb_ BK551.out)) : gb552 ≠ gb551)); replace BK551 := zB_ BK551.out hb; clear hb hbox hg; have hnb27 := NB551_552.out; have hnc27 := NB552_551.out; have hcz28_0 := cz_ BK551.out 0 (.slice A0_0 l0_0.length c0_0) rfl; have hcz28_1 := cz_ BK551.out 1 (.slice A0_1 l0_1.length c0_1) rfl; have hfz28_0 := blk_frozen BK551.out 0; have hfz28_1 := blk_frozen BK551.out 1) | ((with_reducible refine gate_callee (f := 48) rfl ?_); refine goesL_ (some 7) rfl rfl Try.func48 βPb rfl #[.agg #[.slice A0_0 l0_0.length c0_0, .slice A0_1 l0_1.length c0_1]] rfl zs_ ?_; (with_reducible refine (impl_isFlash.calls _ _ l0_0 _ _ l0_1 true _ ?side1 ?side2 ?side3 ?side4 A3.out).mono ?_); (case side1 => exact zc_ (Kd.C_below HR0_0.out HB.out)); (case side2 => exact HC0_0.out); (case side3 => exact zc_ (Kd.C_below HR0_1.out HB.out)); (case side4 => exact HC0_1.out); rintro e w29 ⟨rfl, hb⟩; refine ⟨_, rfl, ?_⟩; replace BK551 := zB_ BK551.out hb; replace BK552 := zB_ BK552.out hb; replace HB := zA_ (below_step (zg2_ HB.out GE551.out GE552.out) hb); (try clear hb); (try clear hb2); (try clear hk); (try clear hi); have hcz30_0 := cz_ BK551.out 0 (.slice A0_0 l0_0.length c0_0) rfl; have hcz30_1 := cz_ BK551.out 1 (.slice A0_1 l0_1.length c0_1) rfl; have hfz30_0 := blk_frozen BK551.out 0; have hfz30_1 := blk_frozen BK551.out 1) | ((with_reducible refine gate_callee (f := 49) rfl ?_); refine goesL_ (some 13) rfl rfl Try.func49 βPb rfl #[.agg #[.slice A0_0 l0_0.length c0_0, .slice A0_1 l0_1.length c0_1], .int .i64 a1] rfl zs_ ?_; (with_reducible refine (impl_Flash_has.calls _ _ l0_0 _ _ l0_1 a1 false _ ?side1 ?side2 ?side3 ?side4 A5.out).mono ?_); (case side1 => exact zc_ (Kd.C_below HR0_0.out HB.out)); (case side2 => exact HC0_0.out); (case side3 => exact zc_ (Kd.C_below HR0_1.out HB.out)); (case side4 => exact HC0_1.out); rintro e w31 ⟨rfl, hb⟩; refine ⟨_, rfl, ?_⟩; replace BK551 := zB_ BK551.out hb; replace BK552 := zB_ BK552.out hb; replace HB := zA_ (below_step (zg2_ HB.out GE551.out GE552.out) hb); (try clear hb); (try clear hb2); (try clear hk); (try clear hi); have hcz32_0 := cz_ BK552.out 0 (.slice none 0 0) rfl; have hcz32_1 := cz_ BK552.out 1 (.slice none 0 0) rfl; have hcz32_2 := cz_ BK552.out 2 (.string (⟨#[]⟩ : ByteArray)) rfl; have hcz32_3 := cz_ BK552.out 3 (.int .i64 0) rfl; have hfz32_0 := blk_frozen BK552.out 0; have hfz32_1 := blk_frozen BK552.out 1; have hfz32_2 := blk_frozen BK552.out 2; have hfz32_3 := blk_frozen BK552.out 3))
     refine bodyPost_ret (results_cell_row rfl _ _ gb552 30 #[.slice none 0 0, .slice none 0 0, .string (⟨#[]⟩ : ByteArray), .int .i64 8] (0, 0) _ rfl βa Try.underlying30 rfl βPb) rfl ?_
     exact ⟨_, _, βFb, βBb, βBb, βhb⟩
 · replace c4 := Bool.eq_false_iff.mpr c4
   subst c4
   have H1 : (some (([] : List ByteArray), ([] : List (S83)), (⟨#[]⟩ : ByteArray), 1)) = some (r1, r2, r3, r4) := by rw [if_neg (show ¬ (false = true) by decide)] at H; exact H
   clear H
   have H := H1
   clear H1
   simp only [Option.some.injEq, Prod.mk.injEq] at H
   obtain ⟨rfl, rfl, rfl, rfl⟩ := H
   go_enter Try.func18, Try.ntmps18
   go_wp2_with (first | ((with_reducible refine gate_dst (N := 2) rfl ?_); refine box_event ?hg (N := 2) ?hd (cs := #[.slice A0_0 l0_0.length c0_0, .slice A0_1 l0_1.length c0_1]) (t := 26) ?hr ?_; (case hd => exact (by rfl)); (case hg => exact (by rfl)); (case hr => exact βMb); intro gb551 hg w33 hbox hb; have BK551 := zA_ (hbox); have GW551 := zA_ ((by rw [hg]; exact (below_size (zh_ HB.out)) : w.heap.size ≤ gb551)); have GE551 := zA_ ((by rw [hg]; exact (below_size (zh_ HB.out)) : w.heap.size ≤ gb551)); replace HB := zA_ (below_step (zh_ HB.out) hb); clear hb hbox hg) | ((with_reducible refine gate_dst (N := 4) rfl ?_); refine box_event ?hg (N := 4) ?hd (cs := #[.slice none 0 0, .slice none 0 0, .string (⟨#[]⟩ : ByteArray), .int .i64 0]) (t := 30) ?hr ?_; (case hd => exact (by rfl)); (case hg => exact (by rfl)); (case hr => exact βMb); intro gb552 hg w34 hbox hb; have BK552 := zA_ (hbox); have GW552 := zA_ ((by rw [hg]; exact (below_size (zg1_ HB.out GE551.out)) : w.heap.size ≤ gb552)); have GE552 := zA_ ((by rw [hg]; exact (below_size (zg1_ HB.out GE551.out)) : w.heap.size ≤ gb552)); replace HB := zA_ (below_step (zg1_ HB.out GE551.out) hb); have NB551_552 := zA_ ((by rw [hg]; exact Nat.ne_of_lt (blk_lt (g := gb551) (o := .cells #[.slice A0_0 l0_0.length c0_0, .slice A0_1 l0_1.length c0_1] 26 (0, 0)) (zb_ BK551.out)) : gb551 ≠ gb552)); have NB552_551 := zA_ ((by rw [hg]; exact Nat.ne_of_gt (blk_lt (g := gb551) (o := .cells #[.slice A0_0 l0_0.length c0_0, .slice A0_1 l0_1.length c0_1] 26 (0, 0)) (zb_ BK551.out)) : gb552 ≠ gb551)); replace BK551 := zB_ BK551.out hb; clear hb hbox hg; have hnb35 := NB551_552.out; have hnc35 := NB552_551.out; have hcz36_0 := cz_ BK551.out 0 (.slice A0_0 l0_0.length c0_0) rfl; have hcz36_1 := cz_ BK551.out 1 (.slice A0_1 l0_1.length c0_1) rfl; have hfz36_0 := blk_frozen BK551.out 0; have hfz36_1 := blk_frozen BK551.out 1) | ((with_reducible refine gate_callee (f := 48) rfl ?_); refine goesL_ (some 7) rfl rfl Try.func48 βPb rfl #[.agg #[.slice A0_0 l0_0.length c0_0, .slice A0_1 l0_1.length c0_1]] rfl zs_ ?_; (with_reducible refine (impl_isFlash.calls _ _ l0_0 _ _ l0_1 false _ ?side1 ?side2 ?side3 ?side4 A3.out).mono ?_); (case side1 => exact zc_ (Kd.C_below HR0_0.out HB.out)); (case side2 => exact HC0_0.out); (case side3 => exact zc_ (Kd.C_below HR0_1.out HB.out)); (case side4 => exact HC0_1.out); rintro e w37 ⟨rfl, hb⟩; refine ⟨_, rfl, ?_⟩; replace BK551 := zB_ BK551.out hb; replace BK552 := zB_ BK552.out hb; replace HB := zA_ (below_step (zg2_ HB.out GE551.out GE552.out) hb); (try clear hb); (try clear hb2); (try clear hk); (try clear hi); have hcz38_0 := cz_ BK552.out 0 (.slice none 0 0) rfl; have hcz38_1 := cz_ BK552.out 1 (.slice none 0 0) rfl; have hcz38_2 := cz_ BK552.out 2 (.string (⟨#[]⟩ : ByteArray)) rfl; have hcz38_3 := cz_ BK552.out 3 (.int .i64 0) rfl; have hfz38_0 := blk_frozen BK552.out 0; have hfz38_1 := blk_frozen BK552.out 1; have hfz38_2 := blk_frozen BK552.out 2; have hfz38_3 := blk_frozen BK552.out 3))
   refine bodyPost_ret (results_cell_row rfl _ _ gb552 30 #[.slice none 0 0, .slice none 0 0, .string (⟨#[]⟩ : ByteArray), .int .i64 1] (0, 0) _ rfl βa Try.underlying30 rfl βPb) rfl ?_
   exact ⟨_, _, βFb, βBb, βBb, βhb⟩
def spec_l03Get.l0 : Nat → Int → Int → List ByteArray → List (S83) → Option (ByteArray)
 | 0, _, _, _, _ => none
 | k + 1, x1, x5, x563000, x563001 => if x5 < (x563001.length : Int) then (if 0 ≤ x5 then (if ((rd_T83 x563001 x5).f0) = x1 then (some ((rd_T83 x563001 x5).f1)) else (spec_l03Get.l0 k x1 (wrap64 (x5 + 1)) x563000 x563001)) else (none)) else (if 0 ≤ x1 then (if x1 < (x563000.length : Int) then (some (rdOf ByteArray.empty x563000 x1)) else (none)) else (none))
def spec_l03Get.f (k : Nat) (l0_0 : List ByteArray) (l0_1 : List (S83)) (a1 : Int) : Option (ByteArray) := spec_l03Get.l0 k a1 0 l0_0 l0_1
theorem spec_l03Get.calls (k : Nat) (A0_0 : Option Addr) (c0_0 : Nat) (l0_0 : List ByteArray) (A0_1 : Option Addr) (c0_1 : Nat) (l0_1 : List (S83)) (a1 : Int) (r : ByteArray) (w : World) (hr0_0 : Kd.C Kd.string w A0_0 l0_0.length l0_0) (hc0_0 : l0_0.length ≤ c0_0) (hr0_1 : Kd.C k83 w A0_1 l0_1.length l0_1) (hc0_1 : l0_1.length ≤ c0_1) (h : spec_l03Get.f k l0_0 l0_1 a1 = some r) :
 Calls Try.prog 63 #[.agg #[.slice A0_0 l0_0.length c0_0, .slice A0_1 l0_1.length c0_1], .int .i64 a1] w fun e w' => e = .returned (.string r) ∧ Below w.heap.size w w' := by
 have hu26 := Try.underlying26
 have HR0_0 := zA_ hr0_0
 have HC0_0 := zA_ hc0_0
 clear hr0_0 hc0_0
 have HR0_1 := zA_ hr0_1
 have HC0_1 := zA_ hc0_1
 clear hr0_1 hc0_1
 have HB := zA_ (Below.refl w.heap.size w)
 have H : (spec_l03Get.l0 k a1 0 l0_0 l0_1) = some r := h
 clear h
 have H' := zA_ H
 clear H
 go_enter Try.func63, Try.ntmps63
 go_wp2_with (first | ((with_reducible refine gate_dst (N := 2) rfl ?_); refine box_event ?hg (N := 2) ?hd (cs := #[.slice A0_0 l0_0.length c0_0, .slice A0_1 l0_1.length c0_1]) (t := 26) ?hr ?_; (case hd => exact (by rfl)); (case hg => exact (by rfl)); (case hr => exact βMb); intro gb562 hg w3 hbox hb; have BK562 := zA_ (hbox); have GW562 := zA_ ((by rw [hg]; exact (below_size (zh_ HB.out)) : w.heap.size ≤ gb562)); have GE562 := zA_ ((by rw [hg]; exact (below_size (zh_ HB.out)) : w.heap.size ≤ gb562)); replace HB := zA_ (below_step (zh_ HB.out) hb); clear hb hbox hg))
 go_loopg [5] k (fun kq v5 w' => ∃ (x5_1 : Int), v5 = .int .i64 x5_1 ∧ Aside0 (spec_l03Get.l0 kq a1 x5_1 l0_0 l0_1 = some r) ∧ Aside0 (kq ≤ k) ∧ Aside0 (w'.heap[gb562]? = some (.cells #[(.slice A0_0 l0_0.length c0_0), (.slice A0_1 l0_1.length c0_1)] 26 (0, 0))) ∧ Aside0 (Below w.heap.size w w'))
 case atStart => exact ⟨(0), βLb, H', ⟨Nat.le_refl _⟩, ⟨zb_ BK562.out⟩, ⟨zg1_ HB.out GE562.out⟩⟩
 case round =>
  clear H'
  try clear p2
  obtain ⟨x5_1, rfl, HA, HK1, BK562, HB⟩ := hrel
  cases gk with
  | zero => exact absurd HA.out (by simp [spec_l03Get.l0])
  | succ k1 =>
   have H := HA.out
   clear HA
   simp only [spec_l03Get.l0] at H
   by_cases c4 : x5_1 < (l0_1.length : Int)
   · rw [if_pos c4] at H
     have c4b0 : decide (x5_1 < (l0_1.length : Int)) = true := decide_eq_true c4
     clear c4
     by_cases c5 : 0 ≤ x5_1
     · rw [if_pos c5] at H
       have c5b0 : decide (0 ≤ x5_1) = true := decide_eq_true c5
       clear c5
       by_cases c6 : ((rd_T83 l0_1 x5_1).f0) = a1
       · rw [if_pos c6] at H
         have c6b0 : (((rd_T83 l0_1 x5_1).f0) == a1) = true := beq_iff_eq.mpr c6
         have c6b1 : (((rd_T83 l0_1 x5_1).f0) != a1) = false := bne_eq_false_iff_eq.mpr c6
         clear c6
         obtain rfl := Option.some.inj H
         have hcz7_0 := cz_ BK562.out 0 (.slice A0_0 l0_0.length c0_0) rfl
         have hcz7_1 := cz_ BK562.out 1 (.slice A0_1 l0_1.length c0_1) rfl
         have hfz7_0 := blk_frozen BK562.out 0
         have hfz7_1 := blk_frozen BK562.out 1
         have p563 : 0 ≤ (x5_1 : Int) := of_decide_eq_true βKb
         have q563 : x5_1 < (l0_1.length : Int) := of_decide_eq_true βKb
         obtain ⟨ad563, e563, hx563_0, hx563_1⟩ := at_T83 HR0_1.out x5_1 p563 q563
         cases e563
         replace hx563_0 := bc_ HB.out hx563_0
         replace hx563_1 := bc_ HB.out hx563_1
         replace p563 := eq_true p563
         replace q563 := eq_true q563
         have p564 : 0 ≤ (x5_1 : Int) := of_decide_eq_true βKb
         have q564 : x5_1 < (l0_1.length : Int) := of_decide_eq_true βKb
         obtain ⟨ad564, e564, hx564_0, hx564_1⟩ := at_T83 HR0_1.out x5_1 p564 q564
         obtain rfl : ad563 = ad564 := (by injection e564)
         replace hx564_0 := bc_ HB.out hx564_0
         replace hx564_1 := bc_ HB.out hx564_1
         replace p564 := eq_true p564
         replace q564 := eq_true q564
         go_wp2
         go_ret
         exact ⟨βFb, βwb⟩
       · rw [if_neg c6] at H
         have c6b0 : (((rd_T83 l0_1 x5_1).f0) == a1) = false := beq_eq_false_iff_ne.mpr c6
         have c6b1 : (((rd_T83 l0_1 x5_1).f0) != a1) = true := bne_iff_ne.mpr c6
         have H' := zA_ H
         clear H
         have hcz8_0 := cz_ BK562.out 0 (.slice A0_0 l0_0.length c0_0) rfl
         have hcz8_1 := cz_ BK562.out 1 (.slice A0_1 l0_1.length c0_1) rfl
         have hfz8_0 := blk_frozen BK562.out 0
         have hfz8_1 := blk_frozen BK562.out 1
         have p563 : 0 ≤ (x5_1 : Int) := of_decide_eq_true βKb
         have q563 : x5_1 < (l0_1.length : Int) := of_decide_eq_true βKb
         obtain ⟨ad563, e563, hx563_0, hx563_1⟩ := at_T83 HR0_1.out x5_1 p563 q563
         cases e563
         replace hx563_0 := bc_ HB.out hx563_0
         replace hx563_1 := bc_ HB.out hx563_1
         replace p563 := eq_true p563
         replace q563 := eq_true q563
         go_wp2
         go_roundg k1
         case measure => have := HK1.out; omega
         case rel => exact ⟨(wrap64 (x5_1 + 1)), βLb, H', ⟨βOb⟩, ⟨zb_ BK562.out⟩, ⟨zg1_ HB.out GE562.out⟩⟩
     · rw [if_neg c5] at H
       exact absurd H (by simp)
   · rw [if_neg c4] at H
     have c4b0 : decide (x5_1 < (l0_1.length : Int)) = false := decide_eq_false c4
     clear c4
     by_cases c9 : 0 ≤ a1
     · rw [if_pos c9] at H
       have c9b0 : decide (0 ≤ a1) = true := decide_eq_true c9
       clear c9
       by_cases c10 : a1 < (l0_0.length : Int)
       · rw [if_pos c10] at H
         have c10b0 : decide (a1 < (l0_0.length : Int)) = true := decide_eq_true c10
         clear c10
         obtain rfl := Option.some.inj H
         have hcz11_0 := cz_ BK562.out 0 (.slice A0_0 l0_0.length c0_0) rfl
         have hcz11_1 := cz_ BK562.out 1 (.slice A0_1 l0_1.length c0_1) rfl
         have hfz11_0 := blk_frozen BK562.out 0
         have hfz11_1 := blk_frozen BK562.out 1
         have p565 : 0 ≤ (a1 : Int) := of_decide_eq_true βKb
         have q565 : a1 < (l0_0.length : Int) := of_decide_eq_true βKb
         obtain ⟨ad565, e565, hx565_0⟩ := Kd.at_string HR0_0.out a1 p565 q565
         cases e565
         replace hx565_0 := bc_ HB.out hx565_0
         replace p565 := eq_true p565
         replace q565 := eq_true q565
         go_wp2
         go_ret
         exact ⟨βFb, βwb⟩
       · rw [if_neg c10] at H
         exact absurd H (by simp)
     · rw [if_neg c9] at H
       exact absurd H (by simp)
def spec_FlashRead.f (k : Nat) (l0_0 : List ByteArray) (l0_1 : List (S83)) (a1 : Int) : Option (List ByteArray × (List (S83)) × ByteArray × Int) := (spec_FlashRight.f k l0_0 l0_1).bind fun t568 => (if t568 = true then ((spec_l03Is.f a1 0 (wrap64 ((l0_0.length : Int) - 1))).bind fun t577 => (if t577 = true then ((spec_l03Copy.f l0_0 l0_1).bind fun bt578 => ((spec_l03Get.f k l0_0 l0_1 a1).bind fun t584 => (some (bt578.1, bt578.2, t584, 0)))) else ((spec_l03Ill.f 8).bind fun bt585 => (some (bt585.1, bt585.2.1, bt585.2.2.1, bt585.2.2.2))))) else ((spec_l03Ill.f 1).bind fun bt569 => (some (bt569.1, bt569.2.1, bt569.2.2.1, bt569.2.2.2))))
theorem spec_FlashRead.calls (k : Nat) (A0_0 : Option Addr) (c0_0 : Nat) (l0_0 : List ByteArray) (A0_1 : Option Addr) (c0_1 : Nat) (l0_1 : List (S83)) (a1 : Int) (r1 : List ByteArray) (r2 : List (S83)) (r3 : ByteArray) (r4 : Int) (w : World) (hr0_0 : Kd.C Kd.string w A0_0 l0_0.length l0_0) (hc0_0 : l0_0.length ≤ c0_0) (hr0_1 : Kd.C k83 w A0_1 l0_1.length l0_1) (hc0_1 : l0_1.length ≤ c0_1) (h : spec_FlashRead.f k l0_0 l0_1 a1 = some (r1, r2, r3, r4)) :
 Calls Try.prog 19 #[.agg #[.slice A0_0 l0_0.length c0_0, .slice A0_1 l0_1.length c0_1], .int .i64 a1] w fun e w' => ∃ v0_ v1_ : Value, e = .returned (.agg #[v0_, v1_, .string r3, .int .i64 r4]) ∧ Kd.R Kd.string 9 w' w.heap.size (fun _ => True) v0_ r1 ∧ Kd.R k83 83 w' w.heap.size (fun _ => True) v1_ r2 ∧ Below w.heap.size w w' := by
 have hu26 := Try.underlying26
 have hu30 := Try.underlying30
 have HR0_0 := zA_ hr0_0
 have HC0_0 := zA_ hc0_0
 clear hr0_0 hc0_0
 have HR0_1 := zA_ hr0_1
 have HC0_1 := zA_ hc0_1
 clear hr0_1 hc0_1
 have HB := zA_ (Below.refl w.heap.size w)
 have H : ((spec_FlashRight.f k l0_0 l0_1).bind fun t568 => (if t568 = true then ((spec_l03Is.f a1 0 (wrap64 ((l0_0.length : Int) - 1))).bind fun t577 => (if t577 = true then ((spec_l03Copy.f l0_0 l0_1).bind fun bt578 => ((spec_l03Get.f k l0_0 l0_1 a1).bind fun t584 => (some (bt578.1, bt578.2, t584, 0)))) else ((spec_l03Ill.f 8).bind fun bt585 => (some (bt585.1, bt585.2.1, bt585.2.2.1, bt585.2.2.2))))) else ((spec_l03Ill.f 1).bind fun bt569 => (some (bt569.1, bt569.2.1, bt569.2.2.1, bt569.2.2.2))))) = some (r1, r2, r3, r4) := h
 clear h
 replace H := Option.bind_eq_some_iff.mp H
 obtain ⟨t568, A30, H⟩ := H
 (try dsimp -simprocs only at H)
 have A3 := zA_ A30
 clear A30
 by_cases c4 : t568 = true
 · subst c4
   have H1 : ((spec_l03Is.f a1 0 (wrap64 ((l0_0.length : Int) - 1))).bind fun t577 => (if t577 = true then ((spec_l03Copy.f l0_0 l0_1).bind fun bt578 => ((spec_l03Get.f k l0_0 l0_1 a1).bind fun t584 => (some (bt578.1, bt578.2, t584, 0)))) else ((spec_l03Ill.f 8).bind fun bt585 => (some (bt585.1, bt585.2.1, bt585.2.2.1, bt585.2.2.2))))) = some (r1, r2, r3, r4) := by rw [if_pos rfl] at H; exact H
   clear H
   have H := H1
   clear H1
   replace H := Option.bind_eq_some_iff.mp H
   obtain ⟨t577, A50, H⟩ := H
   (try dsimp -simprocs only at H)
   have A5 := zA_ A50
   clear A50
   by_cases c6 : t577 = true
   · subst c6
     have H1 : ((spec_l03Copy.f l0_0 l0_1).bind fun bt578 => ((spec_l03Get.f k l0_0 l0_1 a1).bind fun t584 => (some (bt578.1, bt578.2, t584, 0)))) = some (r1, r2, r3, r4) := by rw [if_pos rfl] at H; exact H
     clear H
     have H := H1
     clear H1
     replace H := Option.bind_eq_some_iff.mp H
     obtain ⟨⟨t578, t581⟩, A70, H⟩ := H
     (try dsimp -simprocs only at H)
     have A7 := zA_ A70
     clear A70
     replace H := Option.bind_eq_some_iff.mp H
     obtain ⟨t584, A80, H⟩ := H
     (try dsimp -simprocs only at H)
     have A8 := zA_ A80
     clear A80
     simp only [Option.some.injEq, Prod.mk.injEq] at H
     obtain ⟨rfl, rfl, rfl, rfl⟩ := H
     go_enter Try.func19, Try.ntmps19
     try go_wp2_with (first | ((with_reducible refine gate_dst (N := 2) rfl ?_); refine box_event ?hg (N := 2) ?hd (cs := #[.slice A0_0 l0_0.length c0_0, .slice A0_1 l0_1.length c0_1]) (t := 26) ?hr ?_; (case hd => exact (by rfl)); (case hg => exact (by rfl)); (case hr => exact βMb); intro gb566 hg w9 hbox hb; have BK566 := zA_ (hbox); have GW566 := zA_ ((by rw [hg]; exact (below_size (zh_ HB.out)) : w.heap.size ≤ gb566)); have GE566 := zA_ ((by rw [hg]; exact (below_size (zh_ HB.out)) : w.heap.size ≤ gb566)); replace HB := zA_ (below_step (zh_ HB.out) hb); clear hb hbox hg) | ((with_reducible refine gate_dst (N := 4) rfl ?_); refine box_event ?hg (N := 4) ?hd (cs := #[.slice none 0 0, .slice none 0 0, .string (⟨#[]⟩ : ByteArray), .int .i64 0]) (t := 30) ?hr ?_; (case hd => exact (by rfl)); (case hg => exact (by rfl)); (case hr => exact βMb); intro gb567 hg w10 hbox hb; have BK567 := zA_ (hbox); have GW567 := zA_ ((by rw [hg]; exact (below_size (zg1_ HB.out GE566.out)) : w.heap.size ≤ gb567)); have GE567 := zA_ ((by rw [hg]; exact (below_size (zg1_ HB.out GE566.out)) : w.heap.size ≤ gb567)); replace HB := zA_ (below_step (zg1_ HB.out GE566.out) hb); have NB566_567 := zA_ ((by rw [hg]; exact Nat.ne_of_lt (blk_lt (g := gb566) (o := .cells #[.slice A0_0 l0_0.length c0_0, .slice A0_1 l0_1.length c0_1] 26 (0, 0)) (zb_ BK566.out)) : gb566 ≠ gb567)); have NB567_566 := zA_ ((by rw [hg]; exact Nat.ne_of_gt (blk_lt (g := gb566) (o := .cells #[.slice A0_0 l0_0.length c0_0, .slice A0_1 l0_1.length c0_1] 26 (0, 0)) (zb_ BK566.out)) : gb567 ≠ gb566)); replace BK566 := zB_ BK566.out hb; clear hb hbox hg; have hnb11 := NB566_567.out; have hnc11 := NB567_566.out; have hcz12_0 := cz_ BK566.out 0 (.slice A0_0 l0_0.length c0_0) rfl; have hcz12_1 := cz_ BK566.out 1 (.slice A0_1 l0_1.length c0_1) rfl; have hfz12_0 := blk_frozen BK566.out 0; have hfz12_1 := blk_frozen BK566.out 1) | ((with_reducible refine gate_callee (f := 25) rfl ?_); refine goesL_ (some 6) rfl rfl Try.func25 βPb rfl #[.agg #[.slice A0_0 l0_0.length c0_0, .slice A0_1 l0_1.length c0_1]] rfl zs_ ?_; (with_reducible refine (spec_FlashRight.calls k _ _ l0_0 _ _ l0_1 true _ ?side1 ?side2 ?side3 ?side4 A3.out).mono ?_); (case side1 => exact zc_ (Kd.C_below HR0_0.out HB.out)); (case side2 => exact HC0_0.out); (case side3 => exact zc_ (Kd.C_below HR0_1.out HB.out)); (case side4 => exact HC0_1.out); rintro e w13 ⟨rfl, hb⟩; refine ⟨_, rfl, ?_⟩; replace BK566 := zB_ BK566.out hb; replace BK567 := zB_ BK567.out hb; replace HB := zA_ (below_step (zg2_ HB.out GE566.out GE567.out) hb); (try clear hb); (try clear hb2); (try clear hk); (try clear hi); have hcz14_0 := cz_ BK566.out 0 (.slice A0_0 l0_0.length c0_0) rfl; have hcz14_1 := cz_ BK566.out 1 (.slice A0_1 l0_1.length c0_1) rfl; have hfz14_0 := blk_frozen BK566.out 0; have hfz14_1 := blk_frozen BK566.out 1) | ((with_reducible refine gate_callee (f := 57) rfl ?_); refine goesL_ (some 14) rfl rfl Try.func57 βPb rfl #[.int .i64 a1, .int .i64 0, .int .i64 (wrap64 ((l0_0.length : Int) - 1))] rfl zs_ ?_; (with_reducible refine (spec_l03Is.calls a1 0 (wrap64 ((l0_0.length : Int) - 1)) true _ A5.out).mono ?_); rintro e w' ⟨rfl, ⟨nd, rfl⟩⟩; refine ⟨_, rfl, ?_⟩; (try (rw [drewN_self w13]; generalize hq_ : World.drewN w13 _ = w13; replace BK566 : Aside0 (w13.heap[gb566]? = some (.cells #[.slice A0_0 l0_0.length c0_0, .slice A0_1 l0_1.length c0_1] 26 (0, 0))) := ⟨(by rw [← hq_]; exact (zb_ BK566.out))⟩; replace BK567 : Aside0 (w13.heap[gb567]? = some (.cells #[.slice none 0 0, .slice none 0 0, .string (⟨#[]⟩ : ByteArray), .int .i64 0] 30 (0, 0))) := ⟨(by rw [← hq_]; exact (zb_ BK567.out))⟩; replace HB : Aside0 (Below w.heap.size w w13) := ⟨(by rw [← hq_]; exact (zg2_ HB.out GE566.out GE567.out))⟩; clear hq_))))
     replace BK566 := zA_ (blk_drew BK566.out)
     replace BK567 := zA_ (blk_drew BK567.out)
     replace HB := zA_ (below_drew1 HB.out)
     refine start_ (n := 7) (S := fun w' => w'.cell? ⟨gb566, 0, none⟩ = some (.slice A0_0 l0_0.length c0_0) ∧ w'.cell? ⟨gb566, 1, none⟩ = some (.slice A0_1 l0_1.length c0_1)) (ds := []) #[false, false, false, false, false, false, false] βPb rfl rfl ⟨cy_ BK566.out 0, cy_ BK566.out 1⟩ (fun hHeld => ?_)
     generalize w13.drew = w15 at BK566 BK567 HB hHeld ⊢
     refine pure_ (i := 3) (N := some 20) (v := ?_) (a' := ?_) #[false, false, false, true, false, false, false] rfl rfl βPb (fun _ _ _ h => h) (Or.inl ⟨(by rfl), ?_⟩) ?_ ?_
     rotate_left; exact pv_; rotate_left; exact pp_
     refine take_ (i := 0) (N := some 17) (v := ?_) (a' := ?_) #[true, false, false, true, false, false, false] rfl rfl βPb (fun _ _ _ h => h) (Or.inl ⟨(by rfl), ?_⟩) hHeld ?_ ?_
     rotate_left
     · rintro w' ⟨s0, s1⟩
       go_simp
       with_reducible rfl
     rotate_left
     exact pp_
     refine take_ (i := 2) (N := some 19) (v := ?_) (a' := ?_) #[true, false, true, true, false, false, false] rfl rfl βPb (fun _ _ _ h => h) (Or.inl ⟨(by rfl), ?_⟩) hHeld ?_ ?_
     rotate_left
     · rintro w' ⟨s0, s1⟩
       go_simp
       with_reducible rfl
     rotate_left
     exact pp_
     refine one_ (i := 1) (N := some 18) #[true, true, true, true, false, false, false] rfl rfl βPb (by decide) (fun K hK => ?_)
     refine goes_ Try.func60 βPb rfl #[.agg #[.slice A0_0 l0_0.length c0_0, .slice A0_1 l0_1.length c0_1]] (by rfl) rfl rfl zs_ ?_
     with_reducible refine (spec_l03Copy.calls _ _ l0_0 _ _ l0_1 t578 t581 _ ?side1 ?side2 ?side3 ?side4 A7.out).mono ?_
     (case side1 => exact zc_ (Kd.C_below HR0_0.out HB.out))
     (case side2 => exact HC0_0.out)
     (case side3 => exact zc_ (Kd.C_below HR0_1.out HB.out))
     (case side4 => exact HC0_1.out)
     rintro e w16 ⟨v579, v582, rfl, ho0, ho1, hb⟩
     refine ⟨_, rfl, ?_⟩
     have HO580 := zA_ (Kd.R_lower ho0 (below_size (zg2_ HB.out GE566.out GE567.out)))
     have HO583 := zA_ (Kd.R_lower ho1 (below_size (zg2_ HB.out GE566.out GE567.out)))
     replace BK566 := zB_ BK566.out hb
     replace BK567 := zB_ BK567.out hb
     replace HB := zA_ (below_step (zg2_ HB.out GE566.out GE567.out) hb)
     (try clear hb)
     (try clear hb2)
     (try clear hk)
     (try clear hi)
     (try clear ho0)
     (try clear ho1)
     refine hK.out _ _ ⟨cy_ BK566.out 0, cy_ BK566.out 1⟩ (fun hHeld => ?_)
     clear hK K
     refine norm_ (a' := ?_) ?_ ?_
     rotate_left
     · show Act.put _ (some 18) _ = _
       simp only [Act.put, List.setIfInBounds_toArray, List.set_cons_zero, List.set_cons_succ, i64_w, i32_w]
       rfl
     refine one_ (i := 4) (N := some 21) #[true, true, true, true, true, false, false] rfl rfl βPb (by decide) (fun K hK => ?_)
     refine goes_ Try.func63 βPb rfl #[.agg #[.slice A0_0 l0_0.length c0_0, .slice A0_1 l0_1.length c0_1], .int .i64 a1] (by rfl) rfl rfl zs_ ?_
     with_reducible refine (spec_l03Get.calls k _ _ l0_0 _ _ l0_1 a1 t584 _ ?side1 ?side2 ?side3 ?side4 A8.out).mono ?_
     (case side1 => exact zc_ (Kd.C_below HR0_0.out HB.out))
     (case side2 => exact HC0_0.out)
     (case side3 => exact zc_ (Kd.C_below HR0_1.out HB.out))
     (case side4 => exact HC0_1.out)
     rintro e w17 ⟨rfl, hb⟩
     refine ⟨_, rfl, ?_⟩
     replace HO580 := zR_ HO580.out hb
     replace HO583 := zR_ HO583.out hb
     replace BK566 := zB_ BK566.out hb
     replace BK567 := zB_ BK567.out hb
     replace HB := zA_ (below_step (zg2_ HB.out GE566.out GE567.out) hb)
     (try clear hb)
     (try clear hb2)
     (try clear hk)
     (try clear hi)
     obtain ⟨Ao18, co18, eo18⟩ := Kd.R_slice HO583.out
     (first | subst eo18 | (injection eo18 with f1_ f2_ f3_; have f4_ := f1_.symm; have f5_ := f3_.symm; clear f1_ f2_ f3_; subst f4_; subst f5_))
     obtain ⟨Ao19, co19, eo19⟩ := Kd.R_slice HO580.out
     (first | subst eo19 | (injection eo19 with f1_ f2_ f3_; have f4_ := f1_.symm; have f5_ := f3_.symm; clear f1_ f2_ f3_; subst f4_; subst f5_))
     refine hK.out _ _ ⟨cy_ BK566.out 0, cy_ BK566.out 1⟩ (fun hHeld => ?_)
     clear hK K
     refine norm_ (a' := ?_) ?_ ?_
     rotate_left
     · show Act.put _ (some 21) _ = _
       simp only [Act.put, List.setIfInBounds_toArray, List.set_cons_zero, List.set_cons_succ, i64_w, i32_w]
       rfl
     refine pure_ (i := 5) (N := some 22) (v := ?_) (a' := ?_) #[true, true, true, true, true, true, false] rfl rfl βPb (fun _ _ _ h => h) (Or.inl ⟨(by rfl), ?_⟩) ?_ ?_
     rotate_left; exact pv_; rotate_left; exact pp_
     refine one_ (i := 6) (N := none) #[true, true, true, true, true, true, true] rfl rfl βPb (by decide) (fun K hK => ?_)
     have hs20 := cz_ BK567.out 0 (.slice none 0 0) rfl
     have hfs20 := blk_frozen BK567.out 0
     have hns20_0 := NB566_567.out
     have hms20_0 := NB567_566.out
     have hs21 := cz_ BK567.out 1 (.slice none 0 0) rfl
     have hfs21 := blk_frozen BK567.out 1
     have hns21_0 := NB566_567.out
     have hms21_0 := NB567_566.out
     have hs22 := cz_ BK567.out 2 (.string (⟨#[]⟩ : ByteArray)) rfl
     have hfs22 := blk_frozen BK567.out 2
     have hns22_0 := NB566_567.out
     have hms22_0 := NB567_566.out
     have hs23 := cz_ BK567.out 3 (.int .i64 0) rfl
     have hfs23 := blk_frozen BK567.out 3
     have hns23_0 := NB566_567.out
     have hms23_0 := NB567_566.out
     refine skip_ (w1 := ?_) (by rfl) rfl ?_ ?_
     rotate_left
     · go_simp
       rfl
     refine hK.out _ _ ⟨((cell_far (p := ⟨gb567, _, none⟩) NB566_567.out _).trans (((cell_far (p := ⟨gb567, _, none⟩) NB566_567.out _).trans (((cell_far (p := ⟨gb567, _, none⟩) NB566_567.out _).trans (((cell_far (p := ⟨gb567, _, none⟩) NB566_567.out _).trans (hHeld.1)))))))), ((cell_far (p := ⟨gb567, _, none⟩) NB566_567.out _).trans (((cell_far (p := ⟨gb567, _, none⟩) NB566_567.out _).trans (((cell_far (p := ⟨gb567, _, none⟩) NB566_567.out _).trans (((cell_far (p := ⟨gb567, _, none⟩) NB566_567.out _).trans (hHeld.2))))))))⟩ (fun hHeld => ?_)
     clear hK K
     refine done_ βPb ?_
     try go_wp2
     refine bodyPost_ret (results_cell_row rfl _ _ gb567 30 #[.slice Ao19 t578.length co19, .slice Ao18 t581.length co18, .string t584, .int .i64 0] (0, 0) _ rfl (by (with_reducible repeat (first | refine blk_drewN ?_ _ | refine blk_drew ?_ | refine blk_alloc ?_ _)); refine blk_put (cs := #[.slice Ao19 t578.length co19, .slice Ao18 t581.length co18, .string t584, .int .i64 0]) ?_ 3 _ rfl; (with_reducible repeat (first | refine blk_drewN ?_ _ | refine blk_drew ?_ | refine blk_alloc ?_ _)); refine blk_put (cs := #[.slice Ao19 t578.length co19, .slice Ao18 t581.length co18, .string (⟨#[]⟩ : ByteArray), .int .i64 0]) ?_ 2 _ rfl; (with_reducible repeat (first | refine blk_drewN ?_ _ | refine blk_drew ?_ | refine blk_alloc ?_ _)); refine blk_put (cs := #[.slice Ao19 t578.length co19, .slice none 0 0, .string (⟨#[]⟩ : ByteArray), .int .i64 0]) ?_ 1 _ rfl; (with_reducible repeat (first | refine blk_drewN ?_ _ | refine blk_drew ?_ | refine blk_alloc ?_ _)); refine blk_put (cs := #[.slice none 0 0, .slice none 0 0, .string (⟨#[]⟩ : ByteArray), .int .i64 0]) ?_ 0 _ rfl; (with_reducible repeat (first | refine blk_drewN ?_ _ | refine blk_drew ?_ | refine blk_alloc ?_ _)); exact BK567.out) Try.underlying30 rfl βPb) rfl ?_
     exact ⟨_, _, βFb, (by (with_reducible repeat (first | apply Kd.R_alloc | apply Kd.R_drewN | apply Kd.R_drew)); exact Kd.R_mono (Kd.R_far (p := ⟨gb567, 3, none⟩) (Kd.R_far (p := ⟨gb567, 2, none⟩) (Kd.R_far (p := ⟨gb567, 1, none⟩) (Kd.R_far (p := ⟨gb567, 0, none⟩) (Kd.R_types HO580.out BK567.out (by decide)) (fun _ hk => hk.2) (.slice Ao19 t578.length co19)) (fun _ hk => hk.2) (.slice Ao18 t581.length co18)) (fun _ hk => hk.2) (.string t584)) (fun _ hk => hk.2) (.int .i64 0)) (fun _ hk => trivial)), (by (with_reducible repeat (first | apply Kd.R_alloc | apply Kd.R_drewN | apply Kd.R_drew)); exact Kd.R_mono (Kd.R_far (p := ⟨gb567, 3, none⟩) (Kd.R_far (p := ⟨gb567, 2, none⟩) (Kd.R_far (p := ⟨gb567, 1, none⟩) (Kd.R_far (p := ⟨gb567, 0, none⟩) (Kd.R_types HO583.out BK567.out (by decide)) (fun _ hk => hk.2) (.slice Ao19 t578.length co19)) (fun _ hk => hk.2) (.slice Ao18 t581.length co18)) (fun _ hk => hk.2) (.string t584)) (fun _ hk => hk.2) (.int .i64 0)) (fun _ hk => trivial)), βib⟩
   · replace c6 := Bool.eq_false_iff.mpr c6
     subst c6
     have H1 : ((spec_l03Ill.f 8).bind fun bt585 => (some (bt585.1, bt585.2.1, bt585.2.2.1, bt585.2.2.2))) = some (r1, r2, r3, r4) := by rw [if_neg (show ¬ (false = true) by decide)] at H; exact H
     clear H
     have H := H1
     clear H1
     replace H := Option.bind_eq_some_iff.mp H
     obtain ⟨⟨t585, t588, t591, t592⟩, A240, H⟩ := H
     (try dsimp -simprocs only at H)
     have A24 := zA_ A240
     clear A240
     simp only [Option.some.injEq, Prod.mk.injEq] at H
     obtain ⟨rfl, rfl, rfl, rfl⟩ := H
     go_enter Try.func19, Try.ntmps19
     go_wp2_with (first | ((with_reducible refine gate_dst (N := 2) rfl ?_); refine box_event ?hg (N := 2) ?hd (cs := #[.slice A0_0 l0_0.length c0_0, .slice A0_1 l0_1.length c0_1]) (t := 26) ?hr ?_; (case hd => exact (by rfl)); (case hg => exact (by rfl)); (case hr => exact βMb); intro gb566 hg w25 hbox hb; have BK566 := zA_ (hbox); have GW566 := zA_ ((by rw [hg]; exact (below_size (zh_ HB.out)) : w.heap.size ≤ gb566)); have GE566 := zA_ ((by rw [hg]; exact (below_size (zh_ HB.out)) : w.heap.size ≤ gb566)); replace HB := zA_ (below_step (zh_ HB.out) hb); clear hb hbox hg) | ((with_reducible refine gate_dst (N := 4) rfl ?_); refine box_event ?hg (N := 4) ?hd (cs := #[.slice none 0 0, .slice none 0 0, .string (⟨#[]⟩ : ByteArray), .int .i64 0]) (t := 30) ?hr ?_; (case hd => exact (by rfl)); (case hg => exact (by rfl)); (case hr => exact βMb); intro gb567 hg w26 hbox hb; have BK567 := zA_ (hbox); have GW567 := zA_ ((by rw [hg]; exact (below_size (zg1_ HB.out GE566.out)) : w.heap.size ≤ gb567)); have GE567 := zA_ ((by rw [hg]; exact (below_size (zg1_ HB.out GE566.out)) : w.heap.size ≤ gb567)); replace HB := zA_ (below_step (zg1_ HB.out GE566.out) hb); have NB566_567 := zA_ ((by rw [hg]; exact Nat.ne_of_lt (blk_lt (g := gb566) (o := .cells #[.slice A0_0 l0_0.length c0_0, .slice A0_1 l0_1.length c0_1] 26 (0, 0)) (zb_ BK566.out)) : gb566 ≠ gb567)); have NB567_566 := zA_ ((by rw [hg]; exact Nat.ne_of_gt (blk_lt (g := gb566) (o := .cells #[.slice A0_0 l0_0.length c0_0, .slice A0_1 l0_1.length c0_1] 26 (0, 0)) (zb_ BK566.out)) : gb567 ≠ gb566)); replace BK566 := zB_ BK566.out hb; clear hb hbox hg; have hnb27 := NB566_567.out; have hnc27 := NB567_566.out; have hcz28_0 := cz_ BK566.out 0 (.slice A0_0 l0_0.length c0_0) rfl; have hcz28_1 := cz_ BK566.out 1 (.slice A0_1 l0_1.length c0_1) rfl; have hfz28_0 := blk_frozen BK566.out 0; have hfz28_1 := blk_frozen BK566.out 1) | ((with_reducible refine gate_callee (f := 25) rfl ?_); refine goesL_ (some 6) rfl rfl Try.func25 βPb rfl #[.agg #[.slice A0_0 l0_0.length c0_0, .slice A0_1 l0_1.length c0_1]] rfl zs_ ?_; (with_reducible refine (spec_FlashRight.calls k _ _ l0_0 _ _ l0_1 true _ ?side1 ?side2 ?side3 ?side4 A3.out).mono ?_); (case side1 => exact zc_ (Kd.C_below HR0_0.out HB.out)); (case side2 => exact HC0_0.out); (case side3 => exact zc_ (Kd.C_below HR0_1.out HB.out)); (case side4 => exact HC0_1.out); rintro e w29 ⟨rfl, hb⟩; refine ⟨_, rfl, ?_⟩; replace BK566 := zB_ BK566.out hb; replace BK567 := zB_ BK567.out hb; replace HB := zA_ (below_step (zg2_ HB.out GE566.out GE567.out) hb); (try clear hb); (try clear hb2); (try clear hk); (try clear hi); have hcz30_0 := cz_ BK566.out 0 (.slice A0_0 l0_0.length c0_0) rfl; have hcz30_1 := cz_ BK566.out 1 (.slice A0_1 l0_1.length c0_1) rfl; have hfz30_0 := blk_frozen BK566.out 0; have hfz30_1 := blk_frozen BK566.out 1) | ((with_reducible refine gate_callee (f := 57) rfl ?_); refine goesL_ (some 14) rfl rfl Try.func57 βPb rfl #[.int .i64 a1, .int .i64 0, .int .i64 (wrap64 ((l0_0.length : Int) - 1))] rfl zs_ ?_; (with_reducible refine (spec_l03Is.calls a1 0 (wrap64 ((l0_0.length : Int) - 1)) false _ A5.out).mono ?_); rintro e w' ⟨rfl, ⟨nd, rfl⟩⟩; refine ⟨_, rfl, ?_⟩; (try (rw [drewN_self w29]; generalize hq_ : World.drewN w29 _ = w29; replace BK566 : Aside0 (w29.heap[gb566]? = some (.cells #[.slice A0_0 l0_0.length c0_0, .slice A0_1 l0_1.length c0_1] 26 (0, 0))) := ⟨(by rw [← hq_]; exact (zb_ BK566.out))⟩; replace BK567 : Aside0 (w29.heap[gb567]? = some (.cells #[.slice none 0 0, .slice none 0 0, .string (⟨#[]⟩ : ByteArray), .int .i64 0] 30 (0, 0))) := ⟨(by rw [← hq_]; exact (zb_ BK567.out))⟩; replace HB : Aside0 (Below w.heap.size w w29) := ⟨(by rw [← hq_]; exact (zg2_ HB.out GE566.out GE567.out))⟩; clear hq_))) | ((with_reducible refine gate_callee (f := 56) rfl ?_); refine goesL_ (some 16) rfl rfl Try.func56 βPb rfl #[.int .i64 8] rfl zs_ ?_; (with_reducible refine (spec_l03Ill.calls 8 t585 t588 t591 t592 _ A24.out).mono ?_); rintro e w31 ⟨v586, v589, rfl, ho0, ho1, hb⟩; refine ⟨_, rfl, ?_⟩; have HO587 := zA_ (Kd.R_lower ho0 (below_size (zg2_ HB.out GE566.out GE567.out))); have HO590 := zA_ (Kd.R_lower ho1 (below_size (zg2_ HB.out GE566.out GE567.out))); replace BK566 := zB_ BK566.out hb; replace BK567 := zB_ BK567.out hb; replace HB := zA_ (below_step (zg2_ HB.out GE566.out GE567.out) hb); (try clear hb); (try clear hb2); (try clear hk); (try clear hi); (try clear ho0); (try clear ho1); obtain ⟨Ao32, co32, eo32⟩ := Kd.R_slice HO587.out; subst eo32; have hcz33_0 := cz_ BK567.out 0 (.slice none 0 0) rfl; have hcz33_1 := cz_ BK567.out 1 (.slice none 0 0) rfl; have hcz33_2 := cz_ BK567.out 2 (.string (⟨#[]⟩ : ByteArray)) rfl; have hcz33_3 := cz_ BK567.out 3 (.int .i64 0) rfl; have hfz33_0 := blk_frozen BK567.out 0; have hfz33_1 := blk_frozen BK567.out 1; have hfz33_2 := blk_frozen BK567.out 2; have hfz33_3 := blk_frozen BK567.out 3; obtain ⟨Ao34, co34, eo34⟩ := Kd.R_slice HO590.out; subst eo34))
     refine bodyPost_ret (results_cell_row rfl _ _ gb567 30 #[.slice Ao32 t585.length co32, .slice Ao34 t588.length co34, .string t591, .int .i64 t592] (0, 0) _ rfl (by (with_reducible repeat (first | refine blk_drewN ?_ _ | refine blk_drew ?_ | refine blk_alloc ?_ _)); refine blk_put (cs := #[.slice Ao32 t585.length co32, .slice Ao34 t588.length co34, .string t591, .int .i64 0]) ?_ 3 _ rfl; (with_reducible repeat (first | refine blk_drewN ?_ _ | refine blk_drew ?_ | refine blk_alloc ?_ _)); refine blk_put (cs := #[.slice Ao32 t585.length co32, .slice Ao34 t588.length co34, .string (⟨#[]⟩ : ByteArray), .int .i64 0]) ?_ 2 _ rfl; (with_reducible repeat (first | refine blk_drewN ?_ _ | refine blk_drew ?_ | refine blk_alloc ?_ _)); refine blk_put (cs := #[.slice Ao32 t585.length co32, .slice none 0 0, .string (⟨#[]⟩ : ByteArray), .int .i64 0]) ?_ 1 _ rfl; (with_reducible repeat (first | refine blk_drewN ?_ _ | refine blk_drew ?_ | refine blk_alloc ?_ _)); refine blk_put (cs := #[.slice none 0 0, .slice none 0 0, .string (⟨#[]⟩ : ByteArray), .int .i64 0]) ?_ 0 _ rfl; (with_reducible repeat (first | refine blk_drewN ?_ _ | refine blk_drew ?_ | refine blk_alloc ?_ _)); exact BK567.out) Try.underlying30 rfl βPb) rfl ?_
     exact ⟨_, _, βFb, (by (with_reducible repeat (first | apply Kd.R_alloc | apply Kd.R_drewN | apply Kd.R_drew)); exact Kd.R_mono (Kd.R_far (p := ⟨gb567, 3, none⟩) (Kd.R_far (p := ⟨gb567, 2, none⟩) (Kd.R_far (p := ⟨gb567, 1, none⟩) (Kd.R_far (p := ⟨gb567, 0, none⟩) (Kd.R_types HO587.out BK567.out (by decide)) (fun _ hk => hk.2) (.slice Ao32 t585.length co32)) (fun _ hk => hk.2) (.slice Ao34 t588.length co34)) (fun _ hk => hk.2) (.string t591)) (fun _ hk => hk.2) (.int .i64 t592)) (fun _ hk => trivial)), (by (with_reducible repeat (first | apply Kd.R_alloc | apply Kd.R_drewN | apply Kd.R_drew)); exact Kd.R_mono (Kd.R_far (p := ⟨gb567, 3, none⟩) (Kd.R_far (p := ⟨gb567, 2, none⟩) (Kd.R_far (p := ⟨gb567, 1, none⟩) (Kd.R_far (p := ⟨gb567, 0, none⟩) (Kd.R_types HO590.out BK567.out (by decide)) (fun _ hk => hk.2) (.slice Ao32 t585.length co32)) (fun _ hk => hk.2) (.slice Ao34 t588.length co34)) (fun _ hk => hk.2) (.string t591)) (fun _ hk => hk.2) (.int .i64 t592)) (fun _ hk => trivial)), βib⟩
 · replace c4 := Bool.eq_false_iff.mpr c4
   subst c4
   have H1 : ((spec_l03Ill.f 1).bind fun bt569 => (some (bt569.1, bt569.2.1, bt569.2.2.1, bt569.2.2.2))) = some (r1, r2, r3, r4) := by rw [if_neg (show ¬ (false = true) by decide)] at H; exact H
   clear H
   have H := H1
   clear H1
   replace H := Option.bind_eq_some_iff.mp H
   obtain ⟨⟨t569, t572, t575, t576⟩, A350, H⟩ := H
   (try dsimp -simprocs only at H)
   have A35 := zA_ A350
   clear A350
   simp only [Option.some.injEq, Prod.mk.injEq] at H
   obtain ⟨rfl, rfl, rfl, rfl⟩ := H
   go_enter Try.func19, Try.ntmps19
   go_wp2_with (first | ((with_reducible refine gate_dst (N := 2) rfl ?_); refine box_event ?hg (N := 2) ?hd (cs := #[.slice A0_0 l0_0.length c0_0, .slice A0_1 l0_1.length c0_1]) (t := 26) ?hr ?_; (case hd => exact (by rfl)); (case hg => exact (by rfl)); (case hr => exact βMb); intro gb566 hg w36 hbox hb; have BK566 := zA_ (hbox); have GW566 := zA_ ((by rw [hg]; exact (below_size (zh_ HB.out)) : w.heap.size ≤ gb566)); have GE566 := zA_ ((by rw [hg]; exact (below_size (zh_ HB.out)) : w.heap.size ≤ gb566)); replace HB := zA_ (below_step (zh_ HB.out) hb); clear hb hbox hg) | ((with_reducible refine gate_dst (N := 4) rfl ?_); refine box_event ?hg (N := 4) ?hd (cs := #[.slice none 0 0, .slice none 0 0, .string (⟨#[]⟩ : ByteArray), .int .i64 0]) (t := 30) ?hr ?_; (case hd => exact (by rfl)); (case hg => exact (by rfl)); (case hr => exact βMb); intro gb567 hg w37 hbox hb; have BK567 := zA_ (hbox); have GW567 := zA_ ((by rw [hg]; exact (below_size (zg1_ HB.out GE566.out)) : w.heap.size ≤ gb567)); have GE567 := zA_ ((by rw [hg]; exact (below_size (zg1_ HB.out GE566.out)) : w.heap.size ≤ gb567)); replace HB := zA_ (below_step (zg1_ HB.out GE566.out) hb); have NB566_567 := zA_ ((by rw [hg]; exact Nat.ne_of_lt (blk_lt (g := gb566) (o := .cells #[.slice A0_0 l0_0.length c0_0, .slice A0_1 l0_1.length c0_1] 26 (0, 0)) (zb_ BK566.out)) : gb566 ≠ gb567)); have NB567_566 := zA_ ((by rw [hg]; exact Nat.ne_of_gt (blk_lt (g := gb566) (o := .cells #[.slice A0_0 l0_0.length c0_0, .slice A0_1 l0_1.length c0_1] 26 (0, 0)) (zb_ BK566.out)) : gb567 ≠ gb566)); replace BK566 := zB_ BK566.out hb; clear hb hbox hg; have hnb38 := NB566_567.out; have hnc38 := NB567_566.out; have hcz39_0 := cz_ BK566.out 0 (.slice A0_0 l0_0.length c0_0) rfl; have hcz39_1 := cz_ BK566.out 1 (.slice A0_1 l0_1.length c0_1) rfl; have hfz39_0 := blk_frozen BK566.out 0; have hfz39_1 := blk_frozen BK566.out 1) | ((with_reducible refine gate_callee (f := 25) rfl ?_); refine goesL_ (some 6) rfl rfl Try.func25 βPb rfl #[.agg #[.slice A0_0 l0_0.length c0_0, .slice A0_1 l0_1.length c0_1]] rfl zs_ ?_; (with_reducible refine (spec_FlashRight.calls k _ _ l0_0 _ _ l0_1 false _ ?side1 ?side2 ?side3 ?side4 A3.out).mono ?_); (case side1 => exact zc_ (Kd.C_below HR0_0.out HB.out)); (case side2 => exact HC0_0.out); (case side3 => exact zc_ (Kd.C_below HR0_1.out HB.out)); (case side4 => exact HC0_1.out); rintro e w40 ⟨rfl, hb⟩; refine ⟨_, rfl, ?_⟩; replace BK566 := zB_ BK566.out hb; replace BK567 := zB_ BK567.out hb; replace HB := zA_ (below_step (zg2_ HB.out GE566.out GE567.out) hb); (try clear hb); (try clear hb2); (try clear hk); (try clear hi)) | ((with_reducible refine gate_callee (f := 56) rfl ?_); refine goesL_ (some 8) rfl rfl Try.func56 βPb rfl #[.int .i64 1] rfl zs_ ?_; (with_reducible refine (spec_l03Ill.calls 1 t569 t572 t575 t576 _ A35.out).mono ?_); rintro e w41 ⟨v570, v573, rfl, ho0, ho1, hb⟩; refine ⟨_, rfl, ?_⟩; have HO571 := zA_ (Kd.R_lower ho0 (below_size (zg2_ HB.out GE566.out GE567.out))); have HO574 := zA_ (Kd.R_lower ho1 (below_size (zg2_ HB.out GE566.out GE567.out))); replace BK566 := zB_ BK566.out hb; replace BK567 := zB_ BK567.out hb; replace HB := zA_ (below_step (zg2_ HB.out GE566.out GE567.out) hb); (try clear hb); (try clear hb2); (try clear hk); (try clear hi); (try clear ho0); (try clear ho1); obtain ⟨Ao42, co42, eo42⟩ := Kd.R_slice HO571.out; subst eo42; have hcz43_0 := cz_ BK567.out 0 (.slice none 0 0) rfl; have hcz43_1 := cz_ BK567.out 1 (.slice none 0 0) rfl; have hcz43_2 := cz_ BK567.out 2 (.string (⟨#[]⟩ : ByteArray)) rfl; have hcz43_3 := cz_ BK567.out 3 (.int .i64 0) rfl; have hfz43_0 := blk_frozen BK567.out 0; have hfz43_1 := blk_frozen BK567.out 1; have hfz43_2 := blk_frozen BK567.out 2; have hfz43_3 := blk_frozen BK567.out 3; obtain ⟨Ao44, co44, eo44⟩ := Kd.R_slice HO574.out; subst eo44))
   refine bodyPost_ret (results_cell_row rfl _ _ gb567 30 #[.slice Ao42 t569.length co42, .slice Ao44 t572.length co44, .string t575, .int .i64 t576] (0, 0) _ rfl (by (with_reducible repeat (first | refine blk_drewN ?_ _ | refine blk_drew ?_ | refine blk_alloc ?_ _)); refine blk_put (cs := #[.slice Ao42 t569.length co42, .slice Ao44 t572.length co44, .string t575, .int .i64 0]) ?_ 3 _ rfl; (with_reducible repeat (first | refine blk_drewN ?_ _ | refine blk_drew ?_ | refine blk_alloc ?_ _)); refine blk_put (cs := #[.slice Ao42 t569.length co42, .slice Ao44 t572.length co44, .string (⟨#[]⟩ : ByteArray), .int .i64 0]) ?_ 2 _ rfl; (with_reducible repeat (first | refine blk_drewN ?_ _ | refine blk_drew ?_ | refine blk_alloc ?_ _)); refine blk_put (cs := #[.slice Ao42 t569.length co42, .slice none 0 0, .string (⟨#[]⟩ : ByteArray), .int .i64 0]) ?_ 1 _ rfl; (with_reducible repeat (first | refine blk_drewN ?_ _ | refine blk_drew ?_ | refine blk_alloc ?_ _)); refine blk_put (cs := #[.slice none 0 0, .slice none 0 0, .string (⟨#[]⟩ : ByteArray), .int .i64 0]) ?_ 0 _ rfl; (with_reducible repeat (first | refine blk_drewN ?_ _ | refine blk_drew ?_ | refine blk_alloc ?_ _)); exact BK567.out) Try.underlying30 rfl βPb) rfl ?_
   exact ⟨_, _, βFb, (by (with_reducible repeat (first | apply Kd.R_alloc | apply Kd.R_drewN | apply Kd.R_drew)); exact Kd.R_mono (Kd.R_far (p := ⟨gb567, 3, none⟩) (Kd.R_far (p := ⟨gb567, 2, none⟩) (Kd.R_far (p := ⟨gb567, 1, none⟩) (Kd.R_far (p := ⟨gb567, 0, none⟩) (Kd.R_types HO571.out BK567.out (by decide)) (fun _ hk => hk.2) (.slice Ao42 t569.length co42)) (fun _ hk => hk.2) (.slice Ao44 t572.length co44)) (fun _ hk => hk.2) (.string t575)) (fun _ hk => hk.2) (.int .i64 t576)) (fun _ hk => trivial)), (by (with_reducible repeat (first | apply Kd.R_alloc | apply Kd.R_drewN | apply Kd.R_drew)); exact Kd.R_mono (Kd.R_far (p := ⟨gb567, 3, none⟩) (Kd.R_far (p := ⟨gb567, 2, none⟩) (Kd.R_far (p := ⟨gb567, 1, none⟩) (Kd.R_far (p := ⟨gb567, 0, none⟩) (Kd.R_types HO574.out BK567.out (by decide)) (fun _ hk => hk.2) (.slice Ao42 t569.length co42)) (fun _ hk => hk.2) (.slice Ao44 t572.length co44)) (fun _ hk => hk.2) (.string t575)) (fun _ hk => hk.2) (.int .i64 t576)) (fun _ hk => trivial)), βib⟩
def impl_FlashNew.f (a0 : Int) : Option (List ByteArray × (List (S83))) := (impl_within.f a0 1 40).bind fun t594 => (if t594 = true then (if 0 ≤ a0 then (if (a0 : Int).toNat ≤ 17592186044416 then (some ((List.replicate (a0 : Int).toNat (⟨#[]⟩ : ByteArray)), ([] : List (S83)))) else (none)) else (none)) else (some (([] : List ByteArray), ([] : List (S83)))))
theorem impl_FlashNew.calls (a0 : Int) (r1 : List ByteArray) (r2 : List (S83)) (w : World) (h : impl_FlashNew.f a0 = some (r1, r2)) :
 Calls Try.prog 20 #[.int .i64 a0] w fun e w' => ∃ v0_ v1_ : Value, e = .returned (.agg #[v0_, v1_]) ∧ Kd.R Kd.string 9 w' w.heap.size (fun _ => True) v0_ r1 ∧ Kd.R k83 83 w' w.heap.size (fun _ => True) v1_ r2 ∧ Below w.heap.size w w' := by
 have hu26 := Try.underlying26
 have HB := zA_ (Below.refl w.heap.size w)
 have H : ((impl_within.f a0 1 40).bind fun t594 => (if t594 = true then (if 0 ≤ a0 then (if (a0 : Int).toNat ≤ 17592186044416 then (some ((List.replicate (a0 : Int).toNat (⟨#[]⟩ : ByteArray)), ([] : List (S83)))) else (none)) else (none)) else (some (([] : List ByteArray), ([] : List (S83)))))) = some (r1, r2) := h
 clear h
 replace H := Option.bind_eq_some_iff.mp H
 obtain ⟨t594, A20, H⟩ := H
 (try dsimp -simprocs only at H)
 have A2 := zA_ A20
 clear A20
 by_cases c3 : t594 = true
 · subst c3
   have H1 : (if 0 ≤ a0 then (if (a0 : Int).toNat ≤ 17592186044416 then (some ((List.replicate (a0 : Int).toNat (⟨#[]⟩ : ByteArray)), ([] : List (S83)))) else (none)) else (none)) = some (r1, r2) := by rw [if_pos rfl] at H; exact H
   clear H
   have H := H1
   clear H1
   by_cases c4 : 0 ≤ a0
   · rw [if_pos c4] at H
     have c4b0 := eq_true c4
     have c4b1 : decide (0 ≤ a0) = true := decide_eq_true c4
     clear c4
     by_cases c5 : (a0 : Int).toNat ≤ 17592186044416
     · rw [if_pos c5] at H
       have c5b0 := eq_true c5
       have c5b1 : decide ((a0 : Int).toNat ≤ 17592186044416) = true := decide_eq_true c5
       clear c5
       obtain ⟨y595, hy595⟩ : ∃ y_ : List ByteArray, y_ = (List.replicate (a0 : Int).toNat (⟨#[]⟩ : ByteArray)) := ⟨_, rfl⟩
       replace H : (some (y595, ([] : List (S83)))) = some (r1, r2) := by first | (rw [hy595]; with_reducible exact H) | (have H2_ := (Option.bind_some _ _).symm.trans H; rw [hy595]; with_reducible exact H2_) | (have H2_ := (Option.bind_some _ _).symm.trans H; with_reducible exact H2_) | with_reducible exact H | (rw [hy595]; exact H) | exact H
       have Ny595 := zA_ hy595
       clear hy595
       simp only [Option.some.injEq, Prod.mk.injEq] at H
       obtain ⟨rfl, rfl⟩ := H
       go_enter Try.func20, Try.ntmps20
       go_wp2_with (first | ((with_reducible refine gate_dst (N := 2) rfl ?_); refine box_event ?hg (N := 2) ?hd (cs := #[.slice none 0 0, .slice none 0 0]) (t := 26) ?hr ?_; (case hd => exact (by rfl)); (case hg => exact (by rfl)); (case hr => exact βMb); intro gb593 hg w6 hbox hb; have BK593 := zA_ (hbox); have GW593 := zA_ ((by rw [hg]; exact (below_size (zh_ HB.out)) : w.heap.size ≤ gb593)); have GE593 := zA_ ((by rw [hg]; exact (below_size (zh_ HB.out)) : w.heap.size ≤ gb593)); replace HB := zA_ (below_step (zh_ HB.out) hb); clear hb hbox hg) | ((with_reducible refine gate_callee (f := 64) rfl ?_); refine goesL_ (some 4) rfl rfl Try.func64 βPb rfl #[.int .i64 a0, .int .i64 1, .int .i64 40] rfl zs_ ?_; (with_reducible refine (impl_within.calls a0 1 40 true _ A2.out).mono ?_); rintro e w' ⟨rfl, ⟨nd, rfl⟩⟩; refine ⟨_, rfl, ?_⟩; (try (rw [drewN_self w6]; generalize hq_ : World.drewN w6 _ = w6; replace BK593 : Aside0 (w6.heap[gb593]? = some (.cells #[.slice none 0 0, .slice none 0 0] 26 (0, 0))) := ⟨(by rw [← hq_]; exact (zb_ BK593.out))⟩; replace HB : Aside0 (Below w.heap.size w w6) := ⟨(by rw [← hq_]; exact (zg1_ HB.out GE593.out))⟩; clear hq_))) | ((with_reducible refine gate_dst (N := 8) rfl ?_); refine Kd.R_make Kd.string _ 9 rfl (N := 8) rfl 23 _ _ rfl a0 rfl rfl Try.underlying23 (.string ⟨#[]⟩) 16 info9 rfl (by decide) (by omega) (⟨#[]⟩ : ByteArray) (ok := fun _ => True) (okp := fun _ => True) rfl (fun _ hk => hk) trivial (of_decide_eq_true βKb) (Nat.le_trans (Nat.mul_le_mul_right _ (of_decide_eq_true βKb : a0.toNat ≤ 17592186044416)) (by omega)) (Below.refl _ _) (Nat.le_refl _) ?_; intro v596 w7 ho8 hb hg_ hnew_; clear hg_ hnew_; (first | rw [← Ny595.out] at ho8 | (simp only [Int.reduceToNat] at ho8; rw [← Ny595.out] at ho8)); have HO597 := zA_ (Kd.R_lower ho8 (below_size (zg1_ HB.out GE593.out))); replace BK593 := zB_ BK593.out hb; replace HB := zA_ (below_step (zg1_ HB.out GE593.out) hb); clear hb ho8; obtain ⟨Ao9, co9, eo9⟩ := Kd.R_slice HO597.out; subst eo9; have hcz10_0 := cz_ BK593.out 0 (.slice none 0 0) rfl; have hcz10_1 := cz_ BK593.out 1 (.slice none 0 0) rfl; have hfz10_0 := blk_frozen BK593.out 0; have hfz10_1 := blk_frozen BK593.out 1))
       refine bodyPost_ret (results_cell_row rfl _ _ gb593 26 #[.slice Ao9 y595.length co9, .slice none 0 0] (0, 0) _ rfl (by (with_reducible repeat (first | refine blk_drewN ?_ _ | refine blk_drew ?_ | refine blk_alloc ?_ _)); refine blk_put (cs := #[.slice Ao9 y595.length co9, .slice none 0 0]) ?_ 1 _ rfl; (with_reducible repeat (first | refine blk_drewN ?_ _ | refine blk_drew ?_ | refine blk_alloc ?_ _)); refine blk_put (cs := #[.slice none 0 0, .slice none 0 0]) ?_ 0 _ rfl; (with_reducible repeat (first | refine blk_drewN ?_ _ | refine blk_drew ?_ | refine blk_alloc ?_ _)); exact BK593.out) Try.underlying26 rfl βPb) rfl ?_
       exact ⟨_, _, βFb, (by (with_reducible repeat (first | apply Kd.R_alloc | apply Kd.R_drewN | apply Kd.R_drew)); exact Kd.R_mono (Kd.R_far (p := ⟨gb593, 1, none⟩) (Kd.R_far (p := ⟨gb593, 0, none⟩) (Kd.R_types HO597.out BK593.out (by decide)) (fun _ hk => hk.2) (.slice Ao9 y595.length co9)) (fun _ hk => hk.2) (.slice none 0 0)) (fun _ hk => trivial)), βBb, βxb⟩
     · rw [if_neg c5] at H
       exact absurd H (by simp)
   · rw [if_neg c4] at H
     exact absurd H (by simp)
 · replace c3 := Bool.eq_false_iff.mpr c3
   subst c3
   have H1 : (some (([] : List ByteArray), ([] : List (S83)))) = some (r1, r2) := by rw [if_neg (show ¬ (false = true) by decide)] at H; exact H
   clear H
   have H := H1
   clear H1
   simp only [Option.some.injEq, Prod.mk.injEq] at H
   obtain ⟨rfl, rfl⟩ := H
   go_enter Try.func20, Try.ntmps20
   go_wp2_with (first | ((with_reducible refine gate_dst (N := 2) rfl ?_); refine box_event ?hg (N := 2) ?hd (cs := #[.slice none 0 0, .slice none 0 0]) (t := 26) ?hr ?_; (case hd => exact (by rfl)); (case hg => exact (by rfl)); (case hr => exact βMb); intro gb593 hg w11 hbox hb; have BK593 := zA_ (hbox); have GW593 := zA_ ((by rw [hg]; exact (below_size (zh_ HB.out)) : w.heap.size ≤ gb593)); have GE593 := zA_ ((by rw [hg]; exact (below_size (zh_ HB.out)) : w.heap.size ≤ gb593)); replace HB := zA_ (below_step (zh_ HB.out) hb); clear hb hbox hg) | ((with_reducible refine gate_callee (f := 64) rfl ?_); refine goesL_ (some 4) rfl rfl Try.func64 βPb rfl #[.int .i64 a0, .int .i64 1, .int .i64 40] rfl zs_ ?_; (with_reducible refine (impl_within.calls a0 1 40 false _ A2.out).mono ?_); rintro e w' ⟨rfl, ⟨nd, rfl⟩⟩; refine ⟨_, rfl, ?_⟩; (try (rw [drewN_self w11]; generalize hq_ : World.drewN w11 _ = w11; replace BK593 : Aside0 (w11.heap[gb593]? = some (.cells #[.slice none 0 0, .slice none 0 0] 26 (0, 0))) := ⟨(by rw [← hq_]; exact (zb_ BK593.out))⟩; replace HB : Aside0 (Below w.heap.size w w11) := ⟨(by rw [← hq_]; exact (zg1_ HB.out GE593.out))⟩; clear hq_)); have hcz12_0 := cz_ BK593.out 0 (.slice none 0 0) rfl; have hcz12_1 := cz_ BK593.out 1 (.slice none 0 0) rfl; have hfz12_0 := blk_frozen BK593.out 0; have hfz12_1 := blk_frozen BK593.out 1))
   refine bodyPost_ret (results_cell_row rfl _ _ gb593 26 #[.slice none 0 0, .slice none 0 0] (0, 0) _ rfl (by (with_reducible repeat (first | refine blk_drewN ?_ _ | refine blk_drew ?_ | refine blk_alloc ?_ _)); refine blk_put (cs := #[.slice none 0 0, .slice none 0 0]) ?_ 1 _ rfl; (with_reducible repeat (first | refine blk_drewN ?_ _ | refine blk_drew ?_ | refine blk_alloc ?_ _)); refine blk_put (cs := #[.slice none 0 0, .slice none 0 0]) ?_ 0 _ rfl; (with_reducible repeat (first | refine blk_drewN ?_ _ | refine blk_drew ?_ | refine blk_alloc ?_ _)); exact BK593.out) Try.underlying26 rfl βPb) rfl ?_
   exact ⟨_, _, βFb, βBb, βBb, βxb⟩
def impl_Torn.f (a0 : ByteArray) (a1 : ByteArray) (a2 : Int) : Option (ByteArray) := if (a0.size : Int) > 8000 then (some (⟨#[]⟩ : ByteArray)) else (if (a1.size : Int) > 8000 then (some (⟨#[]⟩ : ByteArray)) else ((impl_torn.f a0 a1 a2).bind fun t598 => (some t598)))
theorem impl_Torn.calls (a0 : ByteArray) (a1 : ByteArray) (a2 : Int) (r : ByteArray) (w : World) (h : impl_Torn.f a0 a1 a2 = some r) :
 Calls Try.prog 22 #[.string a0, .string a1, .int .i64 a2] w fun e w' => e = .returned (.string r) ∧ Below w.heap.size w w' := by
 have HB := zA_ (Below.refl w.heap.size w)
 have H : (if (a0.size : Int) > 8000 then (some (⟨#[]⟩ : ByteArray)) else (if (a1.size : Int) > 8000 then (some (⟨#[]⟩ : ByteArray)) else ((impl_torn.f a0 a1 a2).bind fun t598 => (some t598)))) = some r := h
 clear h
 by_cases c4 : (a0.size : Int) > 8000
 · rw [if_pos c4] at H
   have c4b0 : decide (8000 < (a0.size : Int)) = true := decide_eq_true c4
   have c4b1 : decide (8000 < a0.size) = true := decide_eq_true (by omega)
   clear c4
   obtain rfl := Option.some.inj H
   go_enter Try.func22, Try.ntmps22
   go_wp2
   go_ret
   exact ⟨βFb, βCb⟩
 · rw [if_neg c4] at H
   have c4b0 : decide (8000 < (a0.size : Int)) = false := decide_eq_false c4
   have c4b1 : decide (8000 < a0.size) = false := decide_eq_false (by omega)
   clear c4
   by_cases c5 : (a1.size : Int) > 8000
   · rw [if_pos c5] at H
     have c5b0 : decide (8000 < (a1.size : Int)) = true := decide_eq_true c5
     have c5b1 : decide (8000 < a1.size) = true := decide_eq_true (by omega)
     clear c5
     obtain rfl := Option.some.inj H
     go_enter Try.func22, Try.ntmps22
     go_wp2
     go_ret
     exact ⟨βFb, βCb⟩
   · rw [if_neg c5] at H
     have c5b0 : decide (8000 < (a1.size : Int)) = false := decide_eq_false c5
     have c5b1 : decide (8000 < a1.size) = false := decide_eq_false (by omega)
     clear c5
     replace H := Option.bind_eq_some_iff.mp H
     obtain ⟨t598, A60, H⟩ := H
     (try dsimp -simprocs only at H)
     have A6 := zA_ A60
     clear A60
     obtain rfl := Option.some.inj H
     go_enter Try.func22, Try.ntmps22
     go_wp2_with (first | ((with_reducible refine gate_callee (f := 65) rfl ?_); refine goesL_ (some 18) rfl rfl Try.func65 βPb rfl #[.string a0, .string a1, .int .i64 a2] rfl zs_ ?_; (with_reducible refine (impl_torn.calls a0 a1 a2 t598 _ A6.out).mono ?_); rintro e w7 ⟨rfl, hb⟩; refine ⟨_, rfl, ?_⟩; replace HB := zA_ (below_step (zh_ HB.out) hb); (try clear hb); (try clear hb2); (try clear hk); (try clear hi)))
     go_ret
     exact ⟨βFb, βCb⟩
def impl_FlashRight.f (l0_0 : List ByteArray) (l0_1 : List (S83)) : Option (Bool) := (impl_isFlash.f l0_0 l0_1).bind fun t600 => (some t600)
theorem impl_FlashRight.calls (A0_0 : Option Addr) (c0_0 : Nat) (l0_0 : List ByteArray) (A0_1 : Option Addr) (c0_1 : Nat) (l0_1 : List (S83)) (r : Bool) (w : World) (hr0_0 : Kd.C Kd.string w A0_0 l0_0.length l0_0) (hc0_0 : l0_0.length ≤ c0_0) (hr0_1 : Kd.C k83 w A0_1 l0_1.length l0_1) (hc0_1 : l0_1.length ≤ c0_1) (h : impl_FlashRight.f l0_0 l0_1 = some r) :
 Calls Try.prog 24 #[.agg #[.slice A0_0 l0_0.length c0_0, .slice A0_1 l0_1.length c0_1]] w fun e w' => e = .returned (.bool r) ∧ Below w.heap.size w w' := by
 have hu26 := Try.underlying26
 have HR0_0 := zA_ hr0_0
 have HC0_0 := zA_ hc0_0
 clear hr0_0 hc0_0
 have HR0_1 := zA_ hr0_1
 have HC0_1 := zA_ hc0_1
 clear hr0_1 hc0_1
 have HB := zA_ (Below.refl w.heap.size w)
 have H : ((impl_isFlash.f l0_0 l0_1).bind fun t600 => (some t600)) = some r := h
 clear h
 replace H := Option.bind_eq_some_iff.mp H
 obtain ⟨t600, A20, H⟩ := H
 (try dsimp -simprocs only at H)
 have A2 := zA_ A20
 clear A20
 obtain rfl := Option.some.inj H
 go_enter Try.func24, Try.ntmps24
 go_wp2_with (first | ((with_reducible refine gate_dst (N := 1) rfl ?_); refine box_event ?hg (N := 1) ?hd (cs := #[.slice A0_0 l0_0.length c0_0, .slice A0_1 l0_1.length c0_1]) (t := 26) ?hr ?_; (case hd => exact (by rfl)); (case hg => exact (by rfl)); (case hr => exact βMb); intro gb599 hg w3 hbox hb; have BK599 := zA_ (hbox); have GW599 := zA_ ((by rw [hg]; exact (below_size (zh_ HB.out)) : w.heap.size ≤ gb599)); have GE599 := zA_ ((by rw [hg]; exact (below_size (zh_ HB.out)) : w.heap.size ≤ gb599)); replace HB := zA_ (below_step (zh_ HB.out) hb); clear hb hbox hg; have hcz4_0 := cz_ BK599.out 0 (.slice A0_0 l0_0.length c0_0) rfl; have hcz4_1 := cz_ BK599.out 1 (.slice A0_1 l0_1.length c0_1) rfl; have hfz4_0 := blk_frozen BK599.out 0; have hfz4_1 := blk_frozen BK599.out 1) | ((with_reducible refine gate_callee (f := 48) rfl ?_); refine goesL_ (some 4) rfl rfl Try.func48 βPb rfl #[.agg #[.slice A0_0 l0_0.length c0_0, .slice A0_1 l0_1.length c0_1]] rfl zs_ ?_; (with_reducible refine (impl_isFlash.calls _ _ l0_0 _ _ l0_1 t600 _ ?side1 ?side2 ?side3 ?side4 A2.out).mono ?_); (case side1 => exact zc_ (Kd.C_below HR0_0.out HB.out)); (case side2 => exact HC0_0.out); (case side3 => exact zc_ (Kd.C_below HR0_1.out HB.out)); (case side4 => exact HC0_1.out); rintro e w5 ⟨rfl, hb⟩; refine ⟨_, rfl, ?_⟩; replace BK599 := zB_ BK599.out hb; replace HB := zA_ (below_step (zg1_ HB.out GE599.out) hb); (try clear hb); (try clear hb2); (try clear hk); (try clear hi)))
 go_ret
 exact ⟨βFb, (by repeat (first | (with_reducible first | exact HB.out | apply below_alloc | apply pw_below_drewN | apply below_drew1 | refine below_set ?_ GE599.out) | exact HB.out))⟩
end Go.Proofs.Ytboobfpmmaaogaa.Q
