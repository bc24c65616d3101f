/- For each Go function that the laws of this text reach: a Lean function, and the proof that the Go function returns what the Lean function tells, wherever it tells some value. Written by a program of this session. -/
import Derived.Test.YtibnmnkembbgeaaKFnExactMetaActs0
import Derived.Test.YtibnmnkembbgeaaKFnExactMetaActs2
import Derived.Test.YtibnmnkembbgeaaKFnExactMetaActs5
import Derived.Test.YtibnmnkembbgeaaKFnExactMetaActs6
import Derived.Test.YtibnmnkembbgeaaKFnExactMetaActs7
namespace Go.Proofs.Ytibnmnkembbgeaa.Q
open Go.RowKit Go.Proofs.YtibnmnkembbgeaaW.PrintWords Go.Proofs.YtibnmnkembbgeaaW.PrintLast Go.Proofs.YtibnmnkembbgeaaW.PrintMore
attribute [local go_sem] max2_int min2_int max_two min_two max_three min_three max_four min_four Instr.field asAgg   -- for this text's walks alone
set_option linter.unusedVariables false
set_option linter.unusedSimpArgs false
/-! ### impl_metaGet: function 105 -/
def impl_metaGet.l0 : Nat → Int → Int → List ByteArray → List (S92) → Int → ByteArray → Int → Option (Int × ByteArray × Int × Int)
 | 0, _, _, _, _, _, _, _ => none
 | k + 1, x5, x9, x956000, x956001, x958000, x958001, x958002 => if x9 < 2 then ((impl_Flash_read.f x956000 x956001 x9).bind fun t958 => ((impl_metaRead.f k t958).bind fun bt959 => (if bt959.2.2 = 0 then (if x5 < 0 then (impl_metaGet.l0 k x9 (wrap64 (x9 + 1)) x956000 x956001 bt959.1 bt959.2.1 bt959.2.2) else (if bt959.1 > x958000 then (impl_metaGet.l0 k x9 (wrap64 (x9 + 1)) x956000 x956001 bt959.1 bt959.2.1 bt959.2.2) else (impl_metaGet.l0 k x5 (wrap64 (x9 + 1)) x956000 x956001 x958000 x958001 x958002))) else (impl_metaGet.l0 k x5 (wrap64 (x9 + 1)) x956000 x956001 x958000 x958001 x958002)))) else (some (x958000, x958001, x958002, x5))
def impl_metaGet.f (k : Nat) (l0_0 : List ByteArray) (l0_1 : List (S92)) : Option (Int × ByteArray × Int × Int) := impl_metaGet.l0 k (-1) 0 l0_0 l0_1 0 (⟨#[]⟩ : ByteArray) 6
theorem impl_metaGet.mono_l : ∀ k, (∀ y0 y1 y2 y3 y4 y5 y6, LeO (impl_metaGet.l0 k y0 y1 y2 y3 y4 y5 y6) (impl_metaGet.l0 (k + 1) y0 y1 y2 y3 y4 y5 y6))
 | 0 => fun _ _ _ _ _ _ _ r h => by simp [impl_metaGet.l0] at h
 | k + 1 => by
  have ih0 := impl_metaGet.mono_l k
  ·
   intro y0 y1 y2 y3 y4 y5 y6
   unfold impl_metaGet.l0
   repeat' first
   | (with_reducible exact ih0 _ _ _ _ _ _ _)
   | (with_reducible exact impl_metaRead.mono _ _)
   | (with_reducible exact LeO.refl _)
   | (with_reducible exact LeO.none _)
   | (with_reducible refine LeO.ite ?_ ?_)
   | (with_reducible refine LeO.bind ?_ (fun _ => ?_))
   | exact ih0 _ _ _ _ _ _ _
   | exact impl_metaRead.mono _ _
   | exact LeO.none _
   | refine LeO.ite ?_ ?_
   | refine LeO.bind ?_ (fun _ => ?_)
theorem impl_metaGet.mono : ∀ a0 a1 k, LeO (impl_metaGet.f k a0 a1) (impl_metaGet.f (k + 1) a0 a1) := by
 intro a0 a1 k
 have ih0 := impl_metaGet.mono_l k
 unfold impl_metaGet.f
 repeat' first
   | (with_reducible exact ih0 _ _ _ _ _ _ _)
   | (with_reducible exact impl_metaRead.mono _ _)
   | (with_reducible exact LeO.refl _)
   | (with_reducible exact LeO.none _)
   | (with_reducible refine LeO.ite ?_ ?_)
   | (with_reducible refine LeO.bind ?_ (fun _ => ?_))
   | exact ih0 _ _ _ _ _ _ _
   | exact impl_metaRead.mono _ _
   | exact LeO.none _
   | refine LeO.ite ?_ ?_
   | refine LeO.bind ?_ (fun _ => ?_)
set_option maxHeartbeats 8000000 in
set_option maxRecDepth 100000 in
theorem impl_metaGet.calls (k : Nat) (A0_0 : Option Addr) (c0_0 : Nat) (l0_0 : List ByteArray) (A0_1 : Option Addr) (c0_1 : Nat) (l0_1 : List (S92)) (r1 : Int) (r2 : ByteArray) (r3 : Int) (r4 : Int) (w : World) (hr0_0 : Kd.C Kd.string w A0_0 l0_0.length l0_0) (hc0_0 : l0_0.length ≤ c0_0) (hr0_1 : Kd.C k92 w A0_1 l0_1.length l0_1) (hc0_1 : l0_1.length ≤ c0_1) (h : impl_metaGet.f k l0_0 l0_1 = some (r1, r2, r3, r4)) :
  Calls Try.prog 105 #[.agg #[.slice A0_0 l0_0.length c0_0, .slice A0_1 l0_1.length c0_1]] w fun e w' => e = .returned (.tuple #[.agg #[.int .i64 r1, .string r2, .int .i64 r3], .int .i64 r4]) ∧ Below w.heap.size w w' := by
 have hu30 := Try.underlying30
 have hu41 := Try.underlying41
 have HR0_0 := zA_ hr0_0
 have HC0_0 := zA_ hc0_0
 clear hr0_0 hc0_0
 have HR0_1 := zA_ hr0_1
 have HC0_1 := zA_ hc0_1
 clear hr0_1 hc0_1
 have HB := zA_ (Below.refl w.heap.size w)
 have H : (impl_metaGet.l0 k (-1) 0 l0_0 l0_1 0 (⟨#[]⟩ : ByteArray) 6) = some (r1, r2, r3, r4) := h
 clear h
 have H' := zA_ H
 clear H
 go_enter Try.func105, Try.ntmps105
 go_wp2_with (first | ((with_reducible refine gate_dst (N := 1) rfl ?_); refine box_event ?hg (N := 1) ?hd (cs := #[.slice A0_0 l0_0.length c0_0, .slice A0_1 l0_1.length c0_1]) (t := 30) ?hr ?_; (case hd => rfl); (case hg => rfl); (case hr => first | (go_simp; done) | (go_simp; rfl)); intro gb955 hg w2 hbox hb; have n0_ := zA_ (below_step (zh_ HB.out) hb); have n1_ := zA_ (hbox); have n2_ := zA_ ((by rw [hg]; exact (below_size (zh_ HB.out)) : w.heap.size ≤ gb955)); have n3_ := zA_ ((by rw [hg]; exact (below_size (zh_ HB.out)) : w.heap.size ≤ gb955)); clear HB; have HB := n0_; have BK955 := n1_; have GW955 := n2_; have GE955 := n3_; clear n0_ n1_ n2_ n3_; clear hb hbox hg) | ((with_reducible refine gate_dst (N := 2) rfl ?_); refine box_event ?hg (N := 2) ?hd (cs := #[.int .i64 0, .string (⟨#[]⟩ : ByteArray), .int .i64 0]) (t := 41) ?hr ?_; (case hd => rfl); (case hg => rfl); (case hr => first | (go_simp; done) | (go_simp; rfl)); intro gb956 hg w3 hbox hb; have n0_ := zA_ (blk_below (g := gb955) (o := .cells #[.slice A0_0 l0_0.length c0_0, .slice A0_1 l0_1.length c0_1] 30 (0, 0)) (zb_ BK955.out) hb); have n1_ := zA_ (below_step (zg1_ HB.out GE955.out) hb); have n2_ := zA_ (hbox); have n3_ := zA_ ((by rw [hg]; exact (below_size (zg1_ HB.out GE955.out)) : w.heap.size ≤ gb956)); have n4_ := zA_ ((by rw [hg]; exact (below_size (zg1_ HB.out GE955.out)) : w.heap.size ≤ gb956)); have n5_ := zA_ ((by rw [hg]; exact Nat.ne_of_lt (blk_lt (g := gb955) (o := .cells #[.slice A0_0 l0_0.length c0_0, .slice A0_1 l0_1.length c0_1] 30 (0, 0)) (zb_ BK955.out)) : gb955 ≠ gb956)); have n6_ := zA_ ((by rw [hg]; exact Nat.ne_of_gt (blk_lt (g := gb955) (o := .cells #[.slice A0_0 l0_0.length c0_0, .slice A0_1 l0_1.length c0_1] 30 (0, 0)) (zb_ BK955.out)) : gb956 ≠ gb955)); clear BK955 HB; have BK955 := n0_; have HB := n1_; have BK956 := n2_; have GW956 := n3_; have GE956 := n4_; have NB955_956 := n5_; have NB956_955 := n6_; clear n0_ n1_ n2_ n3_ n4_ n5_ n6_; clear hb hbox hg) | ((with_reducible refine gate_dst (N := 4) rfl ?_); refine box_event ?hg (N := 4) ?hd (cs := #[.int .i64 0, .string (⟨#[]⟩ : ByteArray), .int .i64 0]) (t := 41) ?hr ?_; (case hd => rfl); (case hg => rfl); (case hr => first | (go_simp; done) | (go_simp; rfl)); intro gb957 hg w4 hbox hb; have n0_ := zA_ (blk_below (g := gb955) (o := .cells #[.slice A0_0 l0_0.length c0_0, .slice A0_1 l0_1.length c0_1] 30 (0, 0)) (zb_ BK955.out) hb); have n1_ := zA_ (blk_below (g := gb956) (o := .cells #[.int .i64 0, .string (⟨#[]⟩ : ByteArray), .int .i64 0] 41 (0, 0)) (zb_ BK956.out) hb); have n2_ := zA_ (below_step (zg2_ HB.out GE955.out GE956.out) hb); have n3_ := zA_ (hbox); have n4_ := zA_ ((by rw [hg]; exact (below_size (zg2_ HB.out GE955.out GE956.out)) : w.heap.size ≤ gb957)); have n5_ := zA_ ((by rw [hg]; exact (below_size (zg2_ HB.out GE955.out GE956.out)) : w.heap.size ≤ gb957)); have n6_ := zA_ ((by rw [hg]; exact Nat.ne_of_lt (blk_lt (g := gb955) (o := .cells #[.slice A0_0 l0_0.length c0_0, .slice A0_1 l0_1.length c0_1] 30 (0, 0)) (zb_ BK955.out)) : gb955 ≠ gb957)); have n7_ := zA_ ((by rw [hg]; exact Nat.ne_of_gt (blk_lt (g := gb955) (o := .cells #[.slice A0_0 l0_0.length c0_0, .slice A0_1 l0_1.length c0_1] 30 (0, 0)) (zb_ BK955.out)) : gb957 ≠ gb955)); have n8_ := zA_ ((by rw [hg]; exact Nat.ne_of_lt (blk_lt (g := gb956) (o := .cells #[.int .i64 0, .string (⟨#[]⟩ : ByteArray), .int .i64 0] 41 (0, 0)) (zb_ BK956.out)) : gb956 ≠ gb957)); have n9_ := zA_ ((by rw [hg]; exact Nat.ne_of_gt (blk_lt (g := gb956) (o := .cells #[.int .i64 0, .string (⟨#[]⟩ : ByteArray), .int .i64 0] 41 (0, 0)) (zb_ BK956.out)) : gb957 ≠ gb956)); clear BK955 BK956 HB; have BK955 := n0_; have BK956 := n1_; have HB := n2_; have BK957 := n3_; have GW957 := n4_; have GE957 := n5_; have NB955_957 := n6_; have NB957_955 := n7_; have NB956_957 := n8_; have NB957_956 := n9_; clear n0_ n1_ n2_ n3_ n4_ n5_ n6_ n7_ n8_ n9_; clear hb hbox hg; have hnb5 := NB957_955.out; have hnc5 := NB955_957.out; have hnb6 := NB957_956.out; have hnc6 := NB956_957.out; have hcz7_0 : w4.cell? ⟨gb957, 0, none⟩ = some (.int .i64 0) := (blk_cell BK957.out 0).trans rfl; have hcz7_1 : w4.cell? ⟨gb957, 1, none⟩ = some (.string (⟨#[]⟩ : ByteArray)) := (blk_cell BK957.out 1).trans rfl; have hcz7_2 : w4.cell? ⟨gb957, 2, none⟩ = some (.int .i64 0) := (blk_cell BK957.out 2).trans rfl; have hfz7_0 := blk_frozen BK957.out 0; have hfz7_1 := blk_frozen BK957.out 1; have hfz7_2 := blk_frozen BK957.out 2))
 go_loopg [5, 9] k (fun kq v5 v9 w' => ∃ (x5_1 : Int) (x9_1 : Int) (x958000_1 : Int) (x958001_1 : ByteArray) (x958002_1 : Int), v5 = .int .i64 x5_1 ∧ v9 = .int .i64 x9_1 ∧ Aside0 (impl_metaGet.l0 kq x5_1 x9_1 l0_0 l0_1 x958000_1 x958001_1 x958002_1 = some (r1, r2, r3, r4)) ∧ Aside0 (kq ≤ k) ∧ Aside0 (w'.heap[gb955]? = some (.cells #[(.slice A0_0 l0_0.length c0_0), (.slice A0_1 l0_1.length c0_1)] 30 (0, 0))) ∧ Aside0 (w'.heap[gb956]? = some (.cells #[.int .i64 0, .string (⟨#[]⟩ : ByteArray), .int .i64 0] 41 (0, 0))) ∧ Aside0 (w'.heap[gb957]? = some (.cells #[.int .i64 x958000_1, .string x958001_1, .int .i64 x958002_1] 41 (0, 0))) ∧ Aside0 (Below w.heap.size w w'))
 case atStart => exact ⟨((-1)), (0), (0), ((⟨#[]⟩ : ByteArray)), (6), (by first | rfl | (simp; done) | (simp [*]; done)), (by first | rfl | (simp; done) | (simp [*]; done)), H', ⟨Nat.le_refl _⟩, ⟨zf3_ NB955_957.out NB955_957.out NB955_957.out BK955.out⟩, ⟨zf3_ NB956_957.out NB956_957.out NB956_957.out BK956.out⟩, ⟨by (with_reducible repeat (first | refine blk_drewN ?_ _ | refine blk_drew ?_ | refine blk_alloc ?_ _)); refine blk_put (cs := #[.int .i64 0, .string (⟨#[]⟩ : ByteArray), .int .i64 0]) ?_ 2 _ rfl; (with_reducible repeat (first | refine blk_drewN ?_ _ | refine blk_drew ?_ | refine blk_alloc ?_ _)); refine blk_put (cs := #[.int .i64 0, .string (⟨#[]⟩ : ByteArray), .int .i64 0]) ?_ 1 _ rfl; (with_reducible repeat (first | refine blk_drewN ?_ _ | refine blk_drew ?_ | refine blk_alloc ?_ _)); refine blk_put (cs := #[.int .i64 0, .string (⟨#[]⟩ : ByteArray), .int .i64 0]) ?_ 0 _ rfl; (with_reducible repeat (first | refine blk_drewN ?_ _ | refine blk_drew ?_ | refine blk_alloc ?_ _)); exact BK957.out⟩, ⟨zg3_ HB.out GE955.out GE956.out GE957.out⟩⟩
 case round =>
  clear H'
  try clear c1
  try clear p2
  try clear c5
  try clear c6
  try clear hcz7_0
  try clear hcz7_1
  try clear hcz7_2
  try clear hfz7_0
  try clear hfz7_1
  try clear hfz7_2
  obtain ⟨x5_1, x9_1, x958000_1, x958001_1, x958002_1, rfl, rfl, HA, HK1, BK955, BK956, BK957, HB⟩ := hrel
  cases gk with
  | zero => exact absurd HA.out (by simp [impl_metaGet.l0])
  | succ k1 =>
   have H := HA.out
   clear HA
   simp only [impl_metaGet.l0] at H
   by_cases c8 : x9_1 < 2
   ·
    rw [if_pos c8] at H
    have c8b0 : decide (x9_1 < 2) = true := decide_eq_true c8
    clear c8
    replace H := Option.bind_eq_some_iff.mp H
    obtain ⟨t958, A90, H⟩ := H
    replace H : ((impl_metaRead.f k1 t958).bind fun bt959 => (if bt959.2.2 = 0 then (if x5_1 < 0 then (impl_metaGet.l0 k1 x9_1 (wrap64 (x9_1 + 1)) l0_0 l0_1 bt959.1 bt959.2.1 bt959.2.2) else (if bt959.1 > x958000_1 then (impl_metaGet.l0 k1 x9_1 (wrap64 (x9_1 + 1)) l0_0 l0_1 bt959.1 bt959.2.1 bt959.2.2) else (impl_metaGet.l0 k1 x5_1 (wrap64 (x9_1 + 1)) l0_0 l0_1 x958000_1 x958001_1 x958002_1))) else (impl_metaGet.l0 k1 x5_1 (wrap64 (x9_1 + 1)) l0_0 l0_1 x958000_1 x958001_1 x958002_1))) = some (r1, r2, r3, r4) := H
    have A9 := zA_ A90
    clear A90
    replace H := Option.bind_eq_some_iff.mp H
    obtain ⟨⟨t959, t960, t961⟩, A100, H⟩ := H
    replace H : (if t961 = 0 then (if x5_1 < 0 then (impl_metaGet.l0 k1 x9_1 (wrap64 (x9_1 + 1)) l0_0 l0_1 t959 t960 t961) else (if t959 > x958000_1 then (impl_metaGet.l0 k1 x9_1 (wrap64 (x9_1 + 1)) l0_0 l0_1 t959 t960 t961) else (impl_metaGet.l0 k1 x5_1 (wrap64 (x9_1 + 1)) l0_0 l0_1 x958000_1 x958001_1 x958002_1))) else (impl_metaGet.l0 k1 x5_1 (wrap64 (x9_1 + 1)) l0_0 l0_1 x958000_1 x958001_1 x958002_1)) = some (r1, r2, r3, r4) := H
    have A10 := zA_ A100
    clear A100
    by_cases c11 : t961 = 0
    ·
     rw [if_pos c11] at H
     have c11b0 : (t961 == 0) = true := beq_iff_eq.mpr c11
     have c11b1 : (t961 != 0) = false := bne_eq_false_iff_eq.mpr c11
     clear c11
     by_cases c12 : x5_1 < 0
     ·
      rw [if_pos c12] at H
      have c12b0 : decide (x5_1 < 0) = true := decide_eq_true c12
      clear c12
      have H' := zA_ H
      clear H
      have hnb13 := NB955_956.out
      have hnc13 := NB956_955.out
      have hnb14 := NB955_957.out
      have hnc14 := NB957_955.out
      have hcz15_0 : wr.cell? ⟨gb955, 0, none⟩ = some (.slice A0_0 l0_0.length c0_0) := (blk_cell BK955.out 0).trans rfl
      have hcz15_1 : wr.cell? ⟨gb955, 1, none⟩ = some (.slice A0_1 l0_1.length c0_1) := (blk_cell BK955.out 1).trans rfl
      have hfz15_0 := blk_frozen BK955.out 0
      have hfz15_1 := blk_frozen BK955.out 1
      go_wp2_with (first | ((with_reducible refine gate_callee (f := 90) rfl ?_); refine goesL_ (some 14) rfl rfl Try.func90 (by kernel_rfl) rfl #[.agg #[.slice A0_0 l0_0.length c0_0, .slice A0_1 l0_1.length c0_1], .int .i64 x9_1] rfl zs_ ?_; (with_reducible refine (impl_Flash_read.calls _ _ l0_0 _ _ l0_1 x9_1 t958 _ ?side1 ?side2 ?side3 ?side4 A9.out).mono ?_); (case side1 => exact zc_ (Kd.C_below HR0_0.out HB.out)); (case side2 => exact HC0_0.out); (case side3 => exact zc_ (Kd.C_below HR0_1.out HB.out)); (case side4 => exact HC0_1.out); rintro e w16 ⟨rfl, hb⟩; refine ⟨_, rfl, ?_⟩; have n0_ := zA_ (blk_below (g := gb955) (o := .cells #[.slice A0_0 l0_0.length c0_0, .slice A0_1 l0_1.length c0_1] 30 (0, 0)) (zb_ BK955.out) hb); have n1_ := zA_ (blk_below (g := gb956) (o := .cells #[.int .i64 0, .string (⟨#[]⟩ : ByteArray), .int .i64 0] 41 (0, 0)) (zb_ BK956.out) hb); have n2_ := zA_ (blk_below (g := gb957) (o := .cells #[.int .i64 x958000_1, .string x958001_1, .int .i64 x958002_1] 41 (0, 0)) (zb_ BK957.out) hb); have n3_ := zA_ (below_step (zg3_ HB.out GE955.out GE956.out GE957.out) hb); clear BK955 BK956 BK957 HB; have BK955 := n0_; have BK956 := n1_; have BK957 := n2_; have HB := n3_; clear n0_ n1_ n2_ n3_; (try clear hb); (try clear hb2); (try clear hk); (try clear hi)) | ((with_reducible refine gate_callee (f := 86) rfl ?_); refine goesL_ (some 15) rfl rfl Try.func86 (by kernel_rfl) rfl #[.string t958] rfl zs_ ?_; (with_reducible refine (impl_metaRead.calls k1 t958 t959 t960 t961 _ A10.out).mono ?_); rintro e w17 ⟨rfl, hb⟩; refine ⟨_, rfl, ?_⟩; have n0_ := zA_ (blk_below (g := gb955) (o := .cells #[.slice A0_0 l0_0.length c0_0, .slice A0_1 l0_1.length c0_1] 30 (0, 0)) (zb_ BK955.out) hb); have n1_ := zA_ (blk_below (g := gb956) (o := .cells #[.int .i64 0, .string (⟨#[]⟩ : ByteArray), .int .i64 0] 41 (0, 0)) (zb_ BK956.out) hb); have n2_ := zA_ (blk_below (g := gb957) (o := .cells #[.int .i64 x958000_1, .string x958001_1, .int .i64 x958002_1] 41 (0, 0)) (zb_ BK957.out) hb); have n3_ := zA_ (below_step (zg3_ HB.out GE955.out GE956.out GE957.out) hb); clear BK955 BK956 BK957 HB; have BK955 := n0_; have BK956 := n1_; have BK957 := n2_; have HB := n3_; clear n0_ n1_ n2_ n3_; (try clear hb); (try clear hb2); (try clear hk); (try clear hi)) | ((with_reducible refine gate_dst (N := 7) rfl ?_); refine box_event ?hg (N := 7) ?hd (cs := #[.int .i64 0, .string (⟨#[]⟩ : ByteArray), .int .i64 0]) (t := 41) ?hr ?_; (case hd => rfl); (case hg => rfl); (case hr => first | (go_simp; done) | (go_simp; rfl)); intro gb962 hg w18 hbox hb; have n0_ := zA_ (blk_below (g := gb955) (o := .cells #[.slice A0_0 l0_0.length c0_0, .slice A0_1 l0_1.length c0_1] 30 (0, 0)) (zb_ BK955.out) hb); have n1_ := zA_ (blk_below (g := gb956) (o := .cells #[.int .i64 0, .string (⟨#[]⟩ : ByteArray), .int .i64 0] 41 (0, 0)) (zb_ BK956.out) hb); have n2_ := zA_ (blk_below (g := gb957) (o := .cells #[.int .i64 x958000_1, .string x958001_1, .int .i64 x958002_1] 41 (0, 0)) (zb_ BK957.out) hb); have n3_ := zA_ (below_step (zg3_ HB.out GE955.out GE956.out GE957.out) hb); have n4_ := zA_ (hbox); have n5_ := zA_ ((by rw [hg]; exact (below_size (zg3_ HB.out GE955.out GE956.out GE957.out)) : w.heap.size ≤ gb962)); have n6_ := zA_ ((by rw [hg]; exact (below_size (zg3_ HB.out GE955.out GE956.out GE957.out)) : w.heap.size ≤ gb962)); have n7_ := zA_ ((by rw [hg]; exact Nat.ne_of_lt (blk_lt (g := gb955) (o := .cells #[.slice A0_0 l0_0.length c0_0, .slice A0_1 l0_1.length c0_1] 30 (0, 0)) (zb_ BK955.out)) : gb955 ≠ gb962)); have n8_ := zA_ ((by rw [hg]; exact Nat.ne_of_gt (blk_lt (g := gb955) (o := .cells #[.slice A0_0 l0_0.length c0_0, .slice A0_1 l0_1.length c0_1] 30 (0, 0)) (zb_ BK955.out)) : gb962 ≠ gb955)); have n9_ := zA_ ((by rw [hg]; exact Nat.ne_of_lt (blk_lt (g := gb956) (o := .cells #[.int .i64 0, .string (⟨#[]⟩ : ByteArray), .int .i64 0] 41 (0, 0)) (zb_ BK956.out)) : gb956 ≠ gb962)); have n10_ := zA_ ((by rw [hg]; exact Nat.ne_of_gt (blk_lt (g := gb956) (o := .cells #[.int .i64 0, .string (⟨#[]⟩ : ByteArray), .int .i64 0] 41 (0, 0)) (zb_ BK956.out)) : gb962 ≠ gb956)); have n11_ := zA_ ((by rw [hg]; exact Nat.ne_of_lt (blk_lt (g := gb957) (o := .cells #[.int .i64 x958000_1, .string x958001_1, .int .i64 x958002_1] 41 (0, 0)) (zb_ BK957.out)) : gb957 ≠ gb962)); have n12_ := zA_ ((by rw [hg]; exact Nat.ne_of_gt (blk_lt (g := gb957) (o := .cells #[.int .i64 x958000_1, .string x958001_1, .int .i64 x958002_1] 41 (0, 0)) (zb_ BK957.out)) : gb962 ≠ gb957)); clear BK955 BK956 BK957 HB; have BK955 := n0_; have BK956 := n1_; have BK957 := n2_; have HB := n3_; have BK962 := n4_; have GW962 := n5_; have GE962 := n6_; have NB955_962 := n7_; have NB962_955 := n8_; have NB956_962 := n9_; have NB962_956 := n10_; have NB957_962 := n11_; have NB962_957 := n12_; clear n0_ n1_ n2_ n3_ n4_ n5_ n6_ n7_ n8_ n9_ n10_ n11_ n12_; clear hb hbox hg; have hnb19 := NB962_955.out; have hnc19 := NB955_962.out; have hnb20 := NB962_956.out; have hnc20 := NB956_962.out; have hnb21 := NB962_957.out; have hnc21 := NB957_962.out; have hcz22_0 : w18.cell? ⟨gb962, 0, none⟩ = some (.int .i64 0) := (blk_cell BK962.out 0).trans rfl; have hcz22_1 : w18.cell? ⟨gb962, 1, none⟩ = some (.string (⟨#[]⟩ : ByteArray)) := (blk_cell BK962.out 1).trans rfl; have hcz22_2 : w18.cell? ⟨gb962, 2, none⟩ = some (.int .i64 0) := (blk_cell BK962.out 2).trans rfl; have hfz22_0 := blk_frozen BK962.out 0; have hfz22_1 := blk_frozen BK962.out 1; have hfz22_2 := blk_frozen BK962.out 2; have hnb23 := NB957_956.out; have hnc23 := NB956_957.out; have hcz24_0 : w18.cell? ⟨gb957, 0, none⟩ = some (.int .i64 x958000_1) := (blk_cell BK957.out 0).trans rfl; have hcz24_1 : w18.cell? ⟨gb957, 1, none⟩ = some (.string x958001_1) := (blk_cell BK957.out 1).trans rfl; have hcz24_2 : w18.cell? ⟨gb957, 2, none⟩ = some (.int .i64 x958002_1) := (blk_cell BK957.out 2).trans rfl; have hfz24_0 := blk_frozen BK957.out 0; have hfz24_1 := blk_frozen BK957.out 1; have hfz24_2 := blk_frozen BK957.out 2))
      go_roundg k1
      case measure => have := HK1.out; omega
      case rel => exact ⟨(x9_1), (wrap64 (x9_1 + 1)), (t959), (t960), (t961), (by first | rfl | (simp; done) | (simp [*]; done)), (by first | rfl | (simp; done) | (simp [*]; done)), H', ⟨by have := HK1.out; omega⟩, ⟨by (with_reducible repeat (first | refine blk_drewN ?_ _ | refine blk_drew ?_ | refine blk_alloc ?_ _)); refine blk_far ?_ NB955_957.out _; (with_reducible repeat (first | refine blk_drewN ?_ _ | refine blk_drew ?_ | refine blk_alloc ?_ _)); refine blk_far ?_ NB955_957.out _; (with_reducible repeat (first | refine blk_drewN ?_ _ | refine blk_drew ?_ | refine blk_alloc ?_ _)); refine blk_far ?_ NB955_957.out _; (with_reducible repeat (first | refine blk_drewN ?_ _ | refine blk_drew ?_ | refine blk_alloc ?_ _)); refine blk_far ?_ NB955_962.out _; (with_reducible repeat (first | refine blk_drewN ?_ _ | refine blk_drew ?_ | refine blk_alloc ?_ _)); refine blk_far ?_ NB955_962.out _; (with_reducible repeat (first | refine blk_drewN ?_ _ | refine blk_drew ?_ | refine blk_alloc ?_ _)); refine blk_far ?_ NB955_962.out _; (with_reducible repeat (first | refine blk_drewN ?_ _ | refine blk_drew ?_ | refine blk_alloc ?_ _)); exact BK955.out⟩, ⟨by (with_reducible repeat (first | refine blk_drewN ?_ _ | refine blk_drew ?_ | refine blk_alloc ?_ _)); refine blk_far ?_ NB956_957.out _; (with_reducible repeat (first | refine blk_drewN ?_ _ | refine blk_drew ?_ | refine blk_alloc ?_ _)); refine blk_far ?_ NB956_957.out _; (with_reducible repeat (first | refine blk_drewN ?_ _ | refine blk_drew ?_ | refine blk_alloc ?_ _)); refine blk_far ?_ NB956_957.out _; (with_reducible repeat (first | refine blk_drewN ?_ _ | refine blk_drew ?_ | refine blk_alloc ?_ _)); refine blk_far ?_ NB956_962.out _; (with_reducible repeat (first | refine blk_drewN ?_ _ | refine blk_drew ?_ | refine blk_alloc ?_ _)); refine blk_far ?_ NB956_962.out _; (with_reducible repeat (first | refine blk_drewN ?_ _ | refine blk_drew ?_ | refine blk_alloc ?_ _)); refine blk_far ?_ NB956_962.out _; (with_reducible repeat (first | refine blk_drewN ?_ _ | refine blk_drew ?_ | refine blk_alloc ?_ _)); exact BK956.out⟩, ⟨by (with_reducible repeat (first | refine blk_drewN ?_ _ | refine blk_drew ?_ | refine blk_alloc ?_ _)); refine blk_put (cs := #[.int .i64 t959, .string t960, .int .i64 x958002_1]) ?_ 2 _ rfl; (with_reducible repeat (first | refine blk_drewN ?_ _ | refine blk_drew ?_ | refine blk_alloc ?_ _)); refine blk_put (cs := #[.int .i64 t959, .string x958001_1, .int .i64 x958002_1]) ?_ 1 _ rfl; (with_reducible repeat (first | refine blk_drewN ?_ _ | refine blk_drew ?_ | refine blk_alloc ?_ _)); refine blk_put (cs := #[.int .i64 x958000_1, .string x958001_1, .int .i64 x958002_1]) ?_ 0 _ rfl; (with_reducible repeat (first | refine blk_drewN ?_ _ | refine blk_drew ?_ | refine blk_alloc ?_ _)); refine blk_far ?_ NB957_962.out _; (with_reducible repeat (first | refine blk_drewN ?_ _ | refine blk_drew ?_ | refine blk_alloc ?_ _)); refine blk_far ?_ NB957_962.out _; (with_reducible repeat (first | refine blk_drewN ?_ _ | refine blk_drew ?_ | refine blk_alloc ?_ _)); refine blk_far ?_ NB957_962.out _; (with_reducible repeat (first | refine blk_drewN ?_ _ | refine blk_drew ?_ | refine blk_alloc ?_ _)); exact BK957.out⟩, ⟨zg4_ HB.out GE955.out GE956.out GE957.out GE962.out⟩⟩
     ·
      rw [if_neg c12] at H
      have c12b0 : decide (x5_1 < 0) = false := decide_eq_false c12
      clear c12
      by_cases c25 : t959 > x958000_1
      ·
       rw [if_pos c25] at H
       have c25b0 : decide (x958000_1 < t959) = true := decide_eq_true c25
       clear c25
       have H' := zA_ H
       clear H
       have hnb26 := NB955_956.out
       have hnc26 := NB956_955.out
       have hnb27 := NB955_957.out
       have hnc27 := NB957_955.out
       have hcz28_0 : wr.cell? ⟨gb955, 0, none⟩ = some (.slice A0_0 l0_0.length c0_0) := (blk_cell BK955.out 0).trans rfl
       have hcz28_1 : wr.cell? ⟨gb955, 1, none⟩ = some (.slice A0_1 l0_1.length c0_1) := (blk_cell BK955.out 1).trans rfl
       have hfz28_0 := blk_frozen BK955.out 0
       have hfz28_1 := blk_frozen BK955.out 1
       go_wp2_with (first | ((with_reducible refine gate_callee (f := 90) rfl ?_); refine goesL_ (some 14) rfl rfl Try.func90 (by kernel_rfl) rfl #[.agg #[.slice A0_0 l0_0.length c0_0, .slice A0_1 l0_1.length c0_1], .int .i64 x9_1] rfl zs_ ?_; (with_reducible refine (impl_Flash_read.calls _ _ l0_0 _ _ l0_1 x9_1 t958 _ ?side1 ?side2 ?side3 ?side4 A9.out).mono ?_); (case side1 => exact zc_ (Kd.C_below HR0_0.out HB.out)); (case side2 => exact HC0_0.out); (case side3 => exact zc_ (Kd.C_below HR0_1.out HB.out)); (case side4 => exact HC0_1.out); rintro e w29 ⟨rfl, hb⟩; refine ⟨_, rfl, ?_⟩; have n0_ := zA_ (blk_below (g := gb955) (o := .cells #[.slice A0_0 l0_0.length c0_0, .slice A0_1 l0_1.length c0_1] 30 (0, 0)) (zb_ BK955.out) hb); have n1_ := zA_ (blk_below (g := gb956) (o := .cells #[.int .i64 0, .string (⟨#[]⟩ : ByteArray), .int .i64 0] 41 (0, 0)) (zb_ BK956.out) hb); have n2_ := zA_ (blk_below (g := gb957) (o := .cells #[.int .i64 x958000_1, .string x958001_1, .int .i64 x958002_1] 41 (0, 0)) (zb_ BK957.out) hb); have n3_ := zA_ (below_step (zg3_ HB.out GE955.out GE956.out GE957.out) hb); clear BK955 BK956 BK957 HB; have BK955 := n0_; have BK956 := n1_; have BK957 := n2_; have HB := n3_; clear n0_ n1_ n2_ n3_; (try clear hb); (try clear hb2); (try clear hk); (try clear hi)) | ((with_reducible refine gate_callee (f := 86) rfl ?_); refine goesL_ (some 15) rfl rfl Try.func86 (by kernel_rfl) rfl #[.string t958] rfl zs_ ?_; (with_reducible refine (impl_metaRead.calls k1 t958 t959 t960 t961 _ A10.out).mono ?_); rintro e w30 ⟨rfl, hb⟩; refine ⟨_, rfl, ?_⟩; have n0_ := zA_ (blk_below (g := gb955) (o := .cells #[.slice A0_0 l0_0.length c0_0, .slice A0_1 l0_1.length c0_1] 30 (0, 0)) (zb_ BK955.out) hb); have n1_ := zA_ (blk_below (g := gb956) (o := .cells #[.int .i64 0, .string (⟨#[]⟩ : ByteArray), .int .i64 0] 41 (0, 0)) (zb_ BK956.out) hb); have n2_ := zA_ (blk_below (g := gb957) (o := .cells #[.int .i64 x958000_1, .string x958001_1, .int .i64 x958002_1] 41 (0, 0)) (zb_ BK957.out) hb); have n3_ := zA_ (below_step (zg3_ HB.out GE955.out GE956.out GE957.out) hb); clear BK955 BK956 BK957 HB; have BK955 := n0_; have BK956 := n1_; have BK957 := n2_; have HB := n3_; clear n0_ n1_ n2_ n3_; (try clear hb); (try clear hb2); (try clear hk); (try clear hi)) | ((with_reducible refine gate_dst (N := 7) rfl ?_); refine box_event ?hg (N := 7) ?hd (cs := #[.int .i64 0, .string (⟨#[]⟩ : ByteArray), .int .i64 0]) (t := 41) ?hr ?_; (case hd => rfl); (case hg => rfl); (case hr => first | (go_simp; done) | (go_simp; rfl)); intro gb962 hg w31 hbox hb; have n0_ := zA_ (blk_below (g := gb955) (o := .cells #[.slice A0_0 l0_0.length c0_0, .slice A0_1 l0_1.length c0_1] 30 (0, 0)) (zb_ BK955.out) hb); have n1_ := zA_ (blk_below (g := gb956) (o := .cells #[.int .i64 0, .string (⟨#[]⟩ : ByteArray), .int .i64 0] 41 (0, 0)) (zb_ BK956.out) hb); have n2_ := zA_ (blk_below (g := gb957) (o := .cells #[.int .i64 x958000_1, .string x958001_1, .int .i64 x958002_1] 41 (0, 0)) (zb_ BK957.out) hb); have n3_ := zA_ (below_step (zg3_ HB.out GE955.out GE956.out GE957.out) hb); have n4_ := zA_ (hbox); have n5_ := zA_ ((by rw [hg]; exact (below_size (zg3_ HB.out GE955.out GE956.out GE957.out)) : w.heap.size ≤ gb962)); have n6_ := zA_ ((by rw [hg]; exact (below_size (zg3_ HB.out GE955.out GE956.out GE957.out)) : w.heap.size ≤ gb962)); have n7_ := zA_ ((by rw [hg]; exact Nat.ne_of_lt (blk_lt (g := gb955) (o := .cells #[.slice A0_0 l0_0.length c0_0, .slice A0_1 l0_1.length c0_1] 30 (0, 0)) (zb_ BK955.out)) : gb955 ≠ gb962)); have n8_ := zA_ ((by rw [hg]; exact Nat.ne_of_gt (blk_lt (g := gb955) (o := .cells #[.slice A0_0 l0_0.length c0_0, .slice A0_1 l0_1.length c0_1] 30 (0, 0)) (zb_ BK955.out)) : gb962 ≠ gb955)); have n9_ := zA_ ((by rw [hg]; exact Nat.ne_of_lt (blk_lt (g := gb956) (o := .cells #[.int .i64 0, .string (⟨#[]⟩ : ByteArray), .int .i64 0] 41 (0, 0)) (zb_ BK956.out)) : gb956 ≠ gb962)); have n10_ := zA_ ((by rw [hg]; exact Nat.ne_of_gt (blk_lt (g := gb956) (o := .cells #[.int .i64 0, .string (⟨#[]⟩ : ByteArray), .int .i64 0] 41 (0, 0)) (zb_ BK956.out)) : gb962 ≠ gb956)); have n11_ := zA_ ((by rw [hg]; exact Nat.ne_of_lt (blk_lt (g := gb957) (o := .cells #[.int .i64 x958000_1, .string x958001_1, .int .i64 x958002_1] 41 (0, 0)) (zb_ BK957.out)) : gb957 ≠ gb962)); have n12_ := zA_ ((by rw [hg]; exact Nat.ne_of_gt (blk_lt (g := gb957) (o := .cells #[.int .i64 x958000_1, .string x958001_1, .int .i64 x958002_1] 41 (0, 0)) (zb_ BK957.out)) : gb962 ≠ gb957)); clear BK955 BK956 BK957 HB; have BK955 := n0_; have BK956 := n1_; have BK957 := n2_; have HB := n3_; have BK962 := n4_; have GW962 := n5_; have GE962 := n6_; have NB955_962 := n7_; have NB962_955 := n8_; have NB956_962 := n9_; have NB962_956 := n10_; have NB957_962 := n11_; have NB962_957 := n12_; clear n0_ n1_ n2_ n3_ n4_ n5_ n6_ n7_ n8_ n9_ n10_ n11_ n12_; clear hb hbox hg; have hnb32 := NB962_955.out; have hnc32 := NB955_962.out; have hnb33 := NB962_956.out; have hnc33 := NB956_962.out; have hnb34 := NB962_957.out; have hnc34 := NB957_962.out; have hcz35_0 : w31.cell? ⟨gb962, 0, none⟩ = some (.int .i64 0) := (blk_cell BK962.out 0).trans rfl; have hcz35_1 : w31.cell? ⟨gb962, 1, none⟩ = some (.string (⟨#[]⟩ : ByteArray)) := (blk_cell BK962.out 1).trans rfl; have hcz35_2 : w31.cell? ⟨gb962, 2, none⟩ = some (.int .i64 0) := (blk_cell BK962.out 2).trans rfl; have hfz35_0 := blk_frozen BK962.out 0; have hfz35_1 := blk_frozen BK962.out 1; have hfz35_2 := blk_frozen BK962.out 2; have hnb36 := NB957_956.out; have hnc36 := NB956_957.out; have hcz37_0 : w31.cell? ⟨gb957, 0, none⟩ = some (.int .i64 x958000_1) := (blk_cell BK957.out 0).trans rfl; have hcz37_1 : w31.cell? ⟨gb957, 1, none⟩ = some (.string x958001_1) := (blk_cell BK957.out 1).trans rfl; have hcz37_2 : w31.cell? ⟨gb957, 2, none⟩ = some (.int .i64 x958002_1) := (blk_cell BK957.out 2).trans rfl; have hfz37_0 := blk_frozen BK957.out 0; have hfz37_1 := blk_frozen BK957.out 1; have hfz37_2 := blk_frozen BK957.out 2))
       go_roundg k1
       case measure => have := HK1.out; omega
       case rel => exact ⟨(x9_1), (wrap64 (x9_1 + 1)), (t959), (t960), (t961), (by first | rfl | (simp; done) | (simp [*]; done)), (by first | rfl | (simp; done) | (simp [*]; done)), H', ⟨by have := HK1.out; omega⟩, ⟨by (with_reducible repeat (first | refine blk_drewN ?_ _ | refine blk_drew ?_ | refine blk_alloc ?_ _)); refine blk_far ?_ NB955_957.out _; (with_reducible repeat (first | refine blk_drewN ?_ _ | refine blk_drew ?_ | refine blk_alloc ?_ _)); refine blk_far ?_ NB955_957.out _; (with_reducible repeat (first | refine blk_drewN ?_ _ | refine blk_drew ?_ | refine blk_alloc ?_ _)); refine blk_far ?_ NB955_957.out _; (with_reducible repeat (first | refine blk_drewN ?_ _ | refine blk_drew ?_ | refine blk_alloc ?_ _)); refine blk_far ?_ NB955_962.out _; (with_reducible repeat (first | refine blk_drewN ?_ _ | refine blk_drew ?_ | refine blk_alloc ?_ _)); refine blk_far ?_ NB955_962.out _; (with_reducible repeat (first | refine blk_drewN ?_ _ | refine blk_drew ?_ | refine blk_alloc ?_ _)); refine blk_far ?_ NB955_962.out _; (with_reducible repeat (first | refine blk_drewN ?_ _ | refine blk_drew ?_ | refine blk_alloc ?_ _)); exact BK955.out⟩, ⟨by (with_reducible repeat (first | refine blk_drewN ?_ _ | refine blk_drew ?_ | refine blk_alloc ?_ _)); refine blk_far ?_ NB956_957.out _; (with_reducible repeat (first | refine blk_drewN ?_ _ | refine blk_drew ?_ | refine blk_alloc ?_ _)); refine blk_far ?_ NB956_957.out _; (with_reducible repeat (first | refine blk_drewN ?_ _ | refine blk_drew ?_ | refine blk_alloc ?_ _)); refine blk_far ?_ NB956_957.out _; (with_reducible repeat (first | refine blk_drewN ?_ _ | refine blk_drew ?_ | refine blk_alloc ?_ _)); refine blk_far ?_ NB956_962.out _; (with_reducible repeat (first | refine blk_drewN ?_ _ | refine blk_drew ?_ | refine blk_alloc ?_ _)); refine blk_far ?_ NB956_962.out _; (with_reducible repeat (first | refine blk_drewN ?_ _ | refine blk_drew ?_ | refine blk_alloc ?_ _)); refine blk_far ?_ NB956_962.out _; (with_reducible repeat (first | refine blk_drewN ?_ _ | refine blk_drew ?_ | refine blk_alloc ?_ _)); exact BK956.out⟩, ⟨by (with_reducible repeat (first | refine blk_drewN ?_ _ | refine blk_drew ?_ | refine blk_alloc ?_ _)); refine blk_put (cs := #[.int .i64 t959, .string t960, .int .i64 x958002_1]) ?_ 2 _ rfl; (with_reducible repeat (first | refine blk_drewN ?_ _ | refine blk_drew ?_ | refine blk_alloc ?_ _)); refine blk_put (cs := #[.int .i64 t959, .string x958001_1, .int .i64 x958002_1]) ?_ 1 _ rfl; (with_reducible repeat (first | refine blk_drewN ?_ _ | refine blk_drew ?_ | refine blk_alloc ?_ _)); refine blk_put (cs := #[.int .i64 x958000_1, .string x958001_1, .int .i64 x958002_1]) ?_ 0 _ rfl; (with_reducible repeat (first | refine blk_drewN ?_ _ | refine blk_drew ?_ | refine blk_alloc ?_ _)); refine blk_far ?_ NB957_962.out _; (with_reducible repeat (first | refine blk_drewN ?_ _ | refine blk_drew ?_ | refine blk_alloc ?_ _)); refine blk_far ?_ NB957_962.out _; (with_reducible repeat (first | refine blk_drewN ?_ _ | refine blk_drew ?_ | refine blk_alloc ?_ _)); refine blk_far ?_ NB957_962.out _; (with_reducible repeat (first | refine blk_drewN ?_ _ | refine blk_drew ?_ | refine blk_alloc ?_ _)); exact BK957.out⟩, ⟨zg4_ HB.out GE955.out GE956.out GE957.out GE962.out⟩⟩
      ·
       rw [if_neg c25] at H
       have c25b0 : decide (x958000_1 < t959) = false := decide_eq_false c25
       clear c25
       have H' := zA_ H
       clear H
       have hnb38 := NB955_956.out
       have hnc38 := NB956_955.out
       have hnb39 := NB955_957.out
       have hnc39 := NB957_955.out
       have hcz40_0 : wr.cell? ⟨gb955, 0, none⟩ = some (.slice A0_0 l0_0.length c0_0) := (blk_cell BK955.out 0).trans rfl
       have hcz40_1 : wr.cell? ⟨gb955, 1, none⟩ = some (.slice A0_1 l0_1.length c0_1) := (blk_cell BK955.out 1).trans rfl
       have hfz40_0 := blk_frozen BK955.out 0
       have hfz40_1 := blk_frozen BK955.out 1
       go_wp2_with (first | ((with_reducible refine gate_callee (f := 90) rfl ?_); refine goesL_ (some 14) rfl rfl Try.func90 (by kernel_rfl) rfl #[.agg #[.slice A0_0 l0_0.length c0_0, .slice A0_1 l0_1.length c0_1], .int .i64 x9_1] rfl zs_ ?_; (with_reducible refine (impl_Flash_read.calls _ _ l0_0 _ _ l0_1 x9_1 t958 _ ?side1 ?side2 ?side3 ?side4 A9.out).mono ?_); (case side1 => exact zc_ (Kd.C_below HR0_0.out HB.out)); (case side2 => exact HC0_0.out); (case side3 => exact zc_ (Kd.C_below HR0_1.out HB.out)); (case side4 => exact HC0_1.out); rintro e w41 ⟨rfl, hb⟩; refine ⟨_, rfl, ?_⟩; have n0_ := zA_ (blk_below (g := gb955) (o := .cells #[.slice A0_0 l0_0.length c0_0, .slice A0_1 l0_1.length c0_1] 30 (0, 0)) (zb_ BK955.out) hb); have n1_ := zA_ (blk_below (g := gb956) (o := .cells #[.int .i64 0, .string (⟨#[]⟩ : ByteArray), .int .i64 0] 41 (0, 0)) (zb_ BK956.out) hb); have n2_ := zA_ (blk_below (g := gb957) (o := .cells #[.int .i64 x958000_1, .string x958001_1, .int .i64 x958002_1] 41 (0, 0)) (zb_ BK957.out) hb); have n3_ := zA_ (below_step (zg3_ HB.out GE955.out GE956.out GE957.out) hb); clear BK955 BK956 BK957 HB; have BK955 := n0_; have BK956 := n1_; have BK957 := n2_; have HB := n3_; clear n0_ n1_ n2_ n3_; (try clear hb); (try clear hb2); (try clear hk); (try clear hi)) | ((with_reducible refine gate_callee (f := 86) rfl ?_); refine goesL_ (some 15) rfl rfl Try.func86 (by kernel_rfl) rfl #[.string t958] rfl zs_ ?_; (with_reducible refine (impl_metaRead.calls k1 t958 t959 t960 t961 _ A10.out).mono ?_); rintro e w42 ⟨rfl, hb⟩; refine ⟨_, rfl, ?_⟩; have n0_ := zA_ (blk_below (g := gb955) (o := .cells #[.slice A0_0 l0_0.length c0_0, .slice A0_1 l0_1.length c0_1] 30 (0, 0)) (zb_ BK955.out) hb); have n1_ := zA_ (blk_below (g := gb956) (o := .cells #[.int .i64 0, .string (⟨#[]⟩ : ByteArray), .int .i64 0] 41 (0, 0)) (zb_ BK956.out) hb); have n2_ := zA_ (blk_below (g := gb957) (o := .cells #[.int .i64 x958000_1, .string x958001_1, .int .i64 x958002_1] 41 (0, 0)) (zb_ BK957.out) hb); have n3_ := zA_ (below_step (zg3_ HB.out GE955.out GE956.out GE957.out) hb); clear BK955 BK956 BK957 HB; have BK955 := n0_; have BK956 := n1_; have BK957 := n2_; have HB := n3_; clear n0_ n1_ n2_ n3_; (try clear hb); (try clear hb2); (try clear hk); (try clear hi)) | ((with_reducible refine gate_dst (N := 7) rfl ?_); refine box_event ?hg (N := 7) ?hd (cs := #[.int .i64 0, .string (⟨#[]⟩ : ByteArray), .int .i64 0]) (t := 41) ?hr ?_; (case hd => rfl); (case hg => rfl); (case hr => first | (go_simp; done) | (go_simp; rfl)); intro gb962 hg w43 hbox hb; have n0_ := zA_ (blk_below (g := gb955) (o := .cells #[.slice A0_0 l0_0.length c0_0, .slice A0_1 l0_1.length c0_1] 30 (0, 0)) (zb_ BK955.out) hb); have n1_ := zA_ (blk_below (g := gb956) (o := .cells #[.int .i64 0, .string (⟨#[]⟩ : ByteArray), .int .i64 0] 41 (0, 0)) (zb_ BK956.out) hb); have n2_ := zA_ (blk_below (g := gb957) (o := .cells #[.int .i64 x958000_1, .string x958001_1, .int .i64 x958002_1] 41 (0, 0)) (zb_ BK957.out) hb); have n3_ := zA_ (below_step (zg3_ HB.out GE955.out GE956.out GE957.out) hb); have n4_ := zA_ (hbox); have n5_ := zA_ ((by rw [hg]; exact (below_size (zg3_ HB.out GE955.out GE956.out GE957.out)) : w.heap.size ≤ gb962)); have n6_ := zA_ ((by rw [hg]; exact (below_size (zg3_ HB.out GE955.out GE956.out GE957.out)) : w.heap.size ≤ gb962)); have n7_ := zA_ ((by rw [hg]; exact Nat.ne_of_lt (blk_lt (g := gb955) (o := .cells #[.slice A0_0 l0_0.length c0_0, .slice A0_1 l0_1.length c0_1] 30 (0, 0)) (zb_ BK955.out)) : gb955 ≠ gb962)); have n8_ := zA_ ((by rw [hg]; exact Nat.ne_of_gt (blk_lt (g := gb955) (o := .cells #[.slice A0_0 l0_0.length c0_0, .slice A0_1 l0_1.length c0_1] 30 (0, 0)) (zb_ BK955.out)) : gb962 ≠ gb955)); have n9_ := zA_ ((by rw [hg]; exact Nat.ne_of_lt (blk_lt (g := gb956) (o := .cells #[.int .i64 0, .string (⟨#[]⟩ : ByteArray), .int .i64 0] 41 (0, 0)) (zb_ BK956.out)) : gb956 ≠ gb962)); have n10_ := zA_ ((by rw [hg]; exact Nat.ne_of_gt (blk_lt (g := gb956) (o := .cells #[.int .i64 0, .string (⟨#[]⟩ : ByteArray), .int .i64 0] 41 (0, 0)) (zb_ BK956.out)) : gb962 ≠ gb956)); have n11_ := zA_ ((by rw [hg]; exact Nat.ne_of_lt (blk_lt (g := gb957) (o := .cells #[.int .i64 x958000_1, .string x958001_1, .int .i64 x958002_1] 41 (0, 0)) (zb_ BK957.out)) : gb957 ≠ gb962)); have n12_ := zA_ ((by rw [hg]; exact Nat.ne_of_gt (blk_lt (g := gb957) (o := .cells #[.int .i64 x958000_1, .string x958001_1, .int .i64 x958002_1] 41 (0, 0)) (zb_ BK957.out)) : gb962 ≠ gb957)); clear BK955 BK956 BK957 HB; have BK955 := n0_; have BK956 := n1_; have BK957 := n2_; have HB := n3_; have BK962 := n4_; have GW962 := n5_; have GE962 := n6_; have NB955_962 := n7_; have NB962_955 := n8_; have NB956_962 := n9_; have NB962_956 := n10_; have NB957_962 := n11_; have NB962_957 := n12_; clear n0_ n1_ n2_ n3_ n4_ n5_ n6_ n7_ n8_ n9_ n10_ n11_ n12_; clear hb hbox hg; have hnb44 := NB962_955.out; have hnc44 := NB955_962.out; have hnb45 := NB962_956.out; have hnc45 := NB956_962.out; have hnb46 := NB962_957.out; have hnc46 := NB957_962.out; have hcz47_0 : w43.cell? ⟨gb962, 0, none⟩ = some (.int .i64 0) := (blk_cell BK962.out 0).trans rfl; have hcz47_1 : w43.cell? ⟨gb962, 1, none⟩ = some (.string (⟨#[]⟩ : ByteArray)) := (blk_cell BK962.out 1).trans rfl; have hcz47_2 : w43.cell? ⟨gb962, 2, none⟩ = some (.int .i64 0) := (blk_cell BK962.out 2).trans rfl; have hfz47_0 := blk_frozen BK962.out 0; have hfz47_1 := blk_frozen BK962.out 1; have hfz47_2 := blk_frozen BK962.out 2; have hnb48 := NB957_956.out; have hnc48 := NB956_957.out; have hcz49_0 : w43.cell? ⟨gb957, 0, none⟩ = some (.int .i64 x958000_1) := (blk_cell BK957.out 0).trans rfl; have hcz49_1 : w43.cell? ⟨gb957, 1, none⟩ = some (.string x958001_1) := (blk_cell BK957.out 1).trans rfl; have hcz49_2 : w43.cell? ⟨gb957, 2, none⟩ = some (.int .i64 x958002_1) := (blk_cell BK957.out 2).trans rfl; have hfz49_0 := blk_frozen BK957.out 0; have hfz49_1 := blk_frozen BK957.out 1; have hfz49_2 := blk_frozen BK957.out 2))
       go_roundg k1
       case measure => have := HK1.out; omega
       case rel => exact ⟨(x5_1), (wrap64 (x9_1 + 1)), (x958000_1), (x958001_1), (x958002_1), (by first | rfl | (simp; done) | (simp [*]; done)), (by first | rfl | (simp; done) | (simp [*]; done)), H', ⟨by have := HK1.out; omega⟩, ⟨zf3_ NB955_962.out NB955_962.out NB955_962.out BK955.out⟩, ⟨zf3_ NB956_962.out NB956_962.out NB956_962.out BK956.out⟩, ⟨zf3_ NB957_962.out NB957_962.out NB957_962.out BK957.out⟩, ⟨zg4_ HB.out GE955.out GE956.out GE957.out GE962.out⟩⟩
    ·
     rw [if_neg c11] at H
     have c11b0 : (t961 == 0) = false := beq_eq_false_iff_ne.mpr c11
     have c11b1 : (t961 != 0) = true := bne_iff_ne.mpr c11
     have H' := zA_ H
     clear H
     have hnb50 := NB955_956.out
     have hnc50 := NB956_955.out
     have hnb51 := NB955_957.out
     have hnc51 := NB957_955.out
     have hcz52_0 : wr.cell? ⟨gb955, 0, none⟩ = some (.slice A0_0 l0_0.length c0_0) := (blk_cell BK955.out 0).trans rfl
     have hcz52_1 : wr.cell? ⟨gb955, 1, none⟩ = some (.slice A0_1 l0_1.length c0_1) := (blk_cell BK955.out 1).trans rfl
     have hfz52_0 := blk_frozen BK955.out 0
     have hfz52_1 := blk_frozen BK955.out 1
     go_wp2_with (first | ((with_reducible refine gate_callee (f := 90) rfl ?_); refine goesL_ (some 14) rfl rfl Try.func90 (by kernel_rfl) rfl #[.agg #[.slice A0_0 l0_0.length c0_0, .slice A0_1 l0_1.length c0_1], .int .i64 x9_1] rfl zs_ ?_; (with_reducible refine (impl_Flash_read.calls _ _ l0_0 _ _ l0_1 x9_1 t958 _ ?side1 ?side2 ?side3 ?side4 A9.out).mono ?_); (case side1 => exact zc_ (Kd.C_below HR0_0.out HB.out)); (case side2 => exact HC0_0.out); (case side3 => exact zc_ (Kd.C_below HR0_1.out HB.out)); (case side4 => exact HC0_1.out); rintro e w53 ⟨rfl, hb⟩; refine ⟨_, rfl, ?_⟩; have n0_ := zA_ (blk_below (g := gb955) (o := .cells #[.slice A0_0 l0_0.length c0_0, .slice A0_1 l0_1.length c0_1] 30 (0, 0)) (zb_ BK955.out) hb); have n1_ := zA_ (blk_below (g := gb956) (o := .cells #[.int .i64 0, .string (⟨#[]⟩ : ByteArray), .int .i64 0] 41 (0, 0)) (zb_ BK956.out) hb); have n2_ := zA_ (blk_below (g := gb957) (o := .cells #[.int .i64 x958000_1, .string x958001_1, .int .i64 x958002_1] 41 (0, 0)) (zb_ BK957.out) hb); have n3_ := zA_ (below_step (zg3_ HB.out GE955.out GE956.out GE957.out) hb); clear BK955 BK956 BK957 HB; have BK955 := n0_; have BK956 := n1_; have BK957 := n2_; have HB := n3_; clear n0_ n1_ n2_ n3_; (try clear hb); (try clear hb2); (try clear hk); (try clear hi)) | ((with_reducible refine gate_callee (f := 86) rfl ?_); refine goesL_ (some 15) rfl rfl Try.func86 (by kernel_rfl) rfl #[.string t958] rfl zs_ ?_; (with_reducible refine (impl_metaRead.calls k1 t958 t959 t960 t961 _ A10.out).mono ?_); rintro e w54 ⟨rfl, hb⟩; refine ⟨_, rfl, ?_⟩; have n0_ := zA_ (blk_below (g := gb955) (o := .cells #[.slice A0_0 l0_0.length c0_0, .slice A0_1 l0_1.length c0_1] 30 (0, 0)) (zb_ BK955.out) hb); have n1_ := zA_ (blk_below (g := gb956) (o := .cells #[.int .i64 0, .string (⟨#[]⟩ : ByteArray), .int .i64 0] 41 (0, 0)) (zb_ BK956.out) hb); have n2_ := zA_ (blk_below (g := gb957) (o := .cells #[.int .i64 x958000_1, .string x958001_1, .int .i64 x958002_1] 41 (0, 0)) (zb_ BK957.out) hb); have n3_ := zA_ (below_step (zg3_ HB.out GE955.out GE956.out GE957.out) hb); clear BK955 BK956 BK957 HB; have BK955 := n0_; have BK956 := n1_; have BK957 := n2_; have HB := n3_; clear n0_ n1_ n2_ n3_; (try clear hb); (try clear hb2); (try clear hk); (try clear hi)) | ((with_reducible refine gate_dst (N := 7) rfl ?_); refine box_event ?hg (N := 7) ?hd (cs := #[.int .i64 0, .string (⟨#[]⟩ : ByteArray), .int .i64 0]) (t := 41) ?hr ?_; (case hd => rfl); (case hg => rfl); (case hr => first | (go_simp; done) | (go_simp; rfl)); intro gb962 hg w55 hbox hb; have n0_ := zA_ (blk_below (g := gb955) (o := .cells #[.slice A0_0 l0_0.length c0_0, .slice A0_1 l0_1.length c0_1] 30 (0, 0)) (zb_ BK955.out) hb); have n1_ := zA_ (blk_below (g := gb956) (o := .cells #[.int .i64 0, .string (⟨#[]⟩ : ByteArray), .int .i64 0] 41 (0, 0)) (zb_ BK956.out) hb); have n2_ := zA_ (blk_below (g := gb957) (o := .cells #[.int .i64 x958000_1, .string x958001_1, .int .i64 x958002_1] 41 (0, 0)) (zb_ BK957.out) hb); have n3_ := zA_ (below_step (zg3_ HB.out GE955.out GE956.out GE957.out) hb); have n4_ := zA_ (hbox); have n5_ := zA_ ((by rw [hg]; exact (below_size (zg3_ HB.out GE955.out GE956.out GE957.out)) : w.heap.size ≤ gb962)); have n6_ := zA_ ((by rw [hg]; exact (below_size (zg3_ HB.out GE955.out GE956.out GE957.out)) : w.heap.size ≤ gb962)); have n7_ := zA_ ((by rw [hg]; exact Nat.ne_of_lt (blk_lt (g := gb955) (o := .cells #[.slice A0_0 l0_0.length c0_0, .slice A0_1 l0_1.length c0_1] 30 (0, 0)) (zb_ BK955.out)) : gb955 ≠ gb962)); have n8_ := zA_ ((by rw [hg]; exact Nat.ne_of_gt (blk_lt (g := gb955) (o := .cells #[.slice A0_0 l0_0.length c0_0, .slice A0_1 l0_1.length c0_1] 30 (0, 0)) (zb_ BK955.out)) : gb962 ≠ gb955)); have n9_ := zA_ ((by rw [hg]; exact Nat.ne_of_lt (blk_lt (g := gb956) (o := .cells #[.int .i64 0, .string (⟨#[]⟩ : ByteArray), .int .i64 0] 41 (0, 0)) (zb_ BK956.out)) : gb956 ≠ gb962)); have n10_ := zA_ ((by rw [hg]; exact Nat.ne_of_gt (blk_lt (g := gb956) (o := .cells #[.int .i64 0, .string (⟨#[]⟩ : ByteArray), .int .i64 0] 41 (0, 0)) (zb_ BK956.out)) : gb962 ≠ gb956)); have n11_ := zA_ ((by rw [hg]; exact Nat.ne_of_lt (blk_lt (g := gb957) (o := .cells #[.int .i64 x958000_1, .string x958001_1, .int .i64 x958002_1] 41 (0, 0)) (zb_ BK957.out)) : gb957 ≠ gb962)); have n12_ := zA_ ((by rw [hg]; exact Nat.ne_of_gt (blk_lt (g := gb957) (o := .cells #[.int .i64 x958000_1, .string x958001_1, .int .i64 x958002_1] 41 (0, 0)) (zb_ BK957.out)) : gb962 ≠ gb957)); clear BK955 BK956 BK957 HB; have BK955 := n0_; have BK956 := n1_; have BK957 := n2_; have HB := n3_; have BK962 := n4_; have GW962 := n5_; have GE962 := n6_; have NB955_962 := n7_; have NB962_955 := n8_; have NB956_962 := n9_; have NB962_956 := n10_; have NB957_962 := n11_; have NB962_957 := n12_; clear n0_ n1_ n2_ n3_ n4_ n5_ n6_ n7_ n8_ n9_ n10_ n11_ n12_; clear hb hbox hg; have hnb56 := NB962_955.out; have hnc56 := NB955_962.out; have hnb57 := NB962_956.out; have hnc57 := NB956_962.out; have hnb58 := NB962_957.out; have hnc58 := NB957_962.out; have hcz59_0 : w55.cell? ⟨gb962, 0, none⟩ = some (.int .i64 0) := (blk_cell BK962.out 0).trans rfl; have hcz59_1 : w55.cell? ⟨gb962, 1, none⟩ = some (.string (⟨#[]⟩ : ByteArray)) := (blk_cell BK962.out 1).trans rfl; have hcz59_2 : w55.cell? ⟨gb962, 2, none⟩ = some (.int .i64 0) := (blk_cell BK962.out 2).trans rfl; have hfz59_0 := blk_frozen BK962.out 0; have hfz59_1 := blk_frozen BK962.out 1; have hfz59_2 := blk_frozen BK962.out 2))
     go_roundg k1
     case measure => have := HK1.out; omega
     case rel => exact ⟨(x5_1), (wrap64 (x9_1 + 1)), (x958000_1), (x958001_1), (x958002_1), (by first | rfl | (simp; done) | (simp [*]; done)), (by first | rfl | (simp; done) | (simp [*]; done)), H', ⟨by have := HK1.out; omega⟩, ⟨zf3_ NB955_962.out NB955_962.out NB955_962.out BK955.out⟩, ⟨zf3_ NB956_962.out NB956_962.out NB956_962.out BK956.out⟩, ⟨zf3_ NB957_962.out NB957_962.out NB957_962.out BK957.out⟩, ⟨zg4_ HB.out GE955.out GE956.out GE957.out GE962.out⟩⟩
   ·
    rw [if_neg c8] at H
    have c8b0 : decide (x9_1 < 2) = false := decide_eq_false c8
    clear c8
    simp only [Option.some.injEq, Prod.mk.injEq] at H
    obtain ⟨rfl, rfl, rfl, rfl⟩ := H
    have hnb60 := NB957_955.out
    have hnc60 := NB955_957.out
    have hnb61 := NB957_956.out
    have hnc61 := NB956_957.out
    have hcz62_0 : wr.cell? ⟨gb957, 0, none⟩ = some (.int .i64 x958000_1) := (blk_cell BK957.out 0).trans rfl
    have hcz62_1 : wr.cell? ⟨gb957, 1, none⟩ = some (.string x958001_1) := (blk_cell BK957.out 1).trans rfl
    have hcz62_2 : wr.cell? ⟨gb957, 2, none⟩ = some (.int .i64 x958002_1) := (blk_cell BK957.out 2).trans rfl
    have hfz62_0 := blk_frozen BK957.out 0
    have hfz62_1 := blk_frozen BK957.out 1
    have hfz62_2 := blk_frozen BK957.out 2
    have hnb63 := NB956_955.out
    have hnc63 := NB955_956.out
    have hcz64_0 : wr.cell? ⟨gb956, 0, none⟩ = some (.int .i64 0) := (blk_cell BK956.out 0).trans rfl
    have hcz64_1 : wr.cell? ⟨gb956, 1, none⟩ = some (.string (⟨#[]⟩ : ByteArray)) := (blk_cell BK956.out 1).trans rfl
    have hcz64_2 : wr.cell? ⟨gb956, 2, none⟩ = some (.int .i64 0) := (blk_cell BK956.out 2).trans rfl
    have hfz64_0 := blk_frozen BK956.out 0
    have hfz64_1 := blk_frozen BK956.out 1
    have hfz64_2 := blk_frozen BK956.out 2
    go_wp2
    refine bodyPost_ret (results_ct rfl _ _ gb956 41 #[.int .i64 x958000_1, .string x958001_1, .int .i64 x958002_1] (0, 0) _ rfl (by (with_reducible repeat (first | refine blk_drewN ?_ _ | refine blk_drew ?_ | refine blk_alloc ?_ _)); refine blk_put (cs := #[.int .i64 x958000_1, .string x958001_1, .int .i64 0]) ?_ 2 _ rfl; (with_reducible repeat (first | refine blk_drewN ?_ _ | refine blk_drew ?_ | refine blk_alloc ?_ _)); refine blk_put (cs := #[.int .i64 x958000_1, .string (⟨#[]⟩ : ByteArray), .int .i64 0]) ?_ 1 _ rfl; (with_reducible repeat (first | refine blk_drewN ?_ _ | refine blk_drew ?_ | refine blk_alloc ?_ _)); refine blk_put (cs := #[.int .i64 0, .string (⟨#[]⟩ : ByteArray), .int .i64 0]) ?_ 0 _ rfl; (with_reducible repeat (first | refine blk_drewN ?_ _ | refine blk_drew ?_ | refine blk_alloc ?_ _)); exact BK956.out) Try.underlying41 rfl (by kernel_rfl)) rfl ?_
    exact ⟨by first | rfl | (simp [errW_none, errW_some] <;> rfl) | (simp [*, errW_none, errW_some] <;> rfl), by repeat (first | (with_reducible first | exact HB.out | apply below_alloc | apply pw_below_drewN | apply below_drew1 | refine below_set ?_ GE955.out | refine below_set ?_ GE956.out | refine below_set ?_ GE957.out) | exact HB.out)⟩

/-! ### spec_l04Acts: function 106 -/
def spec_l04Acts.f (k : Nat) (l0_0 : List ByteArray) (l0_1 : List (S92)) (a1 : ByteArray) : Option ((List (S116))) := (spec_l04Get.f k l0_0 l0_1).bind fun bt1003 => (if bt1003.1 ≥ 1000000 then (some (([] : List (S116)))) else (if bt1003.2.2.2 = 0 then ((spec_MetaBytes.f k (wrap64 (bt1003.1 + 1)) a1).bind fun t1011 => (some (([(⟨false, 1, t1011⟩ : S116), (⟨true, 0, (⟨#[]⟩ : ByteArray)⟩ : S116)] : List (S116))))) else ((spec_MetaBytes.f k (wrap64 (bt1003.1 + 1)) a1).bind fun t1015 => (some (([(⟨false, 0, t1015⟩ : S116), (⟨true, 0, (⟨#[]⟩ : ByteArray)⟩ : S116)] : List (S116)))))))
theorem spec_l04Acts.mono : ∀ a0 a1 a2 k, LeO (spec_l04Acts.f k a0 a1 a2) (spec_l04Acts.f (k + 1) a0 a1 a2) := by
 intro a0 a1 a2 k
 unfold spec_l04Acts.f
 repeat' first
   | (with_reducible exact spec_MetaBytes.mono _ _ _)
   | (with_reducible exact spec_l04Get.mono _ _ _)
   | (with_reducible exact LeO.refl _)
   | (with_reducible exact LeO.none _)
   | (with_reducible refine LeO.ite ?_ ?_)
   | (with_reducible refine LeO.bind ?_ (fun _ => ?_))
   | exact spec_MetaBytes.mono _ _ _
   | exact spec_l04Get.mono _ _ _
   | exact LeO.none _
   | refine LeO.ite ?_ ?_
   | refine LeO.bind ?_ (fun _ => ?_)
set_option maxHeartbeats 8000000 in
set_option maxRecDepth 100000 in
theorem spec_l04Acts.calls (k : Nat) (A0_0 : Option Addr) (c0_0 : Nat) (l0_0 : List ByteArray) (A0_1 : Option Addr) (c0_1 : Nat) (l0_1 : List (S92)) (a1 : ByteArray) (r : List (S116)) (w : World) (hr0_0 : Kd.C Kd.string w A0_0 l0_0.length l0_0) (hc0_0 : l0_0.length ≤ c0_0) (hr0_1 : Kd.C k92 w A0_1 l0_1.length l0_1) (hc0_1 : l0_1.length ≤ c0_1) (h : spec_l04Acts.f k l0_0 l0_1 a1 = some r) :
  Calls Try.prog 106 #[.agg #[.slice A0_0 l0_0.length c0_0, .slice A0_1 l0_1.length c0_1], .string a1] w fun e w' => ∃ v0_ : Value, e = .returned (v0_) ∧ Kd.R k116 116 w' w.heap.size (fun _ => True) v0_ r ∧ Below w.heap.size w w' := by
 have hu30 := Try.underlying30
 have hu41 := Try.underlying41
 have hu116 := Try.underlying116
 have HR0_0 := zA_ hr0_0
 have HC0_0 := zA_ hc0_0
 clear hr0_0 hc0_0
 have HR0_1 := zA_ hr0_1
 have HC0_1 := zA_ hc0_1
 clear hr0_1 hc0_1
 have HB := zA_ (Below.refl w.heap.size w)
 have H : ((spec_l04Get.f k l0_0 l0_1).bind fun bt1003 => (if bt1003.1 ≥ 1000000 then (some (([] : List (S116)))) else (if bt1003.2.2.2 = 0 then ((spec_MetaBytes.f k (wrap64 (bt1003.1 + 1)) a1).bind fun t1011 => (some (([(⟨false, 1, t1011⟩ : S116), (⟨true, 0, (⟨#[]⟩ : ByteArray)⟩ : S116)] : List (S116))))) else ((spec_MetaBytes.f k (wrap64 (bt1003.1 + 1)) a1).bind fun t1015 => (some (([(⟨false, 0, t1015⟩ : S116), (⟨true, 0, (⟨#[]⟩ : ByteArray)⟩ : S116)] : List (S116)))))))) = some r := h
 clear h
 replace H := Option.bind_eq_some_iff.mp H
 obtain ⟨⟨t1003, t1004, t1005, t1006⟩, A30, H⟩ := H
 replace H : (if t1003 ≥ 1000000 then (some (([] : List (S116)))) else (if t1006 = 0 then ((spec_MetaBytes.f k (wrap64 (t1003 + 1)) a1).bind fun t1011 => (some (([(⟨false, 1, t1011⟩ : S116), (⟨true, 0, (⟨#[]⟩ : ByteArray)⟩ : S116)] : List (S116))))) else ((spec_MetaBytes.f k (wrap64 (t1003 + 1)) a1).bind fun t1015 => (some (([(⟨false, 0, t1015⟩ : S116), (⟨true, 0, (⟨#[]⟩ : ByteArray)⟩ : S116)] : List (S116))))))) = some r := H
 have A3 := zA_ A30
 clear A30
 by_cases c4 : t1003 ≥ 1000000
 ·
  rw [if_pos c4] at H
  have c4b0 : decide (1000000 ≤ t1003) = true := decide_eq_true c4
  clear c4
  obtain ⟨y1008, hy1008⟩ : ∃ y_ : List (S116), y_ = (([] : List (S116))) := ⟨_, rfl⟩
  replace H : (some y1008) = some r := by first | (rw [hy1008]; with_reducible exact H) | (have H2_ := (Option.bind_some _ _).symm.trans H; rw [hy1008]; with_reducible exact H2_) | (have H2_ := (Option.bind_some _ _).symm.trans H; with_reducible exact H2_) | with_reducible exact H | (rw [hy1008]; exact H) | exact H
  have Ny1008 := zA_ hy1008
  clear hy1008
  obtain rfl := Option.some.inj H
  go_enter Try.func106, Try.ntmps106
  go_wp2_with (first | ((with_reducible refine gate_dst (N := 2) rfl ?_); refine box_event ?hg (N := 2) ?hd (cs := #[.slice A0_0 l0_0.length c0_0, .slice A0_1 l0_1.length c0_1]) (t := 30) ?hr ?_; (case hd => rfl); (case hg => rfl); (case hr => first | (go_simp; done) | (go_simp; rfl)); intro gb1002 hg w5 hbox hb; have n0_ := zA_ (below_step (zh_ HB.out) hb); have n1_ := zA_ (hbox); have n2_ := zA_ ((by rw [hg]; exact (below_size (zh_ HB.out)) : w.heap.size ≤ gb1002)); have n3_ := zA_ ((by rw [hg]; exact (below_size (zh_ HB.out)) : w.heap.size ≤ gb1002)); clear HB; have HB := n0_; have BK1002 := n1_; have GW1002 := n2_; have GE1002 := n3_; clear n0_ n1_ n2_ n3_; clear hb hbox hg; have hcz6_0 : w5.cell? ⟨gb1002, 0, none⟩ = some (.slice A0_0 l0_0.length c0_0) := (blk_cell BK1002.out 0).trans rfl; have hcz6_1 : w5.cell? ⟨gb1002, 1, none⟩ = some (.slice A0_1 l0_1.length c0_1) := (blk_cell BK1002.out 1).trans rfl; have hfz6_0 := blk_frozen BK1002.out 0; have hfz6_1 := blk_frozen BK1002.out 1) | ((with_reducible refine gate_callee (f := 104) rfl ?_); refine goesL_ (some 10) rfl rfl Try.func104 (by kernel_rfl) rfl #[.agg #[.slice A0_0 l0_0.length c0_0, .slice A0_1 l0_1.length c0_1]] rfl zs_ ?_; (with_reducible refine (spec_l04Get.calls k _ _ l0_0 _ _ l0_1 t1003 t1004 t1005 t1006 _ ?side1 ?side2 ?side3 ?side4 A3.out).mono ?_); (case side1 => exact zc_ (Kd.C_below HR0_0.out HB.out)); (case side2 => exact HC0_0.out); (case side3 => exact zc_ (Kd.C_below HR0_1.out HB.out)); (case side4 => exact HC0_1.out); rintro e w7 ⟨rfl, hb⟩; refine ⟨_, rfl, ?_⟩; have n0_ := zA_ (blk_below (g := gb1002) (o := .cells #[.slice A0_0 l0_0.length c0_0, .slice A0_1 l0_1.length c0_1] 30 (0, 0)) (zb_ BK1002.out) hb); have n1_ := zA_ (below_step (zg1_ HB.out GE1002.out) hb); clear BK1002 HB; have BK1002 := n0_; have HB := n1_; clear n0_ n1_; (try clear hb); (try clear hb2); (try clear hk); (try clear hi)) | ((with_reducible refine gate_dst (N := 5) rfl ?_); refine box_event ?hg (N := 5) ?hd (cs := #[.int .i64 0, .string (⟨#[]⟩ : ByteArray), .int .i64 0]) (t := 41) ?hr ?_; (case hd => rfl); (case hg => rfl); (case hr => first | (go_simp; done) | (go_simp; rfl)); intro gb1007 hg w8 hbox hb; have n0_ := zA_ (blk_below (g := gb1002) (o := .cells #[.slice A0_0 l0_0.length c0_0, .slice A0_1 l0_1.length c0_1] 30 (0, 0)) (zb_ BK1002.out) hb); have n1_ := zA_ (below_step (zg1_ HB.out GE1002.out) hb); have n2_ := zA_ (hbox); have n3_ := zA_ ((by rw [hg]; exact (below_size (zg1_ HB.out GE1002.out)) : w.heap.size ≤ gb1007)); have n4_ := zA_ ((by rw [hg]; exact (below_size (zg1_ HB.out GE1002.out)) : w.heap.size ≤ gb1007)); have n5_ := zA_ ((by rw [hg]; exact Nat.ne_of_lt (blk_lt (g := gb1002) (o := .cells #[.slice A0_0 l0_0.length c0_0, .slice A0_1 l0_1.length c0_1] 30 (0, 0)) (zb_ BK1002.out)) : gb1002 ≠ gb1007)); have n6_ := zA_ ((by rw [hg]; exact Nat.ne_of_gt (blk_lt (g := gb1002) (o := .cells #[.slice A0_0 l0_0.length c0_0, .slice A0_1 l0_1.length c0_1] 30 (0, 0)) (zb_ BK1002.out)) : gb1007 ≠ gb1002)); clear BK1002 HB; have BK1002 := n0_; have HB := n1_; have BK1007 := n2_; have GW1007 := n3_; have GE1007 := n4_; have NB1002_1007 := n5_; have NB1007_1002 := n6_; clear n0_ n1_ n2_ n3_ n4_ n5_ n6_; clear hb hbox hg; have hnb9 := NB1007_1002.out; have hnc9 := NB1002_1007.out; have hcz10_0 : w8.cell? ⟨gb1007, 0, none⟩ = some (.int .i64 0) := (blk_cell BK1007.out 0).trans rfl; have hcz10_1 : w8.cell? ⟨gb1007, 1, none⟩ = some (.string (⟨#[]⟩ : ByteArray)) := (blk_cell BK1007.out 1).trans rfl; have hcz10_2 : w8.cell? ⟨gb1007, 2, none⟩ = some (.int .i64 0) := (blk_cell BK1007.out 2).trans rfl; have hfz10_0 := blk_frozen BK1007.out 0; have hfz10_1 := blk_frozen BK1007.out 1; have hfz10_2 := blk_frozen BK1007.out 2) | ((with_reducible refine gate_dst (N := 16) rfl ?_); refine Kd.R_lit k116 _ 116 ?hg (N := 16) ?hd (xs := ([] : List (S116))) (inner := []) (ok := fun _ => True) (okp := fun _ => True) ?hr ?hp (fun _ hk => hk) trivial (Below.refl _ _) (Nat.le_refl _) (by simp) ?_; (case hd => rfl); (case hg => rfl); (case hr => first | (go_simp; done) | (go_simp; rfl)); (case hp => exact (Reps.none _ _)); intro v1009 w11 ho12 hb hg_ hnew_; clear hg_ hnew_; (first | rw [← Ny1008.out] at ho12 | (simp only [Int.reduceToNat] at ho12; rw [← Ny1008.out] at ho12)); have n0_ := zA_ (Kd.R_lower ho12 (below_size (zg2_ HB.out GE1002.out GE1007.out))); have n1_ := zA_ (blk_below (g := gb1002) (o := .cells #[.slice A0_0 l0_0.length c0_0, .slice A0_1 l0_1.length c0_1] 30 (0, 0)) (zf3_ NB1002_1007.out NB1002_1007.out NB1002_1007.out BK1002.out) hb); have n2_ := zA_ (blk_below (g := gb1007) (o := .cells #[.int .i64 t1003, .string t1004, .int .i64 t1005] 41 (0, 0)) (by (with_reducible repeat (first | refine blk_drewN ?_ _ | refine blk_drew ?_ | refine blk_alloc ?_ _)); refine blk_put (cs := #[.int .i64 t1003, .string t1004, .int .i64 0]) ?_ 2 _ rfl; (with_reducible repeat (first | refine blk_drewN ?_ _ | refine blk_drew ?_ | refine blk_alloc ?_ _)); refine blk_put (cs := #[.int .i64 t1003, .string (⟨#[]⟩ : ByteArray), .int .i64 0]) ?_ 1 _ rfl; (with_reducible repeat (first | refine blk_drewN ?_ _ | refine blk_drew ?_ | refine blk_alloc ?_ _)); refine blk_put (cs := #[.int .i64 0, .string (⟨#[]⟩ : ByteArray), .int .i64 0]) ?_ 0 _ rfl; (with_reducible repeat (first | refine blk_drewN ?_ _ | refine blk_drew ?_ | refine blk_alloc ?_ _)); exact BK1007.out) hb); have n3_ := zA_ (below_step (zg2_ HB.out GE1002.out GE1007.out) hb); clear BK1002 BK1007 HB; have HO1010 := n0_; have BK1002 := n1_; have BK1007 := n2_; have HB := n3_; clear n0_ n1_ n2_ n3_; clear hb ho12))
  go_ret
  exact ⟨_, by first | rfl | (simp [errW_none, errW_some] <;> rfl) | (simp [*, errW_none, errW_some] <;> rfl), by (with_reducible repeat (first | apply Kd.R_alloc | apply Kd.R_drewN | apply Kd.R_drew)); exact HO1010.out, by repeat (first | (with_reducible first | exact HB.out | apply below_alloc | apply pw_below_drewN | apply below_drew1 | refine below_set ?_ GE1002.out | refine below_set ?_ GE1007.out) | exact HB.out)⟩
 ·
  rw [if_neg c4] at H
  have c4b0 : decide (1000000 ≤ t1003) = false := decide_eq_false c4
  clear c4
  by_cases c13 : t1006 = 0
  ·
   rw [if_pos c13] at H
   have c13b0 : (t1006 == 0) = true := beq_iff_eq.mpr c13
   have c13b1 : (t1006 != 0) = false := bne_eq_false_iff_eq.mpr c13
   clear c13
   replace H := Option.bind_eq_some_iff.mp H
   obtain ⟨t1011, A140, H⟩ := H
   replace H : (some (([(⟨false, 1, t1011⟩ : S116), (⟨true, 0, (⟨#[]⟩ : ByteArray)⟩ : S116)] : List (S116)))) = some r := H
   have A14 := zA_ A140
   clear A140
   obtain ⟨y1012, hy1012⟩ : ∃ y_ : List (S116), y_ = (([(⟨false, 1, t1011⟩ : S116), (⟨true, 0, (⟨#[]⟩ : ByteArray)⟩ : S116)] : List (S116))) := ⟨_, rfl⟩
   replace H : (some y1012) = some r := by first | (rw [hy1012]; with_reducible exact H) | (have H2_ := (Option.bind_some _ _).symm.trans H; rw [hy1012]; with_reducible exact H2_) | (have H2_ := (Option.bind_some _ _).symm.trans H; with_reducible exact H2_) | with_reducible exact H | (rw [hy1012]; exact H) | exact H
   have Ny1012 := zA_ hy1012
   clear hy1012
   obtain rfl := Option.some.inj H
   go_enter Try.func106, Try.ntmps106
   go_wp2_with (first | ((with_reducible refine gate_dst (N := 2) rfl ?_); refine box_event ?hg (N := 2) ?hd (cs := #[.slice A0_0 l0_0.length c0_0, .slice A0_1 l0_1.length c0_1]) (t := 30) ?hr ?_; (case hd => rfl); (case hg => rfl); (case hr => first | (go_simp; done) | (go_simp; rfl)); intro gb1002 hg w15 hbox hb; have n0_ := zA_ (below_step (zh_ HB.out) hb); have n1_ := zA_ (hbox); have n2_ := zA_ ((by rw [hg]; exact (below_size (zh_ HB.out)) : w.heap.size ≤ gb1002)); have n3_ := zA_ ((by rw [hg]; exact (below_size (zh_ HB.out)) : w.heap.size ≤ gb1002)); clear HB; have HB := n0_; have BK1002 := n1_; have GW1002 := n2_; have GE1002 := n3_; clear n0_ n1_ n2_ n3_; clear hb hbox hg; have hcz16_0 : w15.cell? ⟨gb1002, 0, none⟩ = some (.slice A0_0 l0_0.length c0_0) := (blk_cell BK1002.out 0).trans rfl; have hcz16_1 : w15.cell? ⟨gb1002, 1, none⟩ = some (.slice A0_1 l0_1.length c0_1) := (blk_cell BK1002.out 1).trans rfl; have hfz16_0 := blk_frozen BK1002.out 0; have hfz16_1 := blk_frozen BK1002.out 1) | ((with_reducible refine gate_callee (f := 104) rfl ?_); refine goesL_ (some 10) rfl rfl Try.func104 (by kernel_rfl) rfl #[.agg #[.slice A0_0 l0_0.length c0_0, .slice A0_1 l0_1.length c0_1]] rfl zs_ ?_; (with_reducible refine (spec_l04Get.calls k _ _ l0_0 _ _ l0_1 t1003 t1004 t1005 t1006 _ ?side1 ?side2 ?side3 ?side4 A3.out).mono ?_); (case side1 => exact zc_ (Kd.C_below HR0_0.out HB.out)); (case side2 => exact HC0_0.out); (case side3 => exact zc_ (Kd.C_below HR0_1.out HB.out)); (case side4 => exact HC0_1.out); rintro e w17 ⟨rfl, hb⟩; refine ⟨_, rfl, ?_⟩; have n0_ := zA_ (blk_below (g := gb1002) (o := .cells #[.slice A0_0 l0_0.length c0_0, .slice A0_1 l0_1.length c0_1] 30 (0, 0)) (zb_ BK1002.out) hb); have n1_ := zA_ (below_step (zg1_ HB.out GE1002.out) hb); clear BK1002 HB; have BK1002 := n0_; have HB := n1_; clear n0_ n1_; (try clear hb); (try clear hb2); (try clear hk); (try clear hi)) | ((with_reducible refine gate_dst (N := 5) rfl ?_); refine box_event ?hg (N := 5) ?hd (cs := #[.int .i64 0, .string (⟨#[]⟩ : ByteArray), .int .i64 0]) (t := 41) ?hr ?_; (case hd => rfl); (case hg => rfl); (case hr => first | (go_simp; done) | (go_simp; rfl)); intro gb1007 hg w18 hbox hb; have n0_ := zA_ (blk_below (g := gb1002) (o := .cells #[.slice A0_0 l0_0.length c0_0, .slice A0_1 l0_1.length c0_1] 30 (0, 0)) (zb_ BK1002.out) hb); have n1_ := zA_ (below_step (zg1_ HB.out GE1002.out) hb); have n2_ := zA_ (hbox); have n3_ := zA_ ((by rw [hg]; exact (below_size (zg1_ HB.out GE1002.out)) : w.heap.size ≤ gb1007)); have n4_ := zA_ ((by rw [hg]; exact (below_size (zg1_ HB.out GE1002.out)) : w.heap.size ≤ gb1007)); have n5_ := zA_ ((by rw [hg]; exact Nat.ne_of_lt (blk_lt (g := gb1002) (o := .cells #[.slice A0_0 l0_0.length c0_0, .slice A0_1 l0_1.length c0_1] 30 (0, 0)) (zb_ BK1002.out)) : gb1002 ≠ gb1007)); have n6_ := zA_ ((by rw [hg]; exact Nat.ne_of_gt (blk_lt (g := gb1002) (o := .cells #[.slice A0_0 l0_0.length c0_0, .slice A0_1 l0_1.length c0_1] 30 (0, 0)) (zb_ BK1002.out)) : gb1007 ≠ gb1002)); clear BK1002 HB; have BK1002 := n0_; have HB := n1_; have BK1007 := n2_; have GW1007 := n3_; have GE1007 := n4_; have NB1002_1007 := n5_; have NB1007_1002 := n6_; clear n0_ n1_ n2_ n3_ n4_ n5_ n6_; clear hb hbox hg; have hnb19 := NB1007_1002.out; have hnc19 := NB1002_1007.out; have hcz20_0 : w18.cell? ⟨gb1007, 0, none⟩ = some (.int .i64 0) := (blk_cell BK1007.out 0).trans rfl; have hcz20_1 : w18.cell? ⟨gb1007, 1, none⟩ = some (.string (⟨#[]⟩ : ByteArray)) := (blk_cell BK1007.out 1).trans rfl; have hcz20_2 : w18.cell? ⟨gb1007, 2, none⟩ = some (.int .i64 0) := (blk_cell BK1007.out 2).trans rfl; have hfz20_0 := blk_frozen BK1007.out 0; have hfz20_1 := blk_frozen BK1007.out 1; have hfz20_2 := blk_frozen BK1007.out 2) | ((with_reducible refine gate_callee (f := 66) rfl ?_); refine goesL_ (some 24) rfl rfl Try.func66 (by kernel_rfl) rfl #[.int .i64 (wrap64 (t1003 + 1)), .string a1] rfl zs_ ?_; (with_reducible refine (spec_MetaBytes.calls k (wrap64 (t1003 + 1)) a1 t1011 _ A14.out).mono ?_); rintro e w21 ⟨rfl, hb⟩; refine ⟨_, rfl, ?_⟩; have n0_ := zA_ (blk_below (g := gb1002) (o := .cells #[.slice A0_0 l0_0.length c0_0, .slice A0_1 l0_1.length c0_1] 30 (0, 0)) (zf3_ NB1002_1007.out NB1002_1007.out NB1002_1007.out BK1002.out) hb); have n1_ := zA_ (blk_below (g := gb1007) (o := .cells #[.int .i64 t1003, .string t1004, .int .i64 t1005] 41 (0, 0)) (by (with_reducible repeat (first | refine blk_drewN ?_ _ | refine blk_drew ?_ | refine blk_alloc ?_ _)); refine blk_put (cs := #[.int .i64 t1003, .string t1004, .int .i64 0]) ?_ 2 _ rfl; (with_reducible repeat (first | refine blk_drewN ?_ _ | refine blk_drew ?_ | refine blk_alloc ?_ _)); refine blk_put (cs := #[.int .i64 t1003, .string (⟨#[]⟩ : ByteArray), .int .i64 0]) ?_ 1 _ rfl; (with_reducible repeat (first | refine blk_drewN ?_ _ | refine blk_drew ?_ | refine blk_alloc ?_ _)); refine blk_put (cs := #[.int .i64 0, .string (⟨#[]⟩ : ByteArray), .int .i64 0]) ?_ 0 _ rfl; (with_reducible repeat (first | refine blk_drewN ?_ _ | refine blk_drew ?_ | refine blk_alloc ?_ _)); exact BK1007.out) hb); have n2_ := zA_ (below_step (zg2_ HB.out GE1002.out GE1007.out) hb); clear BK1002 BK1007 HB; have BK1002 := n0_; have BK1007 := n1_; have HB := n2_; clear n0_ n1_ n2_; (try clear hb); (try clear hb2); (try clear hk); (try clear hi)) | ((with_reducible refine gate_dst (N := 27) rfl ?_); refine Kd.R_lit k116 _ 116 ?hg (N := 27) ?hd (xs := ([(⟨false, 1, t1011⟩ : S116), (⟨true, 0, (⟨#[]⟩ : ByteArray)⟩ : S116)] : List (S116))) (inner := [.bool false, .int .i64 1, .string t1011, .bool true, .int .i64 0, .string (⟨#[]⟩ : ByteArray)]) (ok := fun _ => True) (okp := fun _ => True) ?hr ?hp (fun _ hk => hk) trivial (Below.refl _ _) (Nat.le_refl _) (by simp) ?_; (case hd => rfl); (case hg => rfl); (case hr => first | (go_simp; done) | (go_simp; rfl)); (case hp => exact (Reps.c3 (show Kd.M k116 _ _ _ (⟨false, 1, t1011⟩ : S116) [.bool false, .int .i64 1, .string t1011] from (k116_mkM _ _ _ (⟨false, 1, t1011⟩ : S116) )) (Reps.c3 (show Kd.M k116 _ _ _ (⟨true, 0, (⟨#[]⟩ : ByteArray)⟩ : S116) [.bool true, .int .i64 0, .string (⟨#[]⟩ : ByteArray)] from (k116_mkM _ _ _ (⟨true, 0, (⟨#[]⟩ : ByteArray)⟩ : S116) )) (Reps.none _ _)))); intro v1013 w22 ho23 hb hg_ hnew_; clear hg_ hnew_; (first | rw [← Ny1012.out] at ho23 | (simp only [Int.reduceToNat] at ho23; rw [← Ny1012.out] at ho23)); have n0_ := zA_ (Kd.R_lower ho23 (below_size (zg2_ HB.out GE1002.out GE1007.out))); have n1_ := zA_ (blk_below (g := gb1002) (o := .cells #[.slice A0_0 l0_0.length c0_0, .slice A0_1 l0_1.length c0_1] 30 (0, 0)) (zb_ BK1002.out) hb); have n2_ := zA_ (blk_below (g := gb1007) (o := .cells #[.int .i64 t1003, .string t1004, .int .i64 t1005] 41 (0, 0)) (zb_ BK1007.out) hb); have n3_ := zA_ (below_step (zg2_ HB.out GE1002.out GE1007.out) hb); clear BK1002 BK1007 HB; have HO1014 := n0_; have BK1002 := n1_; have BK1007 := n2_; have HB := n3_; clear n0_ n1_ n2_ n3_; clear hb ho23))
   go_ret
   exact ⟨_, by first | rfl | (simp [errW_none, errW_some] <;> rfl) | (simp [*, errW_none, errW_some] <;> rfl), by (with_reducible repeat (first | apply Kd.R_alloc | apply Kd.R_drewN | apply Kd.R_drew)); exact HO1014.out, by repeat (first | (with_reducible first | exact HB.out | apply below_alloc | apply pw_below_drewN | apply below_drew1 | refine below_set ?_ GE1002.out | refine below_set ?_ GE1007.out) | exact HB.out)⟩
  ·
   rw [if_neg c13] at H
   have c13b0 : (t1006 == 0) = false := beq_eq_false_iff_ne.mpr c13
   have c13b1 : (t1006 != 0) = true := bne_iff_ne.mpr c13
   replace H := Option.bind_eq_some_iff.mp H
   obtain ⟨t1015, A240, H⟩ := H
   replace H : (some (([(⟨false, 0, t1015⟩ : S116), (⟨true, 0, (⟨#[]⟩ : ByteArray)⟩ : S116)] : List (S116)))) = some r := H
   have A24 := zA_ A240
   clear A240
   obtain ⟨y1016, hy1016⟩ : ∃ y_ : List (S116), y_ = (([(⟨false, 0, t1015⟩ : S116), (⟨true, 0, (⟨#[]⟩ : ByteArray)⟩ : S116)] : List (S116))) := ⟨_, rfl⟩
   replace H : (some y1016) = some r := by first | (rw [hy1016]; with_reducible exact H) | (have H2_ := (Option.bind_some _ _).symm.trans H; rw [hy1016]; with_reducible exact H2_) | (have H2_ := (Option.bind_some _ _).symm.trans H; with_reducible exact H2_) | with_reducible exact H | (rw [hy1016]; exact H) | exact H
   have Ny1016 := zA_ hy1016
   clear hy1016
   obtain rfl := Option.some.inj H
   go_enter Try.func106, Try.ntmps106
   go_wp2_with (first | ((with_reducible refine gate_dst (N := 2) rfl ?_); refine box_event ?hg (N := 2) ?hd (cs := #[.slice A0_0 l0_0.length c0_0, .slice A0_1 l0_1.length c0_1]) (t := 30) ?hr ?_; (case hd => rfl); (case hg => rfl); (case hr => first | (go_simp; done) | (go_simp; rfl)); intro gb1002 hg w25 hbox hb; have n0_ := zA_ (below_step (zh_ HB.out) hb); have n1_ := zA_ (hbox); have n2_ := zA_ ((by rw [hg]; exact (below_size (zh_ HB.out)) : w.heap.size ≤ gb1002)); have n3_ := zA_ ((by rw [hg]; exact (below_size (zh_ HB.out)) : w.heap.size ≤ gb1002)); clear HB; have HB := n0_; have BK1002 := n1_; have GW1002 := n2_; have GE1002 := n3_; clear n0_ n1_ n2_ n3_; clear hb hbox hg; have hcz26_0 : w25.cell? ⟨gb1002, 0, none⟩ = some (.slice A0_0 l0_0.length c0_0) := (blk_cell BK1002.out 0).trans rfl; have hcz26_1 : w25.cell? ⟨gb1002, 1, none⟩ = some (.slice A0_1 l0_1.length c0_1) := (blk_cell BK1002.out 1).trans rfl; have hfz26_0 := blk_frozen BK1002.out 0; have hfz26_1 := blk_frozen BK1002.out 1) | ((with_reducible refine gate_callee (f := 104) rfl ?_); refine goesL_ (some 10) rfl rfl Try.func104 (by kernel_rfl) rfl #[.agg #[.slice A0_0 l0_0.length c0_0, .slice A0_1 l0_1.length c0_1]] rfl zs_ ?_; (with_reducible refine (spec_l04Get.calls k _ _ l0_0 _ _ l0_1 t1003 t1004 t1005 t1006 _ ?side1 ?side2 ?side3 ?side4 A3.out).mono ?_); (case side1 => exact zc_ (Kd.C_below HR0_0.out HB.out)); (case side2 => exact HC0_0.out); (case side3 => exact zc_ (Kd.C_below HR0_1.out HB.out)); (case side4 => exact HC0_1.out); rintro e w27 ⟨rfl, hb⟩; refine ⟨_, rfl, ?_⟩; have n0_ := zA_ (blk_below (g := gb1002) (o := .cells #[.slice A0_0 l0_0.length c0_0, .slice A0_1 l0_1.length c0_1] 30 (0, 0)) (zb_ BK1002.out) hb); have n1_ := zA_ (below_step (zg1_ HB.out GE1002.out) hb); clear BK1002 HB; have BK1002 := n0_; have HB := n1_; clear n0_ n1_; (try clear hb); (try clear hb2); (try clear hk); (try clear hi)) | ((with_reducible refine gate_dst (N := 5) rfl ?_); refine box_event ?hg (N := 5) ?hd (cs := #[.int .i64 0, .string (⟨#[]⟩ : ByteArray), .int .i64 0]) (t := 41) ?hr ?_; (case hd => rfl); (case hg => rfl); (case hr => first | (go_simp; done) | (go_simp; rfl)); intro gb1007 hg w28 hbox hb; have n0_ := zA_ (blk_below (g := gb1002) (o := .cells #[.slice A0_0 l0_0.length c0_0, .slice A0_1 l0_1.length c0_1] 30 (0, 0)) (zb_ BK1002.out) hb); have n1_ := zA_ (below_step (zg1_ HB.out GE1002.out) hb); have n2_ := zA_ (hbox); have n3_ := zA_ ((by rw [hg]; exact (below_size (zg1_ HB.out GE1002.out)) : w.heap.size ≤ gb1007)); have n4_ := zA_ ((by rw [hg]; exact (below_size (zg1_ HB.out GE1002.out)) : w.heap.size ≤ gb1007)); have n5_ := zA_ ((by rw [hg]; exact Nat.ne_of_lt (blk_lt (g := gb1002) (o := .cells #[.slice A0_0 l0_0.length c0_0, .slice A0_1 l0_1.length c0_1] 30 (0, 0)) (zb_ BK1002.out)) : gb1002 ≠ gb1007)); have n6_ := zA_ ((by rw [hg]; exact Nat.ne_of_gt (blk_lt (g := gb1002) (o := .cells #[.slice A0_0 l0_0.length c0_0, .slice A0_1 l0_1.length c0_1] 30 (0, 0)) (zb_ BK1002.out)) : gb1007 ≠ gb1002)); clear BK1002 HB; have BK1002 := n0_; have HB := n1_; have BK1007 := n2_; have GW1007 := n3_; have GE1007 := n4_; have NB1002_1007 := n5_; have NB1007_1002 := n6_; clear n0_ n1_ n2_ n3_ n4_ n5_ n6_; clear hb hbox hg; have hnb29 := NB1007_1002.out; have hnc29 := NB1002_1007.out; have hcz30_0 : w28.cell? ⟨gb1007, 0, none⟩ = some (.int .i64 0) := (blk_cell BK1007.out 0).trans rfl; have hcz30_1 : w28.cell? ⟨gb1007, 1, none⟩ = some (.string (⟨#[]⟩ : ByteArray)) := (blk_cell BK1007.out 1).trans rfl; have hcz30_2 : w28.cell? ⟨gb1007, 2, none⟩ = some (.int .i64 0) := (blk_cell BK1007.out 2).trans rfl; have hfz30_0 := blk_frozen BK1007.out 0; have hfz30_1 := blk_frozen BK1007.out 1; have hfz30_2 := blk_frozen BK1007.out 2) | ((with_reducible refine gate_callee (f := 66) rfl ?_); refine goesL_ (some 24) rfl rfl Try.func66 (by kernel_rfl) rfl #[.int .i64 (wrap64 (t1003 + 1)), .string a1] rfl zs_ ?_; (with_reducible refine (spec_MetaBytes.calls k (wrap64 (t1003 + 1)) a1 t1015 _ A24.out).mono ?_); rintro e w31 ⟨rfl, hb⟩; refine ⟨_, rfl, ?_⟩; have n0_ := zA_ (blk_below (g := gb1002) (o := .cells #[.slice A0_0 l0_0.length c0_0, .slice A0_1 l0_1.length c0_1] 30 (0, 0)) (zf3_ NB1002_1007.out NB1002_1007.out NB1002_1007.out BK1002.out) hb); have n1_ := zA_ (blk_below (g := gb1007) (o := .cells #[.int .i64 t1003, .string t1004, .int .i64 t1005] 41 (0, 0)) (by (with_reducible repeat (first | refine blk_drewN ?_ _ | refine blk_drew ?_ | refine blk_alloc ?_ _)); refine blk_put (cs := #[.int .i64 t1003, .string t1004, .int .i64 0]) ?_ 2 _ rfl; (with_reducible repeat (first | refine blk_drewN ?_ _ | refine blk_drew ?_ | refine blk_alloc ?_ _)); refine blk_put (cs := #[.int .i64 t1003, .string (⟨#[]⟩ : ByteArray), .int .i64 0]) ?_ 1 _ rfl; (with_reducible repeat (first | refine blk_drewN ?_ _ | refine blk_drew ?_ | refine blk_alloc ?_ _)); refine blk_put (cs := #[.int .i64 0, .string (⟨#[]⟩ : ByteArray), .int .i64 0]) ?_ 0 _ rfl; (with_reducible repeat (first | refine blk_drewN ?_ _ | refine blk_drew ?_ | refine blk_alloc ?_ _)); exact BK1007.out) hb); have n2_ := zA_ (below_step (zg2_ HB.out GE1002.out GE1007.out) hb); clear BK1002 BK1007 HB; have BK1002 := n0_; have BK1007 := n1_; have HB := n2_; clear n0_ n1_ n2_; (try clear hb); (try clear hb2); (try clear hk); (try clear hi)) | ((with_reducible refine gate_dst (N := 27) rfl ?_); refine Kd.R_lit k116 _ 116 ?hg (N := 27) ?hd (xs := ([(⟨false, 0, t1015⟩ : S116), (⟨true, 0, (⟨#[]⟩ : ByteArray)⟩ : S116)] : List (S116))) (inner := [.bool false, .int .i64 0, .string t1015, .bool true, .int .i64 0, .string (⟨#[]⟩ : ByteArray)]) (ok := fun _ => True) (okp := fun _ => True) ?hr ?hp (fun _ hk => hk) trivial (Below.refl _ _) (Nat.le_refl _) (by simp) ?_; (case hd => rfl); (case hg => rfl); (case hr => first | (go_simp; done) | (go_simp; rfl)); (case hp => exact (Reps.c3 (show Kd.M k116 _ _ _ (⟨false, 0, t1015⟩ : S116) [.bool false, .int .i64 0, .string t1015] from (k116_mkM _ _ _ (⟨false, 0, t1015⟩ : S116) )) (Reps.c3 (show Kd.M k116 _ _ _ (⟨true, 0, (⟨#[]⟩ : ByteArray)⟩ : S116) [.bool true, .int .i64 0, .string (⟨#[]⟩ : ByteArray)] from (k116_mkM _ _ _ (⟨true, 0, (⟨#[]⟩ : ByteArray)⟩ : S116) )) (Reps.none _ _)))); intro v1017 w32 ho33 hb hg_ hnew_; clear hg_ hnew_; (first | rw [← Ny1016.out] at ho33 | (simp only [Int.reduceToNat] at ho33; rw [← Ny1016.out] at ho33)); have n0_ := zA_ (Kd.R_lower ho33 (below_size (zg2_ HB.out GE1002.out GE1007.out))); have n1_ := zA_ (blk_below (g := gb1002) (o := .cells #[.slice A0_0 l0_0.length c0_0, .slice A0_1 l0_1.length c0_1] 30 (0, 0)) (zb_ BK1002.out) hb); have n2_ := zA_ (blk_below (g := gb1007) (o := .cells #[.int .i64 t1003, .string t1004, .int .i64 t1005] 41 (0, 0)) (zb_ BK1007.out) hb); have n3_ := zA_ (below_step (zg2_ HB.out GE1002.out GE1007.out) hb); clear BK1002 BK1007 HB; have HO1018 := n0_; have BK1002 := n1_; have BK1007 := n2_; have HB := n3_; clear n0_ n1_ n2_ n3_; clear hb ho33))
   go_ret
   exact ⟨_, by first | rfl | (simp [errW_none, errW_some] <;> rfl) | (simp [*, errW_none, errW_some] <;> rfl), by (with_reducible repeat (first | apply Kd.R_alloc | apply Kd.R_drewN | apply Kd.R_drew)); exact HO1018.out, by repeat (first | (with_reducible first | exact HB.out | apply below_alloc | apply pw_below_drewN | apply below_drew1 | refine below_set ?_ GE1002.out | refine below_set ?_ GE1007.out) | exact HB.out)⟩

/-! ### spec_MetaActs: function 46 -/
def spec_MetaActs.f (k : Nat) (l0_0 : List ByteArray) (l0_1 : List (S92)) (a1 : ByteArray) : Option ((List (S116))) := (spec_l04Fits.f k l0_0 l0_1).bind fun t1020 => (if t1020 = true then (if (a1.size : Int) > 80 then (some (([] : List (S116)))) else ((spec_l04Acts.f k l0_0 l0_1 a1).bind fun t1024 => (some t1024))) else (some (([] : List (S116)))))
theorem spec_MetaActs.mono : ∀ a0 a1 a2 k, LeO (spec_MetaActs.f k a0 a1 a2) (spec_MetaActs.f (k + 1) a0 a1 a2) := by
 intro a0 a1 a2 k
 unfold spec_MetaActs.f
 repeat' first
   | (with_reducible exact spec_l04Acts.mono _ _ _ _)
   | (with_reducible exact spec_l04Fits.mono _ _ _)
   | (with_reducible exact LeO.refl _)
   | (with_reducible exact LeO.none _)
   | (with_reducible refine LeO.ite ?_ ?_)
   | (with_reducible refine LeO.bind ?_ (fun _ => ?_))
   | exact spec_l04Acts.mono _ _ _ _
   | exact spec_l04Fits.mono _ _ _
   | exact LeO.none _
   | refine LeO.ite ?_ ?_
   | refine LeO.bind ?_ (fun _ => ?_)
set_option maxHeartbeats 8000000 in
set_option maxRecDepth 100000 in
theorem spec_MetaActs.calls (k : Nat) (A0_0 : Option Addr) (c0_0 : Nat) (l0_0 : List ByteArray) (A0_1 : Option Addr) (c0_1 : Nat) (l0_1 : List (S92)) (a1 : ByteArray) (r : List (S116)) (w : World) (hr0_0 : Kd.C Kd.string w A0_0 l0_0.length l0_0) (hc0_0 : l0_0.length ≤ c0_0) (hr0_1 : Kd.C k92 w A0_1 l0_1.length l0_1) (hc0_1 : l0_1.length ≤ c0_1) (h : spec_MetaActs.f k l0_0 l0_1 a1 = some r) :
  Calls Try.prog 46 #[.agg #[.slice A0_0 l0_0.length c0_0, .slice A0_1 l0_1.length c0_1], .string a1] w fun e w' => ∃ v0_ : Value, e = .returned (v0_) ∧ Kd.R k116 116 w' w.heap.size (fun _ => True) v0_ r ∧ Below w.heap.size w w' := by
 have hu30 := Try.underlying30
 have HR0_0 := zA_ hr0_0
 have HC0_0 := zA_ hc0_0
 clear hr0_0 hc0_0
 have HR0_1 := zA_ hr0_1
 have HC0_1 := zA_ hc0_1
 clear hr0_1 hc0_1
 have HB := zA_ (Below.refl w.heap.size w)
 have H : ((spec_l04Fits.f k l0_0 l0_1).bind fun t1020 => (if t1020 = true then (if (a1.size : Int) > 80 then (some (([] : List (S116)))) else ((spec_l04Acts.f k l0_0 l0_1 a1).bind fun t1024 => (some t1024))) else (some (([] : List (S116)))))) = some r := h
 clear h
 replace H := Option.bind_eq_some_iff.mp H
 obtain ⟨t1020, A30, H⟩ := H
 replace H : (if t1020 = true then (if (a1.size : Int) > 80 then (some (([] : List (S116)))) else ((spec_l04Acts.f k l0_0 l0_1 a1).bind fun t1024 => (some t1024))) else (some (([] : List (S116))))) = some r := H
 have A3 := zA_ A30
 clear A30
 by_cases c4 : t1020 = true
 ·
  subst c4
  have H1 : (if (a1.size : Int) > 80 then (some (([] : List (S116)))) else ((spec_l04Acts.f k l0_0 l0_1 a1).bind fun t1024 => (some t1024))) = some r := by rw [if_pos rfl] at H; exact H
  clear H
  have H := H1
  clear H1
  by_cases c5 : (a1.size : Int) > 80
  ·
   rw [if_pos c5] at H
   have c5b0 : decide (80 < (a1.size : Int)) = true := decide_eq_true c5
   have c5b1 : decide (80 < a1.size) = true := decide_eq_true (by omega)
   clear c5
   obtain ⟨y1021, hy1021⟩ : ∃ y_ : List (S116), y_ = (([] : List (S116))) := ⟨_, rfl⟩
   replace H : (some y1021) = some r := by first | (rw [hy1021]; with_reducible exact H) | (have H2_ := (Option.bind_some _ _).symm.trans H; rw [hy1021]; with_reducible exact H2_) | (have H2_ := (Option.bind_some _ _).symm.trans H; with_reducible exact H2_) | with_reducible exact H | (rw [hy1021]; exact H) | exact H
   have Ny1021 := zA_ hy1021
   clear hy1021
   obtain rfl := Option.some.inj H
   go_enter Try.func46, Try.ntmps46
   go_wp2_with (first | ((with_reducible refine gate_dst (N := 2) rfl ?_); (try (refine gate_guard (by rfl) ?_; dsimp only)); refine box_event ?hg (N := 2) ?hd (cs := #[.slice A0_0 l0_0.length c0_0, .slice A0_1 l0_1.length c0_1]) (t := 30) ?hr ?_; (case hd => rfl); (case hg => rfl); (case hr => first | (go_simp; done) | (go_simp; rfl)); intro gb1019 hg w6 hbox hb; have n0_ := zA_ (below_step (zh_ HB.out) hb); have n1_ := zA_ (hbox); have n2_ := zA_ ((by rw [hg]; exact (below_size (zh_ HB.out)) : w.heap.size ≤ gb1019)); have n3_ := zA_ ((by rw [hg]; exact (below_size (zh_ HB.out)) : w.heap.size ≤ gb1019)); clear HB; have HB := n0_; have BK1019 := n1_; have GW1019 := n2_; have GE1019 := n3_; clear n0_ n1_ n2_ n3_; clear hb hbox hg; have hcz7_0 : w6.cell? ⟨gb1019, 0, none⟩ = some (.slice A0_0 l0_0.length c0_0) := (blk_cell BK1019.out 0).trans rfl; have hcz7_1 : w6.cell? ⟨gb1019, 1, none⟩ = some (.slice A0_1 l0_1.length c0_1) := (blk_cell BK1019.out 1).trans rfl; have hfz7_0 := blk_frozen BK1019.out 0; have hfz7_1 := blk_frozen BK1019.out 1) | ((with_reducible refine gate_callee (f := 103) rfl ?_); refine goesL_ (some 6) rfl rfl Try.func103 (by kernel_rfl) rfl #[.agg #[.slice A0_0 l0_0.length c0_0, .slice A0_1 l0_1.length c0_1]] rfl zs_ ?_; (with_reducible refine (spec_l04Fits.calls k _ _ l0_0 _ _ l0_1 true _ ?side1 ?side2 ?side3 ?side4 A3.out).mono ?_); (case side1 => exact zc_ (Kd.C_below HR0_0.out HB.out)); (case side2 => exact HC0_0.out); (case side3 => exact zc_ (Kd.C_below HR0_1.out HB.out)); (case side4 => exact HC0_1.out); rintro e w8 ⟨rfl, hb⟩; refine ⟨_, rfl, ?_⟩; have n0_ := zA_ (blk_below (g := gb1019) (o := .cells #[.slice A0_0 l0_0.length c0_0, .slice A0_1 l0_1.length c0_1] 30 (0, 0)) (zb_ BK1019.out) hb); have n1_ := zA_ (below_step (zg1_ HB.out GE1019.out) hb); clear BK1019 HB; have BK1019 := n0_; have HB := n1_; clear n0_ n1_; (try clear hb); (try clear hb2); (try clear hk); (try clear hi)) | ((with_reducible refine gate_dst (N := 13) rfl ?_); (try (refine gate_guard (by rfl) ?_; dsimp only)); refine Kd.R_lit k116 _ 116 ?hg (N := 13) ?hd (xs := ([] : List (S116))) (inner := []) (ok := fun _ => True) (okp := fun _ => True) ?hr ?hp (fun _ hk => hk) trivial (Below.refl _ _) (Nat.le_refl _) (by simp) ?_; (case hd => rfl); (case hg => rfl); (case hr => first | (go_simp; done) | (go_simp; rfl)); (case hp => exact (Reps.none _ _)); intro v1022 w9 ho10 hb hg_ hnew_; clear hg_ hnew_; (first | rw [← Ny1021.out] at ho10 | (simp only [Int.reduceToNat] at ho10; rw [← Ny1021.out] at ho10)); have n0_ := zA_ (Kd.R_lower ho10 (below_size (zg1_ HB.out GE1019.out))); have n1_ := zA_ (blk_below (g := gb1019) (o := .cells #[.slice A0_0 l0_0.length c0_0, .slice A0_1 l0_1.length c0_1] 30 (0, 0)) (zb_ BK1019.out) hb); have n2_ := zA_ (below_step (zg1_ HB.out GE1019.out) hb); clear BK1019 HB; have HO1023 := n0_; have BK1019 := n1_; have HB := n2_; clear n0_ n1_ n2_; clear hb ho10))
   go_ret
   exact ⟨_, by first | rfl | (simp [errW_none, errW_some] <;> rfl) | (simp [*, errW_none, errW_some] <;> rfl), by (with_reducible repeat (first | apply Kd.R_alloc | apply Kd.R_drewN | apply Kd.R_drew)); exact HO1023.out, by repeat (first | (with_reducible first | exact HB.out | apply below_alloc | apply pw_below_drewN | apply below_drew1 | refine below_set ?_ GE1019.out) | exact HB.out)⟩
  ·
   rw [if_neg c5] at H
   have c5b0 : decide (80 < (a1.size : Int)) = false := decide_eq_false c5
   have c5b1 : decide (80 < a1.size) = false := decide_eq_false (by omega)
   clear c5
   replace H := Option.bind_eq_some_iff.mp H
   obtain ⟨t1024, A110, H⟩ := H
   replace H : (some t1024) = some r := H
   have A11 := zA_ A110
   clear A110
   obtain rfl := Option.some.inj H
   go_enter Try.func46, Try.ntmps46
   go_wp2_with (first | ((with_reducible refine gate_dst (N := 2) rfl ?_); (try (refine gate_guard (by rfl) ?_; dsimp only)); refine box_event ?hg (N := 2) ?hd (cs := #[.slice A0_0 l0_0.length c0_0, .slice A0_1 l0_1.length c0_1]) (t := 30) ?hr ?_; (case hd => rfl); (case hg => rfl); (case hr => first | (go_simp; done) | (go_simp; rfl)); intro gb1019 hg w12 hbox hb; have n0_ := zA_ (below_step (zh_ HB.out) hb); have n1_ := zA_ (hbox); have n2_ := zA_ ((by rw [hg]; exact (below_size (zh_ HB.out)) : w.heap.size ≤ gb1019)); have n3_ := zA_ ((by rw [hg]; exact (below_size (zh_ HB.out)) : w.heap.size ≤ gb1019)); clear HB; have HB := n0_; have BK1019 := n1_; have GW1019 := n2_; have GE1019 := n3_; clear n0_ n1_ n2_ n3_; clear hb hbox hg; have hcz13_0 : w12.cell? ⟨gb1019, 0, none⟩ = some (.slice A0_0 l0_0.length c0_0) := (blk_cell BK1019.out 0).trans rfl; have hcz13_1 : w12.cell? ⟨gb1019, 1, none⟩ = some (.slice A0_1 l0_1.length c0_1) := (blk_cell BK1019.out 1).trans rfl; have hfz13_0 := blk_frozen BK1019.out 0; have hfz13_1 := blk_frozen BK1019.out 1) | ((with_reducible refine gate_callee (f := 103) rfl ?_); refine goesL_ (some 6) rfl rfl Try.func103 (by kernel_rfl) rfl #[.agg #[.slice A0_0 l0_0.length c0_0, .slice A0_1 l0_1.length c0_1]] rfl zs_ ?_; (with_reducible refine (spec_l04Fits.calls k _ _ l0_0 _ _ l0_1 true _ ?side1 ?side2 ?side3 ?side4 A3.out).mono ?_); (case side1 => exact zc_ (Kd.C_below HR0_0.out HB.out)); (case side2 => exact HC0_0.out); (case side3 => exact zc_ (Kd.C_below HR0_1.out HB.out)); (case side4 => exact HC0_1.out); rintro e w14 ⟨rfl, hb⟩; refine ⟨_, rfl, ?_⟩; have n0_ := zA_ (blk_below (g := gb1019) (o := .cells #[.slice A0_0 l0_0.length c0_0, .slice A0_1 l0_1.length c0_1] 30 (0, 0)) (zb_ BK1019.out) hb); have n1_ := zA_ (below_step (zg1_ HB.out GE1019.out) hb); clear BK1019 HB; have BK1019 := n0_; have HB := n1_; clear n0_ n1_; (try clear hb); (try clear hb2); (try clear hk); (try clear hi); have hcz15_0 : w14.cell? ⟨gb1019, 0, none⟩ = some (.slice A0_0 l0_0.length c0_0) := (blk_cell BK1019.out 0).trans rfl; have hcz15_1 : w14.cell? ⟨gb1019, 1, none⟩ = some (.slice A0_1 l0_1.length c0_1) := (blk_cell BK1019.out 1).trans rfl; have hfz15_0 := blk_frozen BK1019.out 0; have hfz15_1 := blk_frozen BK1019.out 1) | ((with_reducible refine gate_callee (f := 106) rfl ?_); refine goesL_ (some 16) rfl rfl Try.func106 (by kernel_rfl) rfl #[.agg #[.slice A0_0 l0_0.length c0_0, .slice A0_1 l0_1.length c0_1], .string a1] rfl zs_ ?_; (with_reducible refine (spec_l04Acts.calls k _ _ l0_0 _ _ l0_1 a1 t1024 _ ?side1 ?side2 ?side3 ?side4 A11.out).mono ?_); (case side1 => exact zc_ (Kd.C_below HR0_0.out HB.out)); (case side2 => exact HC0_0.out); (case side3 => exact zc_ (Kd.C_below HR0_1.out HB.out)); (case side4 => exact HC0_1.out); rintro e w16 ⟨v1025, rfl, ho0, hb⟩; refine ⟨_, rfl, ?_⟩; have n0_ := zA_ (Kd.R_lower ho0 (below_size (zg1_ HB.out GE1019.out))); have n1_ := zA_ (blk_below (g := gb1019) (o := .cells #[.slice A0_0 l0_0.length c0_0, .slice A0_1 l0_1.length c0_1] 30 (0, 0)) (zb_ BK1019.out) hb); have n2_ := zA_ (below_step (zg1_ HB.out GE1019.out) hb); clear BK1019 HB; have HO1026 := n0_; have BK1019 := n1_; have HB := n2_; clear n0_ n1_ n2_; (try clear hb); (try clear hb2); (try clear hk); (try clear hi); (try clear ho0)))
   go_ret
   exact ⟨_, by first | rfl | (simp [errW_none, errW_some] <;> rfl) | (simp [*, errW_none, errW_some] <;> rfl), by (with_reducible repeat (first | apply Kd.R_alloc | apply Kd.R_drewN | apply Kd.R_drew)); exact HO1026.out, by repeat (first | (with_reducible first | exact HB.out | apply below_alloc | apply pw_below_drewN | apply below_drew1 | refine below_set ?_ GE1019.out) | exact HB.out)⟩
 ·
  replace c4 := Bool.eq_false_iff.mpr c4
  subst c4
  have H1 : (some (([] : List (S116)))) = some r := by rw [if_neg (show ¬ (false = true) by decide)] at H; exact H
  clear H
  have H := H1
  clear H1
  obtain ⟨y1027, hy1027⟩ : ∃ y_ : List (S116), y_ = (([] : List (S116))) := ⟨_, rfl⟩
  replace H : (some y1027) = some r := by first | (rw [hy1027]; with_reducible exact H) | (have H2_ := (Option.bind_some _ _).symm.trans H; rw [hy1027]; with_reducible exact H2_) | (have H2_ := (Option.bind_some _ _).symm.trans H; with_reducible exact H2_) | with_reducible exact H | (rw [hy1027]; exact H) | exact H
  have Ny1027 := zA_ hy1027
  clear hy1027
  obtain rfl := Option.some.inj H
  go_enter Try.func46, Try.ntmps46
  go_wp2_with (first | ((with_reducible refine gate_dst (N := 2) rfl ?_); (try (refine gate_guard (by rfl) ?_; dsimp only)); refine box_event ?hg (N := 2) ?hd (cs := #[.slice A0_0 l0_0.length c0_0, .slice A0_1 l0_1.length c0_1]) (t := 30) ?hr ?_; (case hd => rfl); (case hg => rfl); (case hr => first | (go_simp; done) | (go_simp; rfl)); intro gb1019 hg w17 hbox hb; have n0_ := zA_ (below_step (zh_ HB.out) hb); have n1_ := zA_ (hbox); have n2_ := zA_ ((by rw [hg]; exact (below_size (zh_ HB.out)) : w.heap.size ≤ gb1019)); have n3_ := zA_ ((by rw [hg]; exact (below_size (zh_ HB.out)) : w.heap.size ≤ gb1019)); clear HB; have HB := n0_; have BK1019 := n1_; have GW1019 := n2_; have GE1019 := n3_; clear n0_ n1_ n2_ n3_; clear hb hbox hg; have hcz18_0 : w17.cell? ⟨gb1019, 0, none⟩ = some (.slice A0_0 l0_0.length c0_0) := (blk_cell BK1019.out 0).trans rfl; have hcz18_1 : w17.cell? ⟨gb1019, 1, none⟩ = some (.slice A0_1 l0_1.length c0_1) := (blk_cell BK1019.out 1).trans rfl; have hfz18_0 := blk_frozen BK1019.out 0; have hfz18_1 := blk_frozen BK1019.out 1) | ((with_reducible refine gate_callee (f := 103) rfl ?_); refine goesL_ (some 6) rfl rfl Try.func103 (by kernel_rfl) rfl #[.agg #[.slice A0_0 l0_0.length c0_0, .slice A0_1 l0_1.length c0_1]] rfl zs_ ?_; (with_reducible refine (spec_l04Fits.calls k _ _ l0_0 _ _ l0_1 false _ ?side1 ?side2 ?side3 ?side4 A3.out).mono ?_); (case side1 => exact zc_ (Kd.C_below HR0_0.out HB.out)); (case side2 => exact HC0_0.out); (case side3 => exact zc_ (Kd.C_below HR0_1.out HB.out)); (case side4 => exact HC0_1.out); rintro e w19 ⟨rfl, hb⟩; refine ⟨_, rfl, ?_⟩; have n0_ := zA_ (blk_below (g := gb1019) (o := .cells #[.slice A0_0 l0_0.length c0_0, .slice A0_1 l0_1.length c0_1] 30 (0, 0)) (zb_ BK1019.out) hb); have n1_ := zA_ (below_step (zg1_ HB.out GE1019.out) hb); clear BK1019 HB; have BK1019 := n0_; have HB := n1_; clear n0_ n1_; (try clear hb); (try clear hb2); (try clear hk); (try clear hi)) | ((with_reducible refine gate_dst (N := 13) rfl ?_); (try (refine gate_guard (by rfl) ?_; dsimp only)); refine Kd.R_lit k116 _ 116 ?hg (N := 13) ?hd (xs := ([] : List (S116))) (inner := []) (ok := fun _ => True) (okp := fun _ => True) ?hr ?hp (fun _ hk => hk) trivial (Below.refl _ _) (Nat.le_refl _) (by simp) ?_; (case hd => rfl); (case hg => rfl); (case hr => first | (go_simp; done) | (go_simp; rfl)); (case hp => exact (Reps.none _ _)); intro v1028 w20 ho21 hb hg_ hnew_; clear hg_ hnew_; (first | rw [← Ny1027.out] at ho21 | (simp only [Int.reduceToNat] at ho21; rw [← Ny1027.out] at ho21)); have n0_ := zA_ (Kd.R_lower ho21 (below_size (zg1_ HB.out GE1019.out))); have n1_ := zA_ (blk_below (g := gb1019) (o := .cells #[.slice A0_0 l0_0.length c0_0, .slice A0_1 l0_1.length c0_1] 30 (0, 0)) (zb_ BK1019.out) hb); have n2_ := zA_ (below_step (zg1_ HB.out GE1019.out) hb); clear BK1019 HB; have HO1029 := n0_; have BK1019 := n1_; have HB := n2_; clear n0_ n1_ n2_; clear hb ho21))
  go_ret
  exact ⟨_, by first | rfl | (simp [errW_none, errW_some] <;> rfl) | (simp [*, errW_none, errW_some] <;> rfl), by (with_reducible repeat (first | apply Kd.R_alloc | apply Kd.R_drewN | apply Kd.R_drew)); exact HO1029.out, by repeat (first | (with_reducible first | exact HB.out | apply below_alloc | apply pw_below_drewN | apply below_drew1 | refine below_set ?_ GE1019.out) | exact HB.out)⟩

/-! ### impl_putNum: function 140 -/
mutual
def impl_putNum.j0 : Nat → Int → Option (ByteArray)
 | 0, _ => none
 | k + 1, x3 => impl_putNum.l0 k x3 ([] : List Int)
def impl_putNum.l0 : Nat → Int → List Int → Option (ByteArray)
 | 0, _, _ => none
 | k + 1, x3, x4 => if x3 > 127 then (if x4.length < 140737488355328 then (impl_putNum.l0 k (x3 / 128) (x4 ++ [Go.bits .or .u8 ((x3) % 256) 128])) else (none)) else (if x4.length < 140737488355328 then (some (strOfNums (x4 ++ [(x3) % 256]))) else (none))
end
def impl_putNum.f (k : Nat) (a0 : Int) : Option (ByteArray) := if a0 < 0 then (impl_putNum.j0 k (Go.bits .xor .u64 18446744073709551615 (IntKind.u64.wrap ((IntKind.u64.wrap (a0)) * 2)))) else (impl_putNum.j0 k (IntKind.u64.wrap ((IntKind.u64.wrap (a0)) * 2)))
theorem impl_putNum.mono_l : ∀ k, (∀ y0, LeO (impl_putNum.j0 k y0) (impl_putNum.j0 (k + 1) y0)) ∧ (∀ y0 y1, LeO (impl_putNum.l0 k y0 y1) (impl_putNum.l0 (k + 1) y0 y1))
 | 0 => ⟨fun _ r h => by simp [impl_putNum.j0] at h, fun _ _ r h => by simp [impl_putNum.l0] at h⟩
 | k + 1 => by
  obtain ⟨ih0, ih1⟩ := impl_putNum.mono_l k
  refine ⟨?_, ?_⟩
  ·
   intro y0
   unfold impl_putNum.j0
   repeat' first
   | (with_reducible exact ih0 _)
   | (with_reducible exact ih1 _ _)
   | (with_reducible exact LeO.refl _)
   | (with_reducible exact LeO.none _)
   | (with_reducible refine LeO.ite ?_ ?_)
   | (with_reducible refine LeO.bind ?_ (fun _ => ?_))
   | exact ih0 _
   | exact ih1 _ _
   | exact LeO.none _
   | refine LeO.ite ?_ ?_
   | refine LeO.bind ?_ (fun _ => ?_)
  ·
   intro y0 y1
   unfold impl_putNum.l0
   repeat' first
   | (with_reducible exact ih0 _)
   | (with_reducible exact ih1 _ _)
   | (with_reducible exact LeO.refl _)
   | (with_reducible exact LeO.none _)
   | (with_reducible refine LeO.ite ?_ ?_)
   | (with_reducible refine LeO.bind ?_ (fun _ => ?_))
   | exact ih0 _
   | exact ih1 _ _
   | exact LeO.none _
   | refine LeO.ite ?_ ?_
   | refine LeO.bind ?_ (fun _ => ?_)
theorem impl_putNum.mono : ∀ a0 k, LeO (impl_putNum.f k a0) (impl_putNum.f (k + 1) a0) := by
 intro a0 k
 obtain ⟨ih0, ih1⟩ := impl_putNum.mono_l k
 unfold impl_putNum.f
 repeat' first
   | (with_reducible exact ih0 _)
   | (with_reducible exact ih1 _ _)
   | (with_reducible exact LeO.refl _)
   | (with_reducible exact LeO.none _)
   | (with_reducible refine LeO.ite ?_ ?_)
   | (with_reducible refine LeO.bind ?_ (fun _ => ?_))
   | exact ih0 _
   | exact ih1 _ _
   | exact LeO.none _
   | refine LeO.ite ?_ ?_
   | refine LeO.bind ?_ (fun _ => ?_)
set_option maxHeartbeats 8000000 in
set_option maxRecDepth 100000 in
theorem impl_putNum.calls (k : Nat) (a0 : Int) (r : ByteArray) (w : World) (h : impl_putNum.f k a0 = some r) :
  Calls Try.prog 140 #[.int .i64 a0] w fun e w' => e = .returned (.string r) ∧ Below w.heap.size w w' := by
 have HB := zA_ (Below.refl w.heap.size w)
 have H : (if a0 < 0 then (impl_putNum.j0 k (Go.bits .xor .u64 18446744073709551615 (IntKind.u64.wrap ((IntKind.u64.wrap (a0)) * 2)))) else (impl_putNum.j0 k (IntKind.u64.wrap ((IntKind.u64.wrap (a0)) * 2)))) = some r := h
 clear h
 have HC2 := zA_ H
 clear H
 go_enter Try.func140, Try.ntmps140
 go_upto_if 9 with (fail)
 go_cut [3] (fun v3 wc => ∃ (kq : Nat) (x3_1 : Int), v3 = .int .u64 x3_1 ∧ Aside0 (impl_putNum.j0 kq x3_1 = some r) ∧ Aside0 (kq ≤ k) ∧ Aside0 (Below w.heap.size w wc))
 case first =>
  have H := HC2.out
  clear HC2
  by_cases c3 : a0 < 0
  ·
   rw [if_pos c3] at H
   have c3b0 : decide (a0 < 0) = true := decide_eq_true c3
   clear c3
   (first | rw [c3b0] | (simp only [i64_w, i32_w]; rw [c3b0]) | skip)
   have H' := zA_ H
   clear H
   go_wp2
   go_meet
   case rel => exact ⟨_, (Go.bits .xor .u64 18446744073709551615 (IntKind.u64.wrap ((IntKind.u64.wrap (a0)) * 2))), (by first | rfl | (simp; done) | (simp [*]; done)), H', ⟨by first | omega | exact Nat.le_refl _⟩, ⟨zh_ HB.out⟩⟩
  ·
   rw [if_neg c3] at H
   have c3b0 : decide (a0 < 0) = false := decide_eq_false c3
   clear c3
   (first | rw [c3b0] | (simp only [i64_w, i32_w]; rw [c3b0]) | skip)
   have H' := zA_ H
   clear H
   go_wp2
   go_meet
   case rel => exact ⟨_, (IntKind.u64.wrap ((IntKind.u64.wrap (a0)) * 2)), (by first | rfl | (simp; done) | (simp [*]; done)), H', ⟨by first | omega | exact Nat.le_refl _⟩, ⟨zh_ HB.out⟩⟩
 case rest =>
  clear HC2
  try clear c1
  try clear p2
  try clear c3
  try clear c3b0
  obtain ⟨kq, x3_1, rfl, HA, HJ1, HB⟩ := hcut
  cases kq with
  | zero => exact absurd HA.out (by simp [impl_putNum.j0])
  | succ kj1 =>
   have H := HA.out
   clear HA
   simp only [impl_putNum.j0] at H
   have H' := zA_ H
   clear H
   go_wp2
   go_loopg [3, 4] kj1 (fun kq v3 v4 w' => ∃ (x3_2 : Int) (x4_2 : List Int), v3 = .int .u64 x3_2 ∧ Aside0 (impl_putNum.l0 kq x3_2 x4_2 = some r) ∧ Aside0 (kq ≤ kj1) ∧ Aside0 (Kd.R (Kd.int .u8) 5 w' w.heap.size (fun _ => True) v4 x4_2) ∧ Aside0 (Below w.heap.size w w'))
   case atStart => exact ⟨(x3_1), (([] : List Int)), (by first | rfl | (simp; done) | (simp [*]; done)), H', ⟨Nat.le_refl _⟩, ⟨by first | exact Kd.R_nil _ _ _ _ _ | exact Kd.N_nil _ _ _ _ _ | exact Kd.V_nil _ _ _ _ _ | exact Kd.Q_nil _ _ _ _ _ | exact Kd.S_nil _ _ _ _ _⟩, ⟨zh_ HB.out⟩⟩
   case round =>
    clear H'
    try clear c1
    try clear p2
    try clear c3
    try clear c3b0
    try clear p2
    obtain ⟨x3_2, x4_2, rfl, HA, HK2, HO_4, HB⟩ := hrel
    cases gk with
    | zero => exact absurd HA.out (by simp [impl_putNum.l0])
    | succ k2 =>
     have H := HA.out
     clear HA
     simp only [impl_putNum.l0] at H
     by_cases c4 : x3_2 > 127
     ·
      rw [if_pos c4] at H
      have c4b0 : decide (127 < x3_2) = true := decide_eq_true c4
      clear c4
      by_cases c5 : x4_2.length < 140737488355328
      ·
       rw [if_pos c5] at H
       have LMc5 := zA_ c5
       clear c5
       obtain ⟨y1030, hy1030⟩ : ∃ y_ : List Int, y_ = (x4_2 ++ [Go.bits .or .u8 ((x3_2) % 256) 128]) := ⟨_, rfl⟩
       replace H : (impl_putNum.l0 k2 (x3_2 / 128) y1030) = some r := by first | (rw [hy1030]; with_reducible exact H) | (have H2_ := (Option.bind_some _ _).symm.trans H; rw [hy1030]; with_reducible exact H2_) | (have H2_ := (Option.bind_some _ _).symm.trans H; with_reducible exact H2_) | with_reducible exact H | (rw [hy1030]; exact H) | exact H
       have Ny1030 := zA_ hy1030
       clear hy1030
       have H' := zA_ H
       clear H
       go_wp2_with (first | ((with_reducible refine gate_builtin (b := .append) (xs := #[.tmp 16, .tmp 20]) rfl ?_); at_builtin; refine Kd.R_append (Kd.int .u8) (w0 := w) w.heap.size rfl (.tmp 16) (.tmp 20) 66 5 (.int .u8 0) 1 rfl Try.underlying66 info5 rfl (by decide) (by omega) u4 x4_2 (Go.bits .or .u8 ((x3_2) % 256) 128) [.int .u8 (Go.bits .or .u8 ((x3_2) % 256) 128)] (fun _ => True) (fun _ => False) rfl rfl ?aP (fun _ hk => hk.elim) ?aF ?aO ?aB ?aS ?aL ?_; (case aP => exact rfl); (case aB => exact (zh_ HB.out)); (case aF => exact (fun _ _ => trivial)); (case aO => exact (zr_ HO_4.out)); (case aS => exact (below_size (zh_ HB.out))); (case aL => have := LMc5.out; omega); intro v1031 w6 ho hb hg hat; rw [← Ny1030.out] at ho; have n0_ := zA_ (hb); have n1_ := zA_ (ho); clear HB HO_4; have HB := n0_; have HO1032 := n1_; clear n0_ n1_; clear ho hb hg hat))
       go_roundg k2
       case measure => have := HJ1.out; have := HK2.out; omega
       case rel => exact ⟨(x3_2 / 128), (y1030), (by first | rfl | (simp; done) | (simp [*]; done)), H', ⟨by have := HJ1.out; have := HK2.out; omega⟩, ⟨zr_ HO1032.out⟩, ⟨zh_ HB.out⟩⟩
      ·
       rw [if_neg c5] at H
       exact absurd H (by simp)
     ·
      rw [if_neg c4] at H
      have c4b0 : decide (127 < x3_2) = false := decide_eq_false c4
      clear c4
      by_cases c7 : x4_2.length < 140737488355328
      ·
       rw [if_pos c7] at H
       have LMc7 := zA_ c7
       clear c7
       obtain ⟨y1033, hy1033⟩ : ∃ y_ : List Int, y_ = (x4_2 ++ [(x3_2) % 256]) := ⟨_, rfl⟩
       replace H : (some (strOfNums y1033)) = some r := by first | (rw [hy1033]; with_reducible exact H) | (have H2_ := (Option.bind_some _ _).symm.trans H; rw [hy1033]; with_reducible exact H2_) | (have H2_ := (Option.bind_some _ _).symm.trans H; with_reducible exact H2_) | with_reducible exact H | (rw [hy1033]; exact H) | exact H
       have Ny1033 := zA_ hy1033
       clear hy1033
       obtain rfl := Option.some.inj H
       go_wp2_with (first | ((with_reducible refine gate_builtin (b := .append) (xs := #[.tmp 22, .tmp 25]) rfl ?_); at_builtin; refine Kd.R_append (Kd.int .u8) (w0 := w) w.heap.size rfl (.tmp 22) (.tmp 25) 66 5 (.int .u8 0) 1 rfl Try.underlying66 info5 rfl (by decide) (by omega) u4 x4_2 ((x3_2) % 256) [.int .u8 ((x3_2) % 256)] (fun _ => True) (fun _ => False) rfl rfl ?aP (fun _ hk => hk.elim) ?aF ?aO ?aB ?aS ?aL ?_; (case aP => exact rfl); (case aB => exact (zh_ HB.out)); (case aF => exact (fun _ _ => trivial)); (case aO => exact (zr_ HO_4.out)); (case aS => exact (below_size (zh_ HB.out))); (case aL => have := LMc7.out; omega); intro v1034 w8 ho hb hg hat; rw [← Ny1033.out] at ho; have n0_ := zA_ (hb); have n1_ := zA_ (ho); clear HB HO_4; have HB := n0_; have HO1035 := n1_; clear n0_ n1_; clear ho hb hg hat; have hcv9 := own_string (P := Try.prog) Try.underlying66 Try.underlying5 Try.underlying9 (Kd.own_of_R HO1035.out)))
       go_ret
       exact ⟨by first | rfl | (simp [errW_none, errW_some] <;> rfl) | (simp [*, errW_none, errW_some] <;> rfl), by repeat (first | (with_reducible first | exact HB.out | apply below_alloc | apply pw_below_drewN | apply below_drew1) | exact HB.out)⟩
      ·
       rw [if_neg c7] at H
       exact absurd H (by simp)

end Go.Proofs.Ytibnmnkembbgeaa.Q
