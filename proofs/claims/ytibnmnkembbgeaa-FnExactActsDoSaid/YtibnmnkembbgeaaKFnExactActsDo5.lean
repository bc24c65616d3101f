/- For each Go function that the laws of this text reach: a Lean function, and the proof that the Go function returns what the Lean function tells, wherever it tells some value. Written by a program of this session. -/
import Derived.Test.YtibnmnkembbgeaaKFnExactActsDo0
import Derived.Test.YtibnmnkembbgeaaKFnExactActsDo2
import Derived.Test.YtibnmnkembbgeaaKFnExactActsDo4
namespace Go.Proofs.Ytibnmnkembbgeaa.Q
open Go.RowKit Go.Proofs.YtibnmnkembbgeaaW.PrintWords Go.Proofs.YtibnmnkembbgeaaW.PrintLast Go.Proofs.YtibnmnkembbgeaaW.PrintMore
attribute [local go_sem] max2_int min2_int max_two min_two max_three min_three max_four min_four Instr.field asAgg   -- for this text's walks alone
set_option linter.unusedVariables false
set_option linter.unusedSimpArgs false
/-! ### spec_l03Put: function 91 -/
def spec_l03Put.l0 : Nat → Int → ByteArray → Int → List ByteArray → List (S92) → Option (List ByteArray × (List (S92)))
 | 0, _, _, _, _, _ => none
 | k + 1, x1, x2, x8, x523000, x523001 => if x8 < (x523001.length : Int) then (if 0 ≤ x8 then (if ((rd_T92 x523001 x8).f0) = x1 then (some (x523000, (x523001.set (x8 : Int).toNat (⟨(rd_T92 x523001 x8).f0, x2⟩ : S92)))) else (spec_l03Put.l0 k x1 x2 (wrap64 (x8 + 1)) x523000 x523001)) else (none)) else (if x523001.length < 5864062014805 then (some (x523000, (x523001 ++ [(⟨x1, x2⟩ : S92)]))) else (none))
def spec_l03Put.f (k : Nat) (l0_0 : List ByteArray) (l0_1 : List (S92)) (a1 : Int) (a2 : ByteArray) : Option (List ByteArray × (List (S92))) := (spec_l03Copy.f l0_0 l0_1).bind fun bt516 => (spec_l03Put.l0 k a1 a2 0 bt516.1 bt516.2)
theorem spec_l03Put.mono_l : ∀ k, (∀ y0 y1 y2 y3 y4, LeO (spec_l03Put.l0 k y0 y1 y2 y3 y4) (spec_l03Put.l0 (k + 1) y0 y1 y2 y3 y4))
 | 0 => fun _ _ _ _ _ r h => by simp [spec_l03Put.l0] at h
 | k + 1 => by
  have ih0 := spec_l03Put.mono_l k
  ·
   intro y0 y1 y2 y3 y4
   unfold spec_l03Put.l0
   repeat' first
   | (with_reducible exact ih0 _ _ _ _ _)
   | (with_reducible exact LeO.refl _)
   | (with_reducible exact LeO.none _)
   | (with_reducible refine LeO.ite ?_ ?_)
   | (with_reducible refine LeO.bind ?_ (fun _ => ?_))
   | exact ih0 _ _ _ _ _
   | exact LeO.none _
   | refine LeO.ite ?_ ?_
   | refine LeO.bind ?_ (fun _ => ?_)
theorem spec_l03Put.mono : ∀ a0 a1 a2 a3 k, LeO (spec_l03Put.f k a0 a1 a2 a3) (spec_l03Put.f (k + 1) a0 a1 a2 a3) := by
 intro a0 a1 a2 a3 k
 have ih0 := spec_l03Put.mono_l k
 unfold spec_l03Put.f
 repeat' first
   | (with_reducible exact ih0 _ _ _ _ _)
   | (with_reducible exact LeO.refl _)
   | (with_reducible exact LeO.none _)
   | (with_reducible refine LeO.ite ?_ ?_)
   | (with_reducible refine LeO.bind ?_ (fun _ => ?_))
   | exact ih0 _ _ _ _ _
   | exact LeO.none _
   | refine LeO.ite ?_ ?_
   | refine LeO.bind ?_ (fun _ => ?_)
set_option maxHeartbeats 8000000 in
set_option maxRecDepth 100000 in
theorem spec_l03Put.calls (k : Nat) (A0_0 : Option Addr) (c0_0 : Nat) (l0_0 : List ByteArray) (A0_1 : Option Addr) (c0_1 : Nat) (l0_1 : List (S92)) (a1 : Int) (a2 : ByteArray) (r1 : List ByteArray) (r2 : List (S92)) (w : World) (hr0_0 : Kd.C Kd.string w A0_0 l0_0.length l0_0) (hc0_0 : l0_0.length ≤ c0_0) (hr0_1 : Kd.C k92 w A0_1 l0_1.length l0_1) (hc0_1 : l0_1.length ≤ c0_1) (h : spec_l03Put.f k l0_0 l0_1 a1 a2 = some (r1, r2)) :
  Calls Try.prog 91 #[.agg #[.slice A0_0 l0_0.length c0_0, .slice A0_1 l0_1.length c0_1], .int .i64 a1, .string a2] w fun e w' => ∃ v0_ v1_ : Value, e = .returned (.agg #[v0_, v1_]) ∧ Kd.R Kd.string 9 w' w.heap.size (fun _ => True) v0_ r1 ∧ Kd.R k92 92 w' w.heap.size (fun _ => True) v1_ r2 ∧ Below w.heap.size w w' := by
 have hu30 := Try.underlying30
 have hu92 := Try.underlying92
 have HR0_0 := Aside0.mk hr0_0
 have HC0_0 := Aside0.mk hc0_0
 clear hr0_0 hc0_0
 have HR0_1 := Aside0.mk hr0_1
 have HC0_1 := Aside0.mk hc0_1
 clear hr0_1 hc0_1
 have HB := Aside0.mk (Below.refl w.heap.size w)
 have H : ((spec_l03Copy.f l0_0 l0_1).bind fun bt516 => (spec_l03Put.l0 k a1 a2 0 bt516.1 bt516.2)) = some (r1, r2) := h
 clear h
 replace H := Option.bind_eq_some_iff.mp H
 obtain ⟨⟨t516, t519⟩, A40, H⟩ := H
 replace H : (spec_l03Put.l0 k a1 a2 0 t516 t519) = some (r1, r2) := H
 have A4 := Aside0.mk A40
 clear A40
 have H' := Aside0.mk H
 clear H
 go_enter Try.func91, Try.ntmps91
 go_wp2_with (first | ((with_reducible refine gate_dst (N := 3) rfl ?_); refine box_event ?hg (N := 3) ?hd (cs := #[.slice A0_0 l0_0.length c0_0, .slice A0_1 l0_1.length c0_1]) (t := 30) ?hr ?_; (case hd => rfl); (case hg => rfl); (case hr => first | (go_simp; done) | (go_simp; rfl)); intro gb514 hg w5 hbox hb; have n0_ := Aside0.mk (below_step (zh_ HB.out) hb); have n1_ := Aside0.mk (hbox); have n2_ := Aside0.mk ((by rw [hg]; exact (below_size (zh_ HB.out)) : w.heap.size ≤ gb514)); have n3_ := Aside0.mk ((by rw [hg]; exact (below_size (zh_ HB.out)) : w.heap.size ≤ gb514)); clear HB; have HB := n0_; have BK514 := n1_; have GW514 := n2_; have GE514 := n3_; clear n0_ n1_ n2_ n3_; clear hb hbox hg) | ((with_reducible refine gate_dst (N := 6) rfl ?_); refine box_event ?hg (N := 6) ?hd (cs := #[.slice none 0 0, .slice none 0 0]) (t := 30) ?hr ?_; (case hd => rfl); (case hg => rfl); (case hr => first | (go_simp; done) | (go_simp; rfl)); intro gb515 hg w6 hbox hb; have n0_ := Aside0.mk (blk_below (g := gb514) (o := .cells #[.slice A0_0 l0_0.length c0_0, .slice A0_1 l0_1.length c0_1] 30 (0, 0)) (zb_ BK514.out) hb); have n1_ := Aside0.mk (below_step (zg1_ HB.out GE514.out) hb); have n2_ := Aside0.mk (hbox); have n3_ := Aside0.mk ((by rw [hg]; exact (below_size (zg1_ HB.out GE514.out)) : w.heap.size ≤ gb515)); have n4_ := Aside0.mk ((by rw [hg]; exact (below_size (zg1_ HB.out GE514.out)) : w.heap.size ≤ gb515)); have n5_ := Aside0.mk ((by rw [hg]; exact Nat.ne_of_lt (blk_lt (g := gb514) (o := .cells #[.slice A0_0 l0_0.length c0_0, .slice A0_1 l0_1.length c0_1] 30 (0, 0)) (zb_ BK514.out)) : gb514 ≠ gb515)); have n6_ := Aside0.mk ((by rw [hg]; exact Nat.ne_of_gt (blk_lt (g := gb514) (o := .cells #[.slice A0_0 l0_0.length c0_0, .slice A0_1 l0_1.length c0_1] 30 (0, 0)) (zb_ BK514.out)) : gb515 ≠ gb514)); clear BK514; clear HB; have BK514 := n0_; have HB := n1_; have BK515 := n2_; have GW515 := n3_; have GE515 := n4_; have NB514_515 := n5_; have NB515_514 := n6_; clear n0_ n1_ n2_ n3_ n4_ n5_ n6_; clear hb hbox hg; have hnb7 := NB514_515.out; have hnc7 := NB515_514.out; have hcz8_0 : w6.cell? ⟨gb514, 0, none⟩ = some (.slice A0_0 l0_0.length c0_0) := (blk_cell BK514.out 0).trans rfl; have hcz8_1 : w6.cell? ⟨gb514, 1, none⟩ = some (.slice A0_1 l0_1.length c0_1) := (blk_cell BK514.out 1).trans rfl; have hfz8_0 := blk_frozen BK514.out 0; have hfz8_1 := blk_frozen BK514.out 1) | ((with_reducible refine gate_callee (f := 87) rfl ?_); refine goesL_ (some 10) rfl rfl Try.func87 (by kernel_rfl) rfl #[.agg #[.slice A0_0 l0_0.length c0_0, .slice A0_1 l0_1.length c0_1]] rfl zs_ ?_; (with_reducible refine (spec_l03Copy.calls _ _ l0_0 _ _ l0_1 t516 t519 _ ?side1 ?side2 ?side3 ?side4 A4.out).mono ?_); (case side1 => exact zc_ (Kd.C_below HR0_0.out HB.out)); (case side2 => exact HC0_0.out); (case side3 => exact zc_ (Kd.C_below HR0_1.out HB.out)); (case side4 => exact HC0_1.out); rintro e w9 ⟨v517, v520, rfl, ho0, ho1, hb⟩; refine ⟨_, rfl, ?_⟩; have n0_ := Aside0.mk (Kd.R_lower ho0 (below_size (zg2_ HB.out GE514.out GE515.out))); have n1_ := Aside0.mk (Kd.R_lower ho1 (below_size (zg2_ HB.out GE514.out GE515.out))); have n2_ := Aside0.mk (blk_below (g := gb514) (o := .cells #[.slice A0_0 l0_0.length c0_0, .slice A0_1 l0_1.length c0_1] 30 (0, 0)) (zb_ BK514.out) hb); have n3_ := Aside0.mk (blk_below (g := gb515) (o := .cells #[.slice none 0 0, .slice none 0 0] 30 (0, 0)) (zb_ BK515.out) hb); have n4_ := Aside0.mk (below_step (zg2_ HB.out GE514.out GE515.out) hb); clear BK514; clear BK515; clear HB; have HO518 := n0_; have HO521 := n1_; have BK514 := n2_; have BK515 := n3_; have HB := n4_; clear n0_ n1_ n2_ n3_ n4_; (try clear hb); (try clear hb2); (try clear hk); (try clear hi); (try clear ho0); (try clear ho1)) | ((with_reducible refine gate_dst (N := 7) rfl ?_); refine box_event ?hg (N := 7) ?hd (cs := #[.slice none 0 0, .slice none 0 0]) (t := 30) ?hr ?_; (case hd => rfl); (case hg => rfl); (case hr => first | (go_simp; done) | (go_simp; rfl)); intro gb522 hg w10 hbox hb; have n0_ := Aside0.mk (Kd.R_below (zr_ HO518.out) hb); have n1_ := Aside0.mk (Kd.R_below (zr_ HO521.out) hb); have n2_ := Aside0.mk (blk_below (g := gb514) (o := .cells #[.slice A0_0 l0_0.length c0_0, .slice A0_1 l0_1.length c0_1] 30 (0, 0)) (zb_ BK514.out) hb); have n3_ := Aside0.mk (blk_below (g := gb515) (o := .cells #[.slice none 0 0, .slice none 0 0] 30 (0, 0)) (zb_ BK515.out) hb); have n4_ := Aside0.mk (below_step (zg2_ HB.out GE514.out GE515.out) hb); have n5_ := Aside0.mk (hbox); have n6_ := Aside0.mk ((by rw [hg]; exact (below_size (zg2_ HB.out GE514.out GE515.out)) : w.heap.size ≤ gb522)); have n7_ := Aside0.mk ((by rw [hg]; exact (below_size (zg2_ HB.out GE514.out GE515.out)) : w.heap.size ≤ gb522)); have n8_ := Aside0.mk ((by rw [hg]; exact Nat.ne_of_lt (blk_lt (g := gb514) (o := .cells #[.slice A0_0 l0_0.length c0_0, .slice A0_1 l0_1.length c0_1] 30 (0, 0)) (zb_ BK514.out)) : gb514 ≠ gb522)); have n9_ := Aside0.mk ((by rw [hg]; exact Nat.ne_of_gt (blk_lt (g := gb514) (o := .cells #[.slice A0_0 l0_0.length c0_0, .slice A0_1 l0_1.length c0_1] 30 (0, 0)) (zb_ BK514.out)) : gb522 ≠ gb514)); have n10_ := Aside0.mk ((by rw [hg]; exact Nat.ne_of_lt (blk_lt (g := gb515) (o := .cells #[.slice none 0 0, .slice none 0 0] 30 (0, 0)) (zb_ BK515.out)) : gb515 ≠ gb522)); have n11_ := Aside0.mk ((by rw [hg]; exact Nat.ne_of_gt (blk_lt (g := gb515) (o := .cells #[.slice none 0 0, .slice none 0 0] 30 (0, 0)) (zb_ BK515.out)) : gb522 ≠ gb515)); clear HO518; clear HO521; clear BK514; clear BK515; clear HB; have HO518 := n0_; have HO521 := n1_; have BK514 := n2_; have BK515 := n3_; have HB := n4_; have BK522 := n5_; have GW522 := n6_; have GE522 := n7_; have NB514_522 := n8_; have NB522_514 := n9_; have NB515_522 := n10_; have NB522_515 := n11_; clear n0_ n1_ n2_ n3_ n4_ n5_ n6_ n7_ n8_ n9_ n10_ n11_; clear hb hbox hg; obtain ⟨Ao11, co11, eo11⟩ := Kd.R_slice HO518.out; subst eo11; have hnb12 := NB522_514.out; have hnc12 := NB514_522.out; have hnb13 := NB522_515.out; have hnc13 := NB515_522.out; have hcz14_0 : w10.cell? ⟨gb522, 0, none⟩ = some (.slice none 0 0) := (blk_cell BK522.out 0).trans rfl; have hcz14_1 : w10.cell? ⟨gb522, 1, none⟩ = some (.slice none 0 0) := (blk_cell BK522.out 1).trans rfl; have hfz14_0 := blk_frozen BK522.out 0; have hfz14_1 := blk_frozen BK522.out 1; obtain ⟨Ao15, co15, eo15⟩ := Kd.R_slice HO521.out; subst eo15))
 go_loopg [8] k (fun kq v8 w' => ∃ (x8_1 : Int) (x523001_1 : List (S92)) (u523001 : Value), v8 = .int .i64 x8_1 ∧ Aside0 (spec_l03Put.l0 kq a1 a2 x8_1 t516 x523001_1 = some (r1, r2)) ∧ Aside0 (kq ≤ k) ∧ Aside0 (Kd.R Kd.string 9 w' w.heap.size (fun _ => True) (.slice Ao11 t516.length co11) t516) ∧ Aside0 (Kd.R k92 92 w' w.heap.size (fun _ => True) u523001 x523001_1) ∧ Aside0 (w'.heap[gb514]? = some (.cells #[(.slice A0_0 l0_0.length c0_0), (.slice A0_1 l0_1.length c0_1)] 30 (0, 0))) ∧ Aside0 (w'.heap[gb515]? = some (.cells #[(.slice none 0 0), (.slice none 0 0)] 30 (0, 0))) ∧ Aside0 (w'.heap[gb522]? = some (.cells #[(.slice Ao11 t516.length co11), u523001] 30 (0, 0))) ∧ Aside0 (Below w.heap.size w w'))
 case atStart => exact ⟨(0), (t519), (.slice Ao15 t519.length co15), (by first | rfl | (simp; done) | (simp [*]; done)), H', ⟨Nat.le_refl _⟩, ⟨by (with_reducible repeat (first | apply Kd.R_alloc | apply Kd.R_drewN | apply Kd.R_drew)); exact Kd.R_mono (Kd.R_far (p := ⟨gb522, 1, none⟩) (Kd.R_far (p := ⟨gb522, 0, none⟩) (Kd.R_types HO518.out BK522.out (by decide)) (fun _ hk => hk.2) (.slice Ao11 t516.length co11)) (fun _ hk => hk.2) (.slice Ao15 t519.length co15)) (fun _ hk => trivial)⟩, ⟨by (with_reducible repeat (first | apply Kd.R_alloc | apply Kd.R_drewN | apply Kd.R_drew)); exact Kd.R_mono (Kd.R_far (p := ⟨gb522, 1, none⟩) (Kd.R_far (p := ⟨gb522, 0, none⟩) (Kd.R_types HO521.out BK522.out (by decide)) (fun _ hk => hk.2) (.slice Ao11 t516.length co11)) (fun _ hk => hk.2) (.slice Ao15 t519.length co15)) (fun _ hk => trivial)⟩, ⟨by (with_reducible repeat (first | refine blk_drewN ?_ _ | refine blk_drew ?_ | refine blk_alloc ?_ _)); refine blk_far ?_ NB514_522.out _; (with_reducible repeat (first | refine blk_drewN ?_ _ | refine blk_drew ?_ | refine blk_alloc ?_ _)); refine blk_far ?_ NB514_522.out _; (with_reducible repeat (first | refine blk_drewN ?_ _ | refine blk_drew ?_ | refine blk_alloc ?_ _)); exact BK514.out⟩, ⟨by (with_reducible repeat (first | refine blk_drewN ?_ _ | refine blk_drew ?_ | refine blk_alloc ?_ _)); refine blk_far ?_ NB515_522.out _; (with_reducible repeat (first | refine blk_drewN ?_ _ | refine blk_drew ?_ | refine blk_alloc ?_ _)); refine blk_far ?_ NB515_522.out _; (with_reducible repeat (first | refine blk_drewN ?_ _ | refine blk_drew ?_ | refine blk_alloc ?_ _)); exact BK515.out⟩, ⟨by (with_reducible repeat (first | refine blk_drewN ?_ _ | refine blk_drew ?_ | refine blk_alloc ?_ _)); refine blk_put (cs := #[.slice Ao11 t516.length co11, .slice none 0 0]) ?_ 1 _ rfl; (with_reducible repeat (first | refine blk_drewN ?_ _ | refine blk_drew ?_ | refine blk_alloc ?_ _)); refine blk_put (cs := #[.slice none 0 0, .slice none 0 0]) ?_ 0 _ rfl; (with_reducible repeat (first | refine blk_drewN ?_ _ | refine blk_drew ?_ | refine blk_alloc ?_ _)); exact BK522.out⟩, ⟨zg3_ HB.out GE514.out GE515.out GE522.out⟩⟩
 case round =>
  clear H'
  try clear c1
  try clear p2
  try clear c7
  try clear c8
  try clear c9
  try clear c12
  try clear c13
  try clear hcz14_0
  try clear hcz14_1
  try clear hcz8_0
  try clear hcz8_1
  try clear hfz14_0
  try clear hfz14_1
  try clear hfz8_0
  try clear hfz8_1
  obtain ⟨x8_1, x523001_1, u523001, rfl, HA, HK1, HO_523000, HO_523001, BK514, BK515, BK522, HB⟩ := hrel
  cases gk with
  | zero => exact absurd HA.out (by simp [spec_l03Put.l0])
  | succ k1 =>
   have H := HA.out
   clear HA
   simp only [spec_l03Put.l0] at H
   by_cases c16 : x8_1 < (x523001_1.length : Int)
   ·
    rw [if_pos c16] at H
    have c16b0 : decide (x8_1 < (x523001_1.length : Int)) = true := decide_eq_true c16
    clear c16
    by_cases c17 : 0 ≤ x8_1
    ·
     rw [if_pos c17] at H
     have c17b0 : decide (0 ≤ x8_1) = true := decide_eq_true c17
     clear c17
     by_cases c18 : ((rd_T92 x523001_1 x8_1).f0) = a1
     ·
      rw [if_pos c18] at H
      have c18b0 : (((rd_T92 x523001_1 x8_1).f0) == a1) = true := beq_iff_eq.mpr c18
      have c18b1 : (((rd_T92 x523001_1 x8_1).f0) != a1) = false := bne_eq_false_iff_eq.mpr c18
      clear c18
      obtain ⟨y524, hy524⟩ : ∃ y_ : List (S92), y_ = (x523001_1.set (x8_1 : Int).toNat (⟨(rd_T92 x523001_1 x8_1).f0, a2⟩ : S92)) := ⟨_, rfl⟩
      replace H : (some (t516, y524)) = some (r1, r2) := by first | (rw [hy524]; with_reducible exact H) | (have H2_ := (Option.bind_some _ _).symm.trans H; rw [hy524]; with_reducible exact H2_) | (have H2_ := (Option.bind_some _ _).symm.trans H; with_reducible exact H2_) | with_reducible exact H | (rw [hy524]; exact H) | exact H
      have Ny524 := Aside0.mk hy524
      clear hy524
      simp only [Option.some.injEq, Prod.mk.injEq] at H
      obtain ⟨rfl, rfl⟩ := H
      have hnb20 := NB522_514.out
      have hnc20 := NB514_522.out
      have hnb21 := NB522_515.out
      have hnc21 := NB515_522.out
      have hcz22_0 : wr.cell? ⟨gb522, 0, none⟩ = some (.slice Ao11 t516.length co11) := (blk_cell BK522.out 0).trans rfl
      have hcz22_1 : wr.cell? ⟨gb522, 1, none⟩ = some (u523001) := (blk_cell BK522.out 1).trans rfl
      have hfz22_0 := blk_frozen BK522.out 0
      have hfz22_1 := blk_frozen BK522.out 1
      obtain ⟨Ao23, co23, eo23⟩ := Kd.R_slice HO_523001.out
      subst eo23
      have p523 : 0 ≤ (x8_1 : Int) := of_decide_eq_true (by first | (with_reducible assumption) | assumption)
      have q523 : x8_1 < (x523001_1.length : Int) := of_decide_eq_true (by first | (with_reducible assumption) | assumption)
      obtain ⟨ad523, e523, hx523_0, hx523_1⟩ := at_T92 (Kd.R_reads' HO_523001.out).2.2 x8_1 p523 q523
      cases e523
      replace p523 := eq_true p523
      replace q523 := eq_true q523
      have p19 : 0 ≤ (x8_1 : Int) := of_decide_eq_true (by first | (with_reducible assumption) | assumption)
      have q19 : (x8_1 : Int) < ((x523001_1.length : Int) : Int) := of_decide_eq_true (by first | (with_reducible assumption) | assumption)
      obtain ⟨go19, co19, eo19, gb19, gl19, cl19, HG19⟩ := Kd.R_form HO_523001.out (by omega)
      (first | cases eo19 | (injection eo19 with ea_ en_ ec_; (first | subst ea_ | (injection ea_ with ea_; subst ea_)); subst ec_; clear en_))
      have GB19 := Aside0.mk gb19
      have GG19 := Aside0.mk HG19
      clear gb19 gl19 HG19
      (first | simp only [add_plain] at hx523_0 | skip)
      (first | simp only [add_plain] at hx523_1 | skip)
      obtain ⟨ce19, hcl19, hM19, hcc19, hfr19⟩ := Kd.R_elem HO_523001.out z92 (x8_1 : Int) p19 q19
      obtain rfl := k92_openM hM19
      have hx19_0 : wr.cell? ⟨go19, (x8_1 : Int).toNat * 2, none⟩ = some (.int .i64 ((rd_T92 x523001_1 x8_1).f0)) := hcc19 0 _ rfl
      have hx19_1 : wr.cell? ⟨go19, (x8_1 : Int).toNat * 2 + 1, none⟩ = some (.string ((rd_T92 x523001_1 x8_1).f1)) := hcc19 1 _ rfl
      have hf19_0 : wr.frozen? ⟨go19, (x8_1 : Int).toNat * 2, none⟩ = false := hfr19 0
      have hf19_1 : wr.frozen? ⟨go19, (x8_1 : Int).toNat * 2 + 1, none⟩ = false := hfr19 1
      clear hcl19 hcc19 hfr19 hM19
      replace p19 := eq_true p19
      replace q19 := eq_true q19
      have HX24 := Aside0.mk (show Kd.R k92 92 wr w.heap.size (fun _ => True) (.slice (some ⟨go19, 0, none⟩) x523001_1.length co23) x523001_1 from (zr_ HO_523001.out))
      obtain ⟨ce24, hcl24, hM24, hcc24, hfr24⟩ := Kd.R_elem HX24.out z92 (x8_1 : Int) (of_decide_eq_true (by first | (with_reducible assumption) | assumption)) (by have h_ : (x8_1 : Int) < ((x523001_1.length : Int) : Int) := of_decide_eq_true (by first | (with_reducible assumption) | assumption); first | exact h_ | (have e_ := (Kd.R_reads' HO_523001.out).1; omega) | simpa using h_)
      obtain rfl := k92_openM hM24
      have HP24 := Kd.R_seg HX24.out (x8_1 : Int) (of_decide_eq_true (by first | (with_reducible assumption) | assumption)) (by have h_ : (x8_1 : Int) < ((x523001_1.length : Int) : Int) := of_decide_eq_true (by first | (with_reducible assumption) | assumption); first | exact h_ | (have e_ := (Kd.R_reads' HO_523001.out).1; omega) | simpa using h_) (seg := [.string a2]) (j := 1) hcl24 hcc24 (show 2 ≤ 2 from by decide) (x' := (⟨(rd_T92 x523001_1 x8_1).f0, a2⟩ : S92)) (k92_mkM _ _ _ (⟨(rd_T92 x523001_1 x8_1).f0, a2⟩ : S92) ) (fun _ hk => hk)
      have hx24_1 := hcc24 1 _ rfl
      (try simp only [show (k92).sz = 2 from rfl, Nat.mul_one, Nat.add_zero] at hx24_1)
      have hf24_1 := hfr24 1
      (try simp only [show (k92).sz = 2 from rfl, Nat.mul_one, Nat.add_zero] at hf24_1)
      clear hcl24 hcc24 hfr24 hM24
      go_wp2_with (first | ((with_reducible refine gate_store (t := 9) (p := 31) rfl ?_); refine store_event (t := 9) (p := 31) (v := ?vo_w25) (w1 := (wr.setCell ⟨go19, (x8_1 : Int).toNat * 2 + 1, none⟩ (.string a2))) ?hg ?ho ?hn ?hr ?_; (case ho => rfl); (case hg => rfl); (case hn => rfl); (case hr => first | (go_simp; done) | (go_simp; rfl) | (have hq_ := HQ_.out; subst hq_; go_simp; done) | (have hq_ := HQ_.out; subst hq_; go_simp; rfl)); intro w25 hw; have hg : wr.grownBy w25 (some go19) := (by rw [hw]; exact HP24.2); have hp_ : Kd.R k92 92 w25 w.heap.size (fun _ => True) (.slice (some ⟨go19, 0, none⟩) x523001_1.length co23) y524 := (by rw [hw, Ny524.out]; exact HP24.1); clear HP24; have n0_ := Aside0.mk (Kd.R_over' (v := (.slice (some ⟨go19, 0, none⟩) x523001_1.length co23)) (zr_ HO_523000.out) (Kd.R_typed HO_523001.out) (by decide) hg); have n1_ := Aside0.mk (hp_); have n2_ := Aside0.mk (blk_grown (g := gb514) (o := .cells #[.slice A0_0 l0_0.length c0_0, .slice A0_1 l0_1.length c0_1] 30 (0, 0)) (zb_ BK514.out) hg (Kd.R_ne HO_523001.out BK514.out (by decide))); have n3_ := Aside0.mk (blk_grown (g := gb515) (o := .cells #[.slice none 0 0, .slice none 0 0] 30 (0, 0)) (zb_ BK515.out) hg (Kd.R_ne HO_523001.out BK515.out (by decide))); have n4_ := Aside0.mk (blk_grown (g := gb522) (o := .cells #[.slice Ao11 t516.length co11, .slice (some ⟨go19, 0, none⟩) x523001_1.length co23] 30 (0, 0)) (zb_ BK522.out) hg (Kd.R_ne HO_523001.out BK522.out (by decide))); have n5_ := Aside0.mk ((by rw [hw]; exact below_set (HB.out) GB19.out : Below w.heap.size w w25)); clear HO_523000; clear HO_523001; clear BK514; clear BK515; clear BK522; clear HB; have HO_523000 := n0_; have HO_523001 := n1_; have BK514 := n2_; have BK515 := n3_; have BK522 := n4_; have HB := n5_; clear n0_ n1_ n2_ n3_ n4_ n5_; clear hg hw hp_; have hcz26_0 : w25.cell? ⟨gb522, 0, none⟩ = some (.slice Ao11 t516.length co11) := (blk_cell BK522.out 0).trans rfl; have hcz26_1 : w25.cell? ⟨gb522, 1, none⟩ = some (.slice (some ⟨go19, 0, none⟩) x523001_1.length co23) := (blk_cell BK522.out 1).trans rfl; have hfz26_0 := blk_frozen BK522.out 0; have hfz26_1 := blk_frozen BK522.out 1; have hnb27 := NB515_514.out; have hnc27 := NB514_515.out; have hcz28_0 : w25.cell? ⟨gb515, 0, none⟩ = some (.slice none 0 0) := (blk_cell BK515.out 0).trans rfl; have hcz28_1 : w25.cell? ⟨gb515, 1, none⟩ = some (.slice none 0 0) := (blk_cell BK515.out 1).trans rfl; have hfz28_0 := blk_frozen BK515.out 0; have hfz28_1 := blk_frozen BK515.out 1))
      refine bodyPost_ret (results_cell_row rfl _ _ gb515 30 #[.slice Ao11 t516.length co11, .slice (some ⟨go19, 0, none⟩) x523001_1.length co23] (0, 0) _ rfl (by (with_reducible repeat (first | refine blk_drewN ?_ _ | refine blk_drew ?_ | refine blk_alloc ?_ _)); refine blk_put (cs := #[.slice Ao11 t516.length co11, .slice none 0 0]) ?_ 1 _ rfl; (with_reducible repeat (first | refine blk_drewN ?_ _ | refine blk_drew ?_ | refine blk_alloc ?_ _)); refine blk_put (cs := #[.slice none 0 0, .slice none 0 0]) ?_ 0 _ rfl; (with_reducible repeat (first | refine blk_drewN ?_ _ | refine blk_drew ?_ | refine blk_alloc ?_ _)); exact BK515.out) Try.underlying30 rfl (by kernel_rfl)) rfl ?_
      exact ⟨_, _, by first | rfl | (simp [errW_none, errW_some] <;> rfl) | (simp [*, errW_none, errW_some] <;> rfl), by (with_reducible repeat (first | apply Kd.R_alloc | apply Kd.R_drewN | apply Kd.R_drew)); exact Kd.R_mono (Kd.R_far (p := ⟨gb515, 1, none⟩) (Kd.R_far (p := ⟨gb515, 0, none⟩) (Kd.R_types HO_523000.out BK515.out (by decide)) (fun _ hk => hk.2) (.slice Ao11 t516.length co11)) (fun _ hk => hk.2) (.slice (some ⟨go19, 0, none⟩) x523001_1.length co23)) (fun _ hk => trivial), by (with_reducible repeat (first | apply Kd.R_alloc | apply Kd.R_drewN | apply Kd.R_drew)); exact Kd.R_mono (Kd.R_far (p := ⟨gb515, 1, none⟩) (Kd.R_far (p := ⟨gb515, 0, none⟩) (Kd.R_types HO_523001.out BK515.out (by decide)) (fun _ hk => hk.2) (.slice Ao11 t516.length co11)) (fun _ hk => hk.2) (.slice (some ⟨go19, 0, none⟩) x523001_1.length co23)) (fun _ hk => trivial), by repeat (first | (with_reducible first | exact HB.out | apply below_alloc | apply pw_below_drewN | apply below_drew1 | refine below_set ?_ GE514.out | refine below_set ?_ GE515.out | refine below_set ?_ GE522.out) | exact HB.out)⟩
     ·
      rw [if_neg c18] at H
      have c18b0 : (((rd_T92 x523001_1 x8_1).f0) == a1) = false := beq_eq_false_iff_ne.mpr c18
      have c18b1 : (((rd_T92 x523001_1 x8_1).f0) != a1) = true := bne_iff_ne.mpr c18
      have H' := Aside0.mk H
      clear H
      have hnb29 := NB522_514.out
      have hnc29 := NB514_522.out
      have hnb30 := NB522_515.out
      have hnc30 := NB515_522.out
      have hcz31_0 : wr.cell? ⟨gb522, 0, none⟩ = some (.slice Ao11 t516.length co11) := (blk_cell BK522.out 0).trans rfl
      have hcz31_1 : wr.cell? ⟨gb522, 1, none⟩ = some (u523001) := (blk_cell BK522.out 1).trans rfl
      have hfz31_0 := blk_frozen BK522.out 0
      have hfz31_1 := blk_frozen BK522.out 1
      obtain ⟨Ao32, co32, eo32⟩ := Kd.R_slice HO_523001.out
      subst eo32
      have p523 : 0 ≤ (x8_1 : Int) := of_decide_eq_true (by first | (with_reducible assumption) | assumption)
      have q523 : x8_1 < (x523001_1.length : Int) := of_decide_eq_true (by first | (with_reducible assumption) | assumption)
      obtain ⟨ad523, e523, hx523_0, hx523_1⟩ := at_T92 (Kd.R_reads' HO_523001.out).2.2 x8_1 p523 q523
      cases e523
      replace p523 := eq_true p523
      replace q523 := eq_true q523
      go_wp2
      go_roundg k1
      case measure => have := HK1.out; omega
      case rel => exact ⟨(wrap64 (x8_1 + 1)), (x523001_1), (.slice (some ad523) x523001_1.length co32), (by first | rfl | (simp; done) | (simp [*]; done)), H', ⟨by have := HK1.out; omega⟩, ⟨zr_ HO_523000.out⟩, ⟨zr_ HO_523001.out⟩, ⟨zb_ BK514.out⟩, ⟨zb_ BK515.out⟩, ⟨zb_ BK522.out⟩, ⟨zg3_ HB.out GE514.out GE515.out GE522.out⟩⟩
    ·
     rw [if_neg c17] at H
     exact absurd H (by simp)
   ·
    rw [if_neg c16] at H
    have c16b0 : decide (x8_1 < (x523001_1.length : Int)) = false := decide_eq_false c16
    clear c16
    by_cases c33 : x523001_1.length < 5864062014805
    ·
     rw [if_pos c33] at H
     have LMc33 := Aside0.mk c33
     clear c33
     obtain ⟨y525, hy525⟩ : ∃ y_ : List (S92), y_ = (x523001_1 ++ [(⟨a1, a2⟩ : S92)]) := ⟨_, rfl⟩
     replace H : (some (t516, y525)) = some (r1, r2) := by first | (rw [hy525]; with_reducible exact H) | (have H2_ := (Option.bind_some _ _).symm.trans H; rw [hy525]; with_reducible exact H2_) | (have H2_ := (Option.bind_some _ _).symm.trans H; with_reducible exact H2_) | with_reducible exact H | (rw [hy525]; exact H) | exact H
     have Ny525 := Aside0.mk hy525
     clear hy525
     simp only [Option.some.injEq, Prod.mk.injEq] at H
     obtain ⟨rfl, rfl⟩ := H
     have hnb34 := NB522_514.out
     have hnc34 := NB514_522.out
     have hnb35 := NB522_515.out
     have hnc35 := NB515_522.out
     have hcz36_0 : wr.cell? ⟨gb522, 0, none⟩ = some (.slice Ao11 t516.length co11) := (blk_cell BK522.out 0).trans rfl
     have hcz36_1 : wr.cell? ⟨gb522, 1, none⟩ = some (u523001) := (blk_cell BK522.out 1).trans rfl
     have hfz36_0 := blk_frozen BK522.out 0
     have hfz36_1 := blk_frozen BK522.out 1
     obtain ⟨Ao37, co37, eo37⟩ := Kd.R_slice HO_523001.out
     subst eo37
     go_wp2_with (first | ((with_reducible refine gate_builtin (b := .append) (xs := #[.tmp 34, .tmp 38]) rfl ?_); at_builtin; refine Kd.R_append k92 (w0 := w) w.heap.size rfl (.tmp 34) (.tmp 38) 28 92 (.agg #[(.int .i64 0), (.string ⟨#[]⟩)]) 24 rfl Try.underlying28 info92 rfl (by decide) (by omega) (.slice Ao37 x523001_1.length co37) x523001_1 (⟨a1, a2⟩ : S92) [.int .i64 a1, .string a2] (fun _ => True) (fun _ => False) rfl rfl ?aP (fun _ hk => hk.elim) ?aF ?aO ?aB ?aS ?aL ?_; (case aP => exact k92_mkM _ _ _ (⟨a1, a2⟩ : S92)); (case aB => exact (zg3_ HB.out GE514.out GE515.out GE522.out)); (case aF => exact (fun _ _ => trivial)); (case aO => exact (zr_ HO_523001.out)); (case aS => exact (below_size (zg3_ HB.out GE514.out GE515.out GE522.out))); (case aL => have := LMc33.out; omega); intro v526 w38 ho hb hg hat; rw [← Ny525.out] at ho; have n0_ := Aside0.mk (Kd.R_over' (zr_ HO_523000.out) (Kd.R_typed (zr_ HO_523001.out)) (by decide) hg); have n1_ := Aside0.mk (blk_grown (g := gb514) (o := .cells #[.slice A0_0 l0_0.length c0_0, .slice A0_1 l0_1.length c0_1] 30 (0, 0)) (zb_ BK514.out) hg (Kd.R_ne HO_523001.out BK514.out (by decide))); have n2_ := Aside0.mk (blk_grown (g := gb515) (o := .cells #[.slice none 0 0, .slice none 0 0] 30 (0, 0)) (zb_ BK515.out) hg (Kd.R_ne HO_523001.out BK515.out (by decide))); have n3_ := Aside0.mk (blk_grown (g := gb522) (o := .cells #[.slice Ao11 t516.length co11, .slice Ao37 x523001_1.length co37] 30 (0, 0)) (zb_ BK522.out) hg (Kd.R_ne HO_523001.out BK522.out (by decide))); have n4_ := Aside0.mk (hb); have n5_ := Aside0.mk (ho); clear HO_523000; clear BK514; clear BK515; clear BK522; clear HB; clear HO_523001; have HO_523000 := n0_; have BK514 := n1_; have BK515 := n2_; have BK522 := n3_; have HB := n4_; have HO527 := n5_; clear n0_ n1_ n2_ n3_ n4_ n5_; clear ho hb hg hat; obtain ⟨Ao39, co39, eo39⟩ := Kd.R_slice HO527.out; subst eo39; have hcz40_0 : w38.cell? ⟨gb522, 0, none⟩ = some (.slice Ao11 t516.length co11) := (blk_cell BK522.out 0).trans rfl; have hcz40_1 : w38.cell? ⟨gb522, 1, none⟩ = some (.slice Ao37 x523001_1.length co37) := (blk_cell BK522.out 1).trans rfl; have hfz40_0 := blk_frozen BK522.out 0; have hfz40_1 := blk_frozen BK522.out 1; have hnb41 := NB515_514.out; have hnc41 := NB514_515.out; have hcz42_0 : w38.cell? ⟨gb515, 0, none⟩ = some (.slice none 0 0) := (blk_cell BK515.out 0).trans rfl; have hcz42_1 : w38.cell? ⟨gb515, 1, none⟩ = some (.slice none 0 0) := (blk_cell BK515.out 1).trans rfl; have hfz42_0 := blk_frozen BK515.out 0; have hfz42_1 := blk_frozen BK515.out 1))
     refine bodyPost_ret (results_cell_row rfl _ _ gb515 30 #[.slice Ao11 t516.length co11, .slice Ao39 y525.length co39] (0, 0) _ rfl (by (with_reducible repeat (first | refine blk_drewN ?_ _ | refine blk_drew ?_ | refine blk_alloc ?_ _)); refine blk_put (cs := #[.slice Ao11 t516.length co11, .slice none 0 0]) ?_ 1 _ rfl; (with_reducible repeat (first | refine blk_drewN ?_ _ | refine blk_drew ?_ | refine blk_alloc ?_ _)); refine blk_put (cs := #[.slice none 0 0, .slice none 0 0]) ?_ 0 _ rfl; (with_reducible repeat (first | refine blk_drewN ?_ _ | refine blk_drew ?_ | refine blk_alloc ?_ _)); refine blk_far ?_ NB515_522.out _; (with_reducible repeat (first | refine blk_drewN ?_ _ | refine blk_drew ?_ | refine blk_alloc ?_ _)); exact BK515.out) Try.underlying30 rfl (by kernel_rfl)) rfl ?_
     exact ⟨_, _, by first | rfl | (simp [errW_none, errW_some] <;> rfl) | (simp [*, errW_none, errW_some] <;> rfl), by (with_reducible repeat (first | apply Kd.R_alloc | apply Kd.R_drewN | apply Kd.R_drew)); exact Kd.R_mono (Kd.R_far (p := ⟨gb515, 1, none⟩) (Kd.R_far (p := ⟨gb515, 0, none⟩) (Kd.R_far (p := ⟨gb522, 1, none⟩) (Kd.R_types (Kd.R_types HO_523000.out BK522.out (by decide)) BK515.out (by decide)) (fun _ hk => hk.1.2) (.slice Ao39 y525.length co39)) (fun _ hk => hk.2) (.slice Ao11 t516.length co11)) (fun _ hk => hk.2) (.slice Ao39 y525.length co39)) (fun _ hk => trivial), by (with_reducible repeat (first | apply Kd.R_alloc | apply Kd.R_drewN | apply Kd.R_drew)); exact Kd.R_mono (Kd.R_far (p := ⟨gb515, 1, none⟩) (Kd.R_far (p := ⟨gb515, 0, none⟩) (Kd.R_far (p := ⟨gb522, 1, none⟩) (Kd.R_types (Kd.R_types HO527.out BK522.out (by decide)) BK515.out (by decide)) (fun _ hk => hk.1.2) (.slice Ao39 y525.length co39)) (fun _ hk => hk.2) (.slice Ao11 t516.length co11)) (fun _ hk => hk.2) (.slice Ao39 y525.length co39)) (fun _ hk => trivial), by repeat (first | (with_reducible first | exact HB.out | apply below_alloc | apply pw_below_drewN | apply below_drew1 | refine below_set ?_ GE514.out | refine below_set ?_ GE515.out | refine below_set ?_ GE522.out) | exact HB.out)⟩
    ·
     rw [if_neg c33] at H
     exact absurd H (by simp)

/-! ### spec_FlashWrite: function 30 -/
def spec_FlashWrite.j0 : Nat → Int → ByteArray → Bool → List ByteArray → List (S92) → Option (List ByteArray × (List (S92)) × ByteArray × Int)
 | 0, _, _, _, _, _ => none
 | k + 1, x1, x2, x18, x529000, x529001 => if x18 = true then ((spec_l03Ill.f 1).bind fun bt539 => (some (bt539.1, bt539.2.1, bt539.2.2.1, bt539.2.2.2))) else ((spec_l03Is.f x1 0 (wrap64 ((x529000.length : Int) - 1))).bind fun t547 => (if t547 = true then ((spec_l03Put.f k x529000 x529001 x1 x2).bind fun bt548 => (some (bt548.1, bt548.2, (⟨#[]⟩ : ByteArray), 0))) else ((spec_l03Ill.f 8).bind fun bt554 => (some (bt554.1, bt554.2.1, bt554.2.2.1, bt554.2.2.2)))))
def spec_FlashWrite.f (k : Nat) (l0_0 : List ByteArray) (l0_1 : List (S92)) (a1 : Int) (a2 : ByteArray) : Option (List ByteArray × (List (S92)) × ByteArray × Int) := if (a2.size : Int) > 8000 then ((spec_l03Ill.f 2).bind fun bt530 => (some (bt530.1, bt530.2.1, bt530.2.2.1, bt530.2.2.2))) else ((spec_FlashRight.f k l0_0 l0_1).bind fun t538 => (if t538 = true then (spec_FlashWrite.j0 k a1 a2 (decide ((a2.size : Int) > 96)) l0_0 l0_1) else (spec_FlashWrite.j0 k a1 a2 true l0_0 l0_1)))
theorem spec_FlashWrite.mono_l : ∀ k, (∀ y0 y1 y2 y3 y4, LeO (spec_FlashWrite.j0 k y0 y1 y2 y3 y4) (spec_FlashWrite.j0 (k + 1) y0 y1 y2 y3 y4))
 | 0 => fun _ _ _ _ _ r h => by simp [spec_FlashWrite.j0] at h
 | k + 1 => by
  have ih0 := spec_FlashWrite.mono_l k
  ·
   intro y0 y1 y2 y3 y4
   unfold spec_FlashWrite.j0
   repeat' first
   | (with_reducible exact ih0 _ _ _ _ _)
   | (with_reducible exact spec_FlashRight.mono _ _ _)
   | (with_reducible exact spec_l03Put.mono _ _ _ _ _)
   | (with_reducible exact LeO.refl _)
   | (with_reducible exact LeO.none _)
   | (with_reducible refine LeO.ite ?_ ?_)
   | (with_reducible refine LeO.bind ?_ (fun _ => ?_))
   | exact ih0 _ _ _ _ _
   | exact spec_FlashRight.mono _ _ _
   | exact spec_l03Put.mono _ _ _ _ _
   | exact LeO.none _
   | refine LeO.ite ?_ ?_
   | refine LeO.bind ?_ (fun _ => ?_)
theorem spec_FlashWrite.mono : ∀ a0 a1 a2 a3 k, LeO (spec_FlashWrite.f k a0 a1 a2 a3) (spec_FlashWrite.f (k + 1) a0 a1 a2 a3) := by
 intro a0 a1 a2 a3 k
 have ih0 := spec_FlashWrite.mono_l k
 unfold spec_FlashWrite.f
 repeat' first
   | (with_reducible exact ih0 _ _ _ _ _)
   | (with_reducible exact spec_FlashRight.mono _ _ _)
   | (with_reducible exact spec_l03Put.mono _ _ _ _ _)
   | (with_reducible exact LeO.refl _)
   | (with_reducible exact LeO.none _)
   | (with_reducible refine LeO.ite ?_ ?_)
   | (with_reducible refine LeO.bind ?_ (fun _ => ?_))
   | exact ih0 _ _ _ _ _
   | exact spec_FlashRight.mono _ _ _
   | exact spec_l03Put.mono _ _ _ _ _
   | exact LeO.none _
   | refine LeO.ite ?_ ?_
   | refine LeO.bind ?_ (fun _ => ?_)
set_option maxHeartbeats 8000000 in
set_option maxRecDepth 100000 in
theorem spec_FlashWrite.calls (k : Nat) (A0_0 : Option Addr) (c0_0 : Nat) (l0_0 : List ByteArray) (A0_1 : Option Addr) (c0_1 : Nat) (l0_1 : List (S92)) (a1 : Int) (a2 : ByteArray) (r1 : List ByteArray) (r2 : List (S92)) (r3 : ByteArray) (r4 : Int) (w : World) (hr0_0 : Kd.C Kd.string w A0_0 l0_0.length l0_0) (hc0_0 : l0_0.length ≤ c0_0) (hr0_1 : Kd.C k92 w A0_1 l0_1.length l0_1) (hc0_1 : l0_1.length ≤ c0_1) (h : spec_FlashWrite.f k l0_0 l0_1 a1 a2 = some (r1, r2, r3, r4)) :
  Calls Try.prog 30 #[.agg #[.slice A0_0 l0_0.length c0_0, .slice A0_1 l0_1.length c0_1], .int .i64 a1, .string a2] w fun e w' => ∃ v0_ v1_ : Value, e = .returned (.agg #[v0_, v1_, .string r3, .int .i64 r4]) ∧ Kd.R Kd.string 9 w' w.heap.size (fun _ => True) v0_ r1 ∧ Kd.R k92 92 w' w.heap.size (fun _ => True) v1_ r2 ∧ Below w.heap.size w w' := by
 have hu30 := Try.underlying30
 have hu35 := Try.underlying35
 have HR0_0 := Aside0.mk hr0_0
 have HC0_0 := Aside0.mk hc0_0
 clear hr0_0 hc0_0
 have HR0_1 := Aside0.mk hr0_1
 have HC0_1 := Aside0.mk hc0_1
 clear hr0_1 hc0_1
 have HB := Aside0.mk (Below.refl w.heap.size w)
 have H : (if (a2.size : Int) > 8000 then ((spec_l03Ill.f 2).bind fun bt530 => (some (bt530.1, bt530.2.1, bt530.2.2.1, bt530.2.2.2))) else ((spec_FlashRight.f k l0_0 l0_1).bind fun t538 => (if t538 = true then (spec_FlashWrite.j0 k a1 a2 (decide ((a2.size : Int) > 96)) l0_0 l0_1) else (spec_FlashWrite.j0 k a1 a2 true l0_0 l0_1)))) = some (r1, r2, r3, r4) := h
 clear h
 by_cases c4 : (a2.size : Int) > 8000
 ·
  rw [if_pos c4] at H
  have c4b0 : decide (8000 < (a2.size : Int)) = true := decide_eq_true c4
  have c4b1 : decide (8000 < a2.size) = true := decide_eq_true (by omega)
  clear c4
  replace H := Option.bind_eq_some_iff.mp H
  obtain ⟨⟨t530, t533, t536, t537⟩, A50, H⟩ := H
  replace H : (some (t530, t533, t536, t537)) = some (r1, r2, r3, r4) := H
  have A5 := Aside0.mk A50
  clear A50
  simp only [Option.some.injEq, Prod.mk.injEq] at H
  obtain ⟨rfl, rfl, rfl, rfl⟩ := H
  go_enter Try.func30, Try.ntmps30
  go_wp2_with (first | ((with_reducible refine gate_dst (N := 3) rfl ?_); (try (refine gate_guard (by rfl) ?_; dsimp only)); refine box_event ?hg (N := 3) ?hd (cs := #[.slice A0_0 l0_0.length c0_0, .slice A0_1 l0_1.length c0_1]) (t := 30) ?hr ?_; (case hd => rfl); (case hg => rfl); (case hr => first | (go_simp; done) | (go_simp; rfl)); intro gb528 hg w6 hbox hb; have n0_ := Aside0.mk (below_step (zh_ HB.out) hb); have n1_ := Aside0.mk (hbox); have n2_ := Aside0.mk ((by rw [hg]; exact (below_size (zh_ HB.out)) : w.heap.size ≤ gb528)); have n3_ := Aside0.mk ((by rw [hg]; exact (below_size (zh_ HB.out)) : w.heap.size ≤ gb528)); clear HB; have HB := n0_; have BK528 := n1_; have GW528 := n2_; have GE528 := n3_; clear n0_ n1_ n2_ n3_; clear hb hbox hg) | ((with_reducible refine gate_dst (N := 6) rfl ?_); (try (refine gate_guard (by rfl) ?_; dsimp only)); refine box_event ?hg (N := 6) ?hd (cs := #[.slice none 0 0, .slice none 0 0, .string (⟨#[]⟩ : ByteArray), .int .i64 0]) (t := 35) ?hr ?_; (case hd => rfl); (case hg => rfl); (case hr => first | (go_simp; done) | (go_simp; rfl)); intro gb529 hg w7 hbox hb; have n0_ := Aside0.mk (blk_below (g := gb528) (o := .cells #[.slice A0_0 l0_0.length c0_0, .slice A0_1 l0_1.length c0_1] 30 (0, 0)) (zb_ BK528.out) hb); have n1_ := Aside0.mk (below_step (zg1_ HB.out GE528.out) hb); have n2_ := Aside0.mk (hbox); have n3_ := Aside0.mk ((by rw [hg]; exact (below_size (zg1_ HB.out GE528.out)) : w.heap.size ≤ gb529)); have n4_ := Aside0.mk ((by rw [hg]; exact (below_size (zg1_ HB.out GE528.out)) : w.heap.size ≤ gb529)); have n5_ := Aside0.mk ((by rw [hg]; exact Nat.ne_of_lt (blk_lt (g := gb528) (o := .cells #[.slice A0_0 l0_0.length c0_0, .slice A0_1 l0_1.length c0_1] 30 (0, 0)) (zb_ BK528.out)) : gb528 ≠ gb529)); have n6_ := Aside0.mk ((by rw [hg]; exact Nat.ne_of_gt (blk_lt (g := gb528) (o := .cells #[.slice A0_0 l0_0.length c0_0, .slice A0_1 l0_1.length c0_1] 30 (0, 0)) (zb_ BK528.out)) : gb529 ≠ gb528)); clear BK528; clear HB; have BK528 := n0_; have HB := n1_; have BK529 := n2_; have GW529 := n3_; have GE529 := n4_; have NB528_529 := n5_; have NB529_528 := n6_; clear n0_ n1_ n2_ n3_ n4_ n5_ n6_; clear hb hbox hg) | ((with_reducible refine gate_callee (f := 77) rfl ?_); refine goesL_ (some 10) rfl rfl Try.func77 (by kernel_rfl) rfl #[.int .i64 2] rfl zs_ ?_; (with_reducible refine (spec_l03Ill.calls 2 t530 t533 t536 t537 _ A5.out).mono ?_); rintro e w8 ⟨v531, v534, rfl, ho0, ho1, hb⟩; refine ⟨_, rfl, ?_⟩; have n0_ := Aside0.mk (Kd.R_lower ho0 (below_size (zg2_ HB.out GE528.out GE529.out))); have n1_ := Aside0.mk (Kd.R_lower ho1 (below_size (zg2_ HB.out GE528.out GE529.out))); have n2_ := Aside0.mk (blk_below (g := gb528) (o := .cells #[.slice A0_0 l0_0.length c0_0, .slice A0_1 l0_1.length c0_1] 30 (0, 0)) (zb_ BK528.out) hb); have n3_ := Aside0.mk (blk_below (g := gb529) (o := .cells #[.slice none 0 0, .slice none 0 0, .string (⟨#[]⟩ : ByteArray), .int .i64 0] 35 (0, 0)) (zb_ BK529.out) hb); have n4_ := Aside0.mk (below_step (zg2_ HB.out GE528.out GE529.out) hb); clear BK528; clear BK529; clear HB; have HO532 := n0_; have HO535 := n1_; have BK528 := n2_; have BK529 := n3_; have HB := n4_; clear n0_ n1_ n2_ n3_ n4_; (try clear hb); (try clear hb2); (try clear hk); (try clear hi); (try clear ho0); (try clear ho1); obtain ⟨Ao9, co9, eo9⟩ := Kd.R_slice HO532.out; subst eo9; have hnb10 := NB529_528.out; have hnc10 := NB528_529.out; have hcz11_0 : w8.cell? ⟨gb529, 0, none⟩ = some (.slice none 0 0) := (blk_cell BK529.out 0).trans rfl; have hcz11_1 : w8.cell? ⟨gb529, 1, none⟩ = some (.slice none 0 0) := (blk_cell BK529.out 1).trans rfl; have hcz11_2 : w8.cell? ⟨gb529, 2, none⟩ = some (.string (⟨#[]⟩ : ByteArray)) := (blk_cell BK529.out 2).trans rfl; have hcz11_3 : w8.cell? ⟨gb529, 3, none⟩ = some (.int .i64 0) := (blk_cell BK529.out 3).trans rfl; have hfz11_0 := blk_frozen BK529.out 0; have hfz11_1 := blk_frozen BK529.out 1; have hfz11_2 := blk_frozen BK529.out 2; have hfz11_3 := blk_frozen BK529.out 3; obtain ⟨Ao12, co12, eo12⟩ := Kd.R_slice HO535.out; subst eo12))
  refine bodyPost_ret (results_cell_row rfl _ _ gb529 35 #[.slice Ao9 t530.length co9, .slice Ao12 t533.length co12, .string t536, .int .i64 t537] (0, 0) _ rfl (by (with_reducible repeat (first | refine blk_drewN ?_ _ | refine blk_drew ?_ | refine blk_alloc ?_ _)); refine blk_put (cs := #[.slice Ao9 t530.length co9, .slice Ao12 t533.length co12, .string t536, .int .i64 0]) ?_ 3 _ rfl; (with_reducible repeat (first | refine blk_drewN ?_ _ | refine blk_drew ?_ | refine blk_alloc ?_ _)); refine blk_put (cs := #[.slice Ao9 t530.length co9, .slice Ao12 t533.length co12, .string (⟨#[]⟩ : ByteArray), .int .i64 0]) ?_ 2 _ rfl; (with_reducible repeat (first | refine blk_drewN ?_ _ | refine blk_drew ?_ | refine blk_alloc ?_ _)); refine blk_put (cs := #[.slice Ao9 t530.length co9, .slice none 0 0, .string (⟨#[]⟩ : ByteArray), .int .i64 0]) ?_ 1 _ rfl; (with_reducible repeat (first | refine blk_drewN ?_ _ | refine blk_drew ?_ | refine blk_alloc ?_ _)); refine blk_put (cs := #[.slice none 0 0, .slice none 0 0, .string (⟨#[]⟩ : ByteArray), .int .i64 0]) ?_ 0 _ rfl; (with_reducible repeat (first | refine blk_drewN ?_ _ | refine blk_drew ?_ | refine blk_alloc ?_ _)); exact BK529.out) Try.underlying35 rfl (by kernel_rfl)) rfl ?_
  exact ⟨_, _, by first | rfl | (simp [errW_none, errW_some] <;> rfl) | (simp [*, errW_none, errW_some] <;> rfl), by (with_reducible repeat (first | apply Kd.R_alloc | apply Kd.R_drewN | apply Kd.R_drew)); exact Kd.R_mono (Kd.R_far (p := ⟨gb529, 3, none⟩) (Kd.R_far (p := ⟨gb529, 2, none⟩) (Kd.R_far (p := ⟨gb529, 1, none⟩) (Kd.R_far (p := ⟨gb529, 0, none⟩) (Kd.R_types HO532.out BK529.out (by decide)) (fun _ hk => hk.2) (.slice Ao9 t530.length co9)) (fun _ hk => hk.2) (.slice Ao12 t533.length co12)) (fun _ hk => hk.2) (.string t536)) (fun _ hk => hk.2) (.int .i64 t537)) (fun _ hk => trivial), by (with_reducible repeat (first | apply Kd.R_alloc | apply Kd.R_drewN | apply Kd.R_drew)); exact Kd.R_mono (Kd.R_far (p := ⟨gb529, 3, none⟩) (Kd.R_far (p := ⟨gb529, 2, none⟩) (Kd.R_far (p := ⟨gb529, 1, none⟩) (Kd.R_far (p := ⟨gb529, 0, none⟩) (Kd.R_types HO535.out BK529.out (by decide)) (fun _ hk => hk.2) (.slice Ao9 t530.length co9)) (fun _ hk => hk.2) (.slice Ao12 t533.length co12)) (fun _ hk => hk.2) (.string t536)) (fun _ hk => hk.2) (.int .i64 t537)) (fun _ hk => trivial), by repeat (first | (with_reducible first | exact HB.out | apply below_alloc | apply pw_below_drewN | apply below_drew1 | refine below_set ?_ GE528.out | refine below_set ?_ GE529.out) | exact HB.out)⟩
 ·
  rw [if_neg c4] at H
  have c4b0 : decide (8000 < (a2.size : Int)) = false := decide_eq_false c4
  have c4b1 : decide (8000 < a2.size) = false := decide_eq_false (by omega)
  clear c4
  have HC13 := Aside0.mk H
  clear H
  go_enter Try.func30, Try.ntmps30
  go_upto_region 3 with (first | ((with_reducible refine gate_dst (N := 3) rfl ?_); (try (refine gate_guard (by rfl) ?_; dsimp only)); refine box_event ?hg (N := 3) ?hd (cs := #[.slice A0_0 l0_0.length c0_0, .slice A0_1 l0_1.length c0_1]) (t := 30) ?hr ?_; (case hd => rfl); (case hg => rfl); (case hr => first | (go_simp; done) | (go_simp; rfl)); intro gb528 hg w14 hbox hb; have n0_ := Aside0.mk (below_step (zh_ HB.out) hb); have n1_ := Aside0.mk (hbox); have n2_ := Aside0.mk ((by rw [hg]; exact (below_size (zh_ HB.out)) : w.heap.size ≤ gb528)); have n3_ := Aside0.mk ((by rw [hg]; exact (below_size (zh_ HB.out)) : w.heap.size ≤ gb528)); clear HB; have HB := n0_; have BK528 := n1_; have GW528 := n2_; have GE528 := n3_; clear n0_ n1_ n2_ n3_; clear hb hbox hg) | ((with_reducible refine gate_dst (N := 6) rfl ?_); (try (refine gate_guard (by rfl) ?_; dsimp only)); refine box_event ?hg (N := 6) ?hd (cs := #[.slice none 0 0, .slice none 0 0, .string (⟨#[]⟩ : ByteArray), .int .i64 0]) (t := 35) ?hr ?_; (case hd => rfl); (case hg => rfl); (case hr => first | (go_simp; done) | (go_simp; rfl)); intro gb529 hg w15 hbox hb; have n0_ := Aside0.mk (blk_below (g := gb528) (o := .cells #[.slice A0_0 l0_0.length c0_0, .slice A0_1 l0_1.length c0_1] 30 (0, 0)) (zb_ BK528.out) hb); have n1_ := Aside0.mk (below_step (zg1_ HB.out GE528.out) hb); have n2_ := Aside0.mk (hbox); have n3_ := Aside0.mk ((by rw [hg]; exact (below_size (zg1_ HB.out GE528.out)) : w.heap.size ≤ gb529)); have n4_ := Aside0.mk ((by rw [hg]; exact (below_size (zg1_ HB.out GE528.out)) : w.heap.size ≤ gb529)); have n5_ := Aside0.mk ((by rw [hg]; exact Nat.ne_of_lt (blk_lt (g := gb528) (o := .cells #[.slice A0_0 l0_0.length c0_0, .slice A0_1 l0_1.length c0_1] 30 (0, 0)) (zb_ BK528.out)) : gb528 ≠ gb529)); have n6_ := Aside0.mk ((by rw [hg]; exact Nat.ne_of_gt (blk_lt (g := gb528) (o := .cells #[.slice A0_0 l0_0.length c0_0, .slice A0_1 l0_1.length c0_1] 30 (0, 0)) (zb_ BK528.out)) : gb529 ≠ gb528)); clear BK528; clear HB; have BK528 := n0_; have HB := n1_; have BK529 := n2_; have GW529 := n3_; have GE529 := n4_; have NB528_529 := n5_; have NB529_528 := n6_; clear n0_ n1_ n2_ n3_ n4_ n5_ n6_; clear hb hbox hg))
  (try simp only [Act.put, List.setIfInBounds_toArray, List.set_cons_zero, List.set_cons_succ])
  go_cut [18] (fun v18 wc => ∃ (kq : Nat) (x18_12 : Bool), v18 = .bool x18_12 ∧ Aside0 (spec_FlashWrite.j0 kq a1 a2 x18_12 l0_0 l0_1 = some (r1, r2, r3, r4)) ∧ Aside0 (kq ≤ k) ∧ Aside0 (wc.heap[gb528]? = some (.cells #[(.slice A0_0 l0_0.length c0_0), (.slice A0_1 l0_1.length c0_1)] 30 (0, 0))) ∧ Aside0 (wc.heap[gb529]? = some (.cells #[(.slice none 0 0), (.slice none 0 0), .string (⟨#[]⟩ : ByteArray), .int .i64 0] 35 (0, 0))) ∧ Aside0 (Below w.heap.size w wc))
  case first =>
   have H := HC13.out
   clear HC13
   replace H := Option.bind_eq_some_iff.mp H
   obtain ⟨t538, A160, H⟩ := H
   replace H : (if t538 = true then (spec_FlashWrite.j0 k a1 a2 (decide ((a2.size : Int) > 96)) l0_0 l0_1) else (spec_FlashWrite.j0 k a1 a2 true l0_0 l0_1)) = some (r1, r2, r3, r4) := H
   have A16 := Aside0.mk A160
   clear A160
   by_cases c17 : t538 = true
   ·
    subst c17
    have H1 : (spec_FlashWrite.j0 k a1 a2 (decide ((a2.size : Int) > 96)) l0_0 l0_1) = some (r1, r2, r3, r4) := by rw [if_pos rfl] at H; exact H
    clear H
    have H := H1
    clear H1
    have H' := Aside0.mk H
    clear H
    have hnb18 := NB528_529.out
    have hnc18 := NB529_528.out
    have hcz19_0 : w15.cell? ⟨gb528, 0, none⟩ = some (.slice A0_0 l0_0.length c0_0) := (blk_cell BK528.out 0).trans rfl
    have hcz19_1 : w15.cell? ⟨gb528, 1, none⟩ = some (.slice A0_1 l0_1.length c0_1) := (blk_cell BK528.out 1).trans rfl
    have hfz19_0 := blk_frozen BK528.out 0
    have hfz19_1 := blk_frozen BK528.out 1
    go_wp2_with (first | ((with_reducible refine gate_callee (f := 15) rfl ?_); refine goesL_ (some 12) rfl rfl Try.func15 (by kernel_rfl) rfl #[.agg #[.slice A0_0 l0_0.length c0_0, .slice A0_1 l0_1.length c0_1]] rfl zs_ ?_; (with_reducible refine (spec_FlashRight.calls k _ _ l0_0 _ _ l0_1 true _ ?side1 ?side2 ?side3 ?side4 A16.out).mono ?_); (case side1 => exact zc_ (Kd.C_below HR0_0.out HB.out)); (case side2 => exact HC0_0.out); (case side3 => exact zc_ (Kd.C_below HR0_1.out HB.out)); (case side4 => exact HC0_1.out); rintro e w20 ⟨rfl, hb⟩; refine ⟨_, rfl, ?_⟩; have n0_ := Aside0.mk (blk_below (g := gb528) (o := .cells #[.slice A0_0 l0_0.length c0_0, .slice A0_1 l0_1.length c0_1] 30 (0, 0)) (zb_ BK528.out) hb); have n1_ := Aside0.mk (blk_below (g := gb529) (o := .cells #[.slice none 0 0, .slice none 0 0, .string (⟨#[]⟩ : ByteArray), .int .i64 0] 35 (0, 0)) (zb_ BK529.out) hb); have n2_ := Aside0.mk (below_step (zg2_ HB.out GE528.out GE529.out) hb); clear BK528; clear BK529; clear HB; have BK528 := n0_; have BK529 := n1_; have HB := n2_; clear n0_ n1_ n2_; (try clear hb); (try clear hb2); (try clear hk); (try clear hi)))
    go_meet
    case rel => exact ⟨_, (decide ((a2.size : Int) > 96)), (by first | rfl | (simp; done) | (simp [*]; done)), H', ⟨by first | omega | exact Nat.le_refl _⟩, ⟨zb_ BK528.out⟩, ⟨zb_ BK529.out⟩, ⟨zg2_ HB.out GE528.out GE529.out⟩⟩
   ·
    replace c17 := Bool.eq_false_iff.mpr c17
    subst c17
    have H1 : (spec_FlashWrite.j0 k a1 a2 true l0_0 l0_1) = some (r1, r2, r3, r4) := by rw [if_neg (show ¬ (false = true) by decide)] at H; exact H
    clear H
    have H := H1
    clear H1
    have H' := Aside0.mk H
    clear H
    have hnb21 := NB528_529.out
    have hnc21 := NB529_528.out
    have hcz22_0 : w15.cell? ⟨gb528, 0, none⟩ = some (.slice A0_0 l0_0.length c0_0) := (blk_cell BK528.out 0).trans rfl
    have hcz22_1 : w15.cell? ⟨gb528, 1, none⟩ = some (.slice A0_1 l0_1.length c0_1) := (blk_cell BK528.out 1).trans rfl
    have hfz22_0 := blk_frozen BK528.out 0
    have hfz22_1 := blk_frozen BK528.out 1
    go_wp2_with (first | ((with_reducible refine gate_callee (f := 15) rfl ?_); refine goesL_ (some 12) rfl rfl Try.func15 (by kernel_rfl) rfl #[.agg #[.slice A0_0 l0_0.length c0_0, .slice A0_1 l0_1.length c0_1]] rfl zs_ ?_; (with_reducible refine (spec_FlashRight.calls k _ _ l0_0 _ _ l0_1 false _ ?side1 ?side2 ?side3 ?side4 A16.out).mono ?_); (case side1 => exact zc_ (Kd.C_below HR0_0.out HB.out)); (case side2 => exact HC0_0.out); (case side3 => exact zc_ (Kd.C_below HR0_1.out HB.out)); (case side4 => exact HC0_1.out); rintro e w23 ⟨rfl, hb⟩; refine ⟨_, rfl, ?_⟩; have n0_ := Aside0.mk (blk_below (g := gb528) (o := .cells #[.slice A0_0 l0_0.length c0_0, .slice A0_1 l0_1.length c0_1] 30 (0, 0)) (zb_ BK528.out) hb); have n1_ := Aside0.mk (blk_below (g := gb529) (o := .cells #[.slice none 0 0, .slice none 0 0, .string (⟨#[]⟩ : ByteArray), .int .i64 0] 35 (0, 0)) (zb_ BK529.out) hb); have n2_ := Aside0.mk (below_step (zg2_ HB.out GE528.out GE529.out) hb); clear BK528; clear BK529; clear HB; have BK528 := n0_; have BK529 := n1_; have HB := n2_; clear n0_ n1_ n2_; (try clear hb); (try clear hb2); (try clear hk); (try clear hi)))
    go_meet
    case rel => exact ⟨_, (true), (by first | rfl | (simp; done) | (simp [*]; done)), H', ⟨by first | omega | exact Nat.le_refl _⟩, ⟨zb_ BK528.out⟩, ⟨zb_ BK529.out⟩, ⟨zg2_ HB.out GE528.out GE529.out⟩⟩
  case rest =>
   clear HC13
   try clear c1
   try clear c2
   try clear p2
   try clear c3
   try clear c4
   try clear c4b0
   try clear c4b1
   try clear c7
   try clear c10
   try clear c15
   try clear c17
   try clear c18
   try clear c21
   try clear hcz11_0
   try clear hcz11_1
   try clear hcz11_2
   try clear hcz11_3
   try clear hcz19_0
   try clear hcz19_1
   try clear hcz22_0
   try clear hcz22_1
   try clear hfz11_0
   try clear hfz11_1
   try clear hfz11_2
   try clear hfz11_3
   try clear hfz19_0
   try clear hfz19_1
   try clear hfz22_0
   try clear hfz22_1
   obtain ⟨kq, x18_12, rfl, HA, HJ12, BK528, BK529, HB⟩ := hcut
   cases kq with
   | zero => exact absurd HA.out (by simp [spec_FlashWrite.j0])
   | succ kj12 =>
    have H := HA.out
    clear HA
    simp only [spec_FlashWrite.j0] at H
    by_cases c24 : x18_12 = true
    ·
     subst c24
     have H1 : ((spec_l03Ill.f 1).bind fun bt539 => (some (bt539.1, bt539.2.1, bt539.2.2.1, bt539.2.2.2))) = some (r1, r2, r3, r4) := by rw [if_pos rfl] at H; exact H
     clear H
     have H := H1
     clear H1
     replace H := Option.bind_eq_some_iff.mp H
     obtain ⟨⟨t539, t542, t545, t546⟩, A250, H⟩ := H
     replace H : (some (t539, t542, t545, t546)) = some (r1, r2, r3, r4) := H
     have A25 := Aside0.mk A250
     clear A250
     simp only [Option.some.injEq, Prod.mk.injEq] at H
     obtain ⟨rfl, rfl, rfl, rfl⟩ := H
     go_wp2_with (first | ((with_reducible refine gate_callee (f := 77) rfl ?_); refine goesL_ (some 19) rfl rfl Try.func77 (by kernel_rfl) rfl #[.int .i64 1] rfl zs_ ?_; (with_reducible refine (spec_l03Ill.calls 1 t539 t542 t545 t546 _ A25.out).mono ?_); rintro e w26 ⟨v540, v543, rfl, ho0, ho1, hb⟩; refine ⟨_, rfl, ?_⟩; have n0_ := Aside0.mk (Kd.R_lower ho0 (below_size (zg2_ HB.out GE528.out GE529.out))); have n1_ := Aside0.mk (Kd.R_lower ho1 (below_size (zg2_ HB.out GE528.out GE529.out))); have n2_ := Aside0.mk (blk_below (g := gb528) (o := .cells #[.slice A0_0 l0_0.length c0_0, .slice A0_1 l0_1.length c0_1] 30 (0, 0)) (zb_ BK528.out) hb); have n3_ := Aside0.mk (blk_below (g := gb529) (o := .cells #[.slice none 0 0, .slice none 0 0, .string (⟨#[]⟩ : ByteArray), .int .i64 0] 35 (0, 0)) (zb_ BK529.out) hb); have n4_ := Aside0.mk (below_step (zg2_ HB.out GE528.out GE529.out) hb); clear BK528; clear BK529; clear HB; have HO541 := n0_; have HO544 := n1_; have BK528 := n2_; have BK529 := n3_; have HB := n4_; clear n0_ n1_ n2_ n3_ n4_; (try clear hb); (try clear hb2); (try clear hk); (try clear hi); (try clear ho0); (try clear ho1); obtain ⟨Ao27, co27, eo27⟩ := Kd.R_slice HO541.out; subst eo27; have hnb28 := NB529_528.out; have hnc28 := NB528_529.out; have hcz29_0 : w26.cell? ⟨gb529, 0, none⟩ = some (.slice none 0 0) := (blk_cell BK529.out 0).trans rfl; have hcz29_1 : w26.cell? ⟨gb529, 1, none⟩ = some (.slice none 0 0) := (blk_cell BK529.out 1).trans rfl; have hcz29_2 : w26.cell? ⟨gb529, 2, none⟩ = some (.string (⟨#[]⟩ : ByteArray)) := (blk_cell BK529.out 2).trans rfl; have hcz29_3 : w26.cell? ⟨gb529, 3, none⟩ = some (.int .i64 0) := (blk_cell BK529.out 3).trans rfl; have hfz29_0 := blk_frozen BK529.out 0; have hfz29_1 := blk_frozen BK529.out 1; have hfz29_2 := blk_frozen BK529.out 2; have hfz29_3 := blk_frozen BK529.out 3; obtain ⟨Ao30, co30, eo30⟩ := Kd.R_slice HO544.out; subst eo30))
     refine bodyPost_ret (results_cell_row rfl _ _ gb529 35 #[.slice Ao27 t539.length co27, .slice Ao30 t542.length co30, .string t545, .int .i64 t546] (0, 0) _ rfl (by (with_reducible repeat (first | refine blk_drewN ?_ _ | refine blk_drew ?_ | refine blk_alloc ?_ _)); refine blk_put (cs := #[.slice Ao27 t539.length co27, .slice Ao30 t542.length co30, .string t545, .int .i64 0]) ?_ 3 _ rfl; (with_reducible repeat (first | refine blk_drewN ?_ _ | refine blk_drew ?_ | refine blk_alloc ?_ _)); refine blk_put (cs := #[.slice Ao27 t539.length co27, .slice Ao30 t542.length co30, .string (⟨#[]⟩ : ByteArray), .int .i64 0]) ?_ 2 _ rfl; (with_reducible repeat (first | refine blk_drewN ?_ _ | refine blk_drew ?_ | refine blk_alloc ?_ _)); refine blk_put (cs := #[.slice Ao27 t539.length co27, .slice none 0 0, .string (⟨#[]⟩ : ByteArray), .int .i64 0]) ?_ 1 _ rfl; (with_reducible repeat (first | refine blk_drewN ?_ _ | refine blk_drew ?_ | refine blk_alloc ?_ _)); refine blk_put (cs := #[.slice none 0 0, .slice none 0 0, .string (⟨#[]⟩ : ByteArray), .int .i64 0]) ?_ 0 _ rfl; (with_reducible repeat (first | refine blk_drewN ?_ _ | refine blk_drew ?_ | refine blk_alloc ?_ _)); exact BK529.out) Try.underlying35 rfl (by kernel_rfl)) rfl ?_
     exact ⟨_, _, by first | rfl | (simp [errW_none, errW_some] <;> rfl) | (simp [*, errW_none, errW_some] <;> rfl), by (with_reducible repeat (first | apply Kd.R_alloc | apply Kd.R_drewN | apply Kd.R_drew)); exact Kd.R_mono (Kd.R_far (p := ⟨gb529, 3, none⟩) (Kd.R_far (p := ⟨gb529, 2, none⟩) (Kd.R_far (p := ⟨gb529, 1, none⟩) (Kd.R_far (p := ⟨gb529, 0, none⟩) (Kd.R_types HO541.out BK529.out (by decide)) (fun _ hk => hk.2) (.slice Ao27 t539.length co27)) (fun _ hk => hk.2) (.slice Ao30 t542.length co30)) (fun _ hk => hk.2) (.string t545)) (fun _ hk => hk.2) (.int .i64 t546)) (fun _ hk => trivial), by (with_reducible repeat (first | apply Kd.R_alloc | apply Kd.R_drewN | apply Kd.R_drew)); exact Kd.R_mono (Kd.R_far (p := ⟨gb529, 3, none⟩) (Kd.R_far (p := ⟨gb529, 2, none⟩) (Kd.R_far (p := ⟨gb529, 1, none⟩) (Kd.R_far (p := ⟨gb529, 0, none⟩) (Kd.R_types HO544.out BK529.out (by decide)) (fun _ hk => hk.2) (.slice Ao27 t539.length co27)) (fun _ hk => hk.2) (.slice Ao30 t542.length co30)) (fun _ hk => hk.2) (.string t545)) (fun _ hk => hk.2) (.int .i64 t546)) (fun _ hk => trivial), by repeat (first | (with_reducible first | exact HB.out | apply below_alloc | apply pw_below_drewN | apply below_drew1 | refine below_set ?_ GE528.out | refine below_set ?_ GE529.out) | exact HB.out)⟩
    ·
     replace c24 := Bool.eq_false_iff.mpr c24
     subst c24
     have H1 : ((spec_l03Is.f a1 0 (wrap64 ((l0_0.length : Int) - 1))).bind fun t547 => (if t547 = true then ((spec_l03Put.f kj12 l0_0 l0_1 a1 a2).bind fun bt548 => (some (bt548.1, bt548.2, (⟨#[]⟩ : ByteArray), 0))) else ((spec_l03Ill.f 8).bind fun bt554 => (some (bt554.1, bt554.2.1, bt554.2.2.1, bt554.2.2.2))))) = some (r1, r2, r3, r4) := by rw [if_neg (show ¬ (false = true) by decide)] at H; exact H
     clear H
     have H := H1
     clear H1
     replace H := Option.bind_eq_some_iff.mp H
     obtain ⟨t547, A310, H⟩ := H
     replace H : (if t547 = true then ((spec_l03Put.f kj12 l0_0 l0_1 a1 a2).bind fun bt548 => (some (bt548.1, bt548.2, (⟨#[]⟩ : ByteArray), 0))) else ((spec_l03Ill.f 8).bind fun bt554 => (some (bt554.1, bt554.2.1, bt554.2.2.1, bt554.2.2.2)))) = some (r1, r2, r3, r4) := H
     have A31 := Aside0.mk A310
     clear A310
     by_cases c32 : t547 = true
     ·
      subst c32
      have H1 : ((spec_l03Put.f kj12 l0_0 l0_1 a1 a2).bind fun bt548 => (some (bt548.1, bt548.2, (⟨#[]⟩ : ByteArray), 0))) = some (r1, r2, r3, r4) := by rw [if_pos rfl] at H; exact H
      clear H
      have H := H1
      clear H1
      replace H := Option.bind_eq_some_iff.mp H
      obtain ⟨⟨t548, t551⟩, A330, H⟩ := H
      replace H : (some (t548, t551, (⟨#[]⟩ : ByteArray), 0)) = some (r1, r2, r3, r4) := H
      have A33 := Aside0.mk A330
      clear A330
      simp only [Option.some.injEq, Prod.mk.injEq] at H
      obtain ⟨rfl, rfl, rfl, rfl⟩ := H
      have hnb34 := NB528_529.out
      have hnc34 := NB529_528.out
      have hcz35_0 : wc.cell? ⟨gb528, 0, none⟩ = some (.slice A0_0 l0_0.length c0_0) := (blk_cell BK528.out 0).trans rfl
      have hcz35_1 : wc.cell? ⟨gb528, 1, none⟩ = some (.slice A0_1 l0_1.length c0_1) := (blk_cell BK528.out 1).trans rfl
      have hfz35_0 := blk_frozen BK528.out 0
      have hfz35_1 := blk_frozen BK528.out 1
      go_wp2_with (first | ((with_reducible refine gate_callee (f := 71) rfl ?_); refine goesL_ (some 25) rfl rfl Try.func71 (by kernel_rfl) rfl #[.int .i64 a1, .int .i64 0, .int .i64 (wrap64 ((l0_0.length : Int) - 1))] rfl zs_ ?_; (with_reducible refine (spec_l03Is.calls a1 0 (wrap64 ((l0_0.length : Int) - 1)) true _ A31.out).mono ?_); rintro e w' ⟨rfl, ⟨nd, rfl⟩⟩; refine ⟨_, rfl, ?_⟩; (try (rw [drewN_self wc]; generalize hq_ : World.drewN wc _ = wc; have n0_ : Aside0 (wc.heap[gb528]? = some (.cells #[.slice A0_0 l0_0.length c0_0, .slice A0_1 l0_1.length c0_1] 30 (0, 0))) := ⟨by rw [← hq_]; exact (zb_ BK528.out)⟩; have n1_ : Aside0 (wc.heap[gb529]? = some (.cells #[.slice none 0 0, .slice none 0 0, .string (⟨#[]⟩ : ByteArray), .int .i64 0] 35 (0, 0))) := ⟨by rw [← hq_]; exact (zb_ BK529.out)⟩; have n2_ : Aside0 (Below w.heap.size w wc) := ⟨by rw [← hq_]; exact (zg2_ HB.out GE528.out GE529.out)⟩; clear BK528 BK529 HB hq_; have BK528 := n0_; have BK529 := n1_; have HB := n2_; clear n0_ n1_ n2_; have hqz_gb528_0 : wc.cell? ⟨gb528, 0, none⟩ = some (.slice A0_0 l0_0.length c0_0) := (blk_cell BK528.out 0).trans rfl; have hqf_gb528_0 := blk_frozen BK528.out 0; have hqz_gb528_1 : wc.cell? ⟨gb528, 1, none⟩ = some (.slice A0_1 l0_1.length c0_1) := (blk_cell BK528.out 1).trans rfl; have hqf_gb528_1 := blk_frozen BK528.out 1; have hqz_gb529_0 : wc.cell? ⟨gb529, 0, none⟩ = some (.slice none 0 0) := (blk_cell BK529.out 0).trans rfl; have hqf_gb529_0 := blk_frozen BK529.out 0; have hqz_gb529_1 : wc.cell? ⟨gb529, 1, none⟩ = some (.slice none 0 0) := (blk_cell BK529.out 1).trans rfl; have hqf_gb529_1 := blk_frozen BK529.out 1; have hqz_gb529_2 : wc.cell? ⟨gb529, 2, none⟩ = some (.string (⟨#[]⟩ : ByteArray)) := (blk_cell BK529.out 2).trans rfl; have hqf_gb529_2 := blk_frozen BK529.out 2; have hqz_gb529_3 : wc.cell? ⟨gb529, 3, none⟩ = some (.int .i64 0) := (blk_cell BK529.out 3).trans rfl; have hqf_gb529_3 := blk_frozen BK529.out 3))) | ((with_reducible refine gate_callee (f := 91) rfl ?_); refine goesL_ (some 31) rfl rfl Try.func91 (by kernel_rfl) rfl #[.agg #[.slice A0_0 l0_0.length c0_0, .slice A0_1 l0_1.length c0_1], .int .i64 a1, .string a2] rfl zs_ ?_; (with_reducible refine (spec_l03Put.calls kj12 _ _ l0_0 _ _ l0_1 a1 a2 t548 t551 _ ?side1 ?side2 ?side3 ?side4 A33.out).mono ?_); (case side1 => exact zc_ (Kd.C_below HR0_0.out HB.out)); (case side2 => exact HC0_0.out); (case side3 => exact zc_ (Kd.C_below HR0_1.out HB.out)); (case side4 => exact HC0_1.out); rintro e w36 ⟨v549, v552, rfl, ho0, ho1, hb⟩; refine ⟨_, rfl, ?_⟩; have n0_ := Aside0.mk (Kd.R_lower ho0 (below_size (zg2_ HB.out GE528.out GE529.out))); have n1_ := Aside0.mk (Kd.R_lower ho1 (below_size (zg2_ HB.out GE528.out GE529.out))); have n2_ := Aside0.mk (blk_below (g := gb528) (o := .cells #[.slice A0_0 l0_0.length c0_0, .slice A0_1 l0_1.length c0_1] 30 (0, 0)) (zb_ BK528.out) hb); have n3_ := Aside0.mk (blk_below (g := gb529) (o := .cells #[.slice none 0 0, .slice none 0 0, .string (⟨#[]⟩ : ByteArray), .int .i64 0] 35 (0, 0)) (zb_ BK529.out) hb); have n4_ := Aside0.mk (below_step (zg2_ HB.out GE528.out GE529.out) hb); clear BK528; clear BK529; clear HB; have HO550 := n0_; have HO553 := n1_; have BK528 := n2_; have BK529 := n3_; have HB := n4_; clear n0_ n1_ n2_ n3_ n4_; (try clear hb); (try clear hb2); (try clear hk); (try clear hi); (try clear ho0); (try clear ho1); obtain ⟨Ao37, co37, eo37⟩ := Kd.R_slice HO553.out; subst eo37; obtain ⟨Ao38, co38, eo38⟩ := Kd.R_slice HO550.out; subst eo38; have hcz39_0 : w36.cell? ⟨gb529, 0, none⟩ = some (.slice none 0 0) := (blk_cell BK529.out 0).trans rfl; have hcz39_1 : w36.cell? ⟨gb529, 1, none⟩ = some (.slice none 0 0) := (blk_cell BK529.out 1).trans rfl; have hcz39_2 : w36.cell? ⟨gb529, 2, none⟩ = some (.string (⟨#[]⟩ : ByteArray)) := (blk_cell BK529.out 2).trans rfl; have hcz39_3 : w36.cell? ⟨gb529, 3, none⟩ = some (.int .i64 0) := (blk_cell BK529.out 3).trans rfl; have hfz39_0 := blk_frozen BK529.out 0; have hfz39_1 := blk_frozen BK529.out 1; have hfz39_2 := blk_frozen BK529.out 2; have hfz39_3 := blk_frozen BK529.out 3))
      refine bodyPost_ret (results_cell_row rfl _ _ gb529 35 #[.slice Ao38 t548.length co38, .slice Ao37 t551.length co37, .string (⟨#[]⟩ : ByteArray), .int .i64 0] (0, 0) _ rfl (by (with_reducible repeat (first | refine blk_drewN ?_ _ | refine blk_drew ?_ | refine blk_alloc ?_ _)); refine blk_put (cs := #[.slice Ao38 t548.length co38, .slice Ao37 t551.length co37, .string (⟨#[]⟩ : ByteArray), .int .i64 0]) ?_ 3 _ rfl; (with_reducible repeat (first | refine blk_drewN ?_ _ | refine blk_drew ?_ | refine blk_alloc ?_ _)); refine blk_put (cs := #[.slice Ao38 t548.length co38, .slice Ao37 t551.length co37, .string (⟨#[]⟩ : ByteArray), .int .i64 0]) ?_ 2 _ rfl; (with_reducible repeat (first | refine blk_drewN ?_ _ | refine blk_drew ?_ | refine blk_alloc ?_ _)); refine blk_put (cs := #[.slice Ao38 t548.length co38, .slice none 0 0, .string (⟨#[]⟩ : ByteArray), .int .i64 0]) ?_ 1 _ rfl; (with_reducible repeat (first | refine blk_drewN ?_ _ | refine blk_drew ?_ | refine blk_alloc ?_ _)); refine blk_put (cs := #[.slice none 0 0, .slice none 0 0, .string (⟨#[]⟩ : ByteArray), .int .i64 0]) ?_ 0 _ rfl; (with_reducible repeat (first | refine blk_drewN ?_ _ | refine blk_drew ?_ | refine blk_alloc ?_ _)); exact BK529.out) Try.underlying35 rfl (by kernel_rfl)) rfl ?_
      exact ⟨_, _, by first | rfl | (simp [errW_none, errW_some] <;> rfl) | (simp [*, errW_none, errW_some] <;> rfl), by (with_reducible repeat (first | apply Kd.R_alloc | apply Kd.R_drewN | apply Kd.R_drew)); exact Kd.R_mono (Kd.R_far (p := ⟨gb529, 3, none⟩) (Kd.R_far (p := ⟨gb529, 2, none⟩) (Kd.R_far (p := ⟨gb529, 1, none⟩) (Kd.R_far (p := ⟨gb529, 0, none⟩) (Kd.R_types HO550.out BK529.out (by decide)) (fun _ hk => hk.2) (.slice Ao38 t548.length co38)) (fun _ hk => hk.2) (.slice Ao37 t551.length co37)) (fun _ hk => hk.2) (.string (⟨#[]⟩ : ByteArray))) (fun _ hk => hk.2) (.int .i64 0)) (fun _ hk => trivial), by (with_reducible repeat (first | apply Kd.R_alloc | apply Kd.R_drewN | apply Kd.R_drew)); exact Kd.R_mono (Kd.R_far (p := ⟨gb529, 3, none⟩) (Kd.R_far (p := ⟨gb529, 2, none⟩) (Kd.R_far (p := ⟨gb529, 1, none⟩) (Kd.R_far (p := ⟨gb529, 0, none⟩) (Kd.R_types HO553.out BK529.out (by decide)) (fun _ hk => hk.2) (.slice Ao38 t548.length co38)) (fun _ hk => hk.2) (.slice Ao37 t551.length co37)) (fun _ hk => hk.2) (.string (⟨#[]⟩ : ByteArray))) (fun _ hk => hk.2) (.int .i64 0)) (fun _ hk => trivial), by repeat (first | (with_reducible first | exact HB.out | apply below_alloc | apply pw_below_drewN | apply below_drew1 | refine below_set ?_ GE528.out | refine below_set ?_ GE529.out) | exact HB.out)⟩
     ·
      replace c32 := Bool.eq_false_iff.mpr c32
      subst c32
      have H1 : ((spec_l03Ill.f 8).bind fun bt554 => (some (bt554.1, bt554.2.1, bt554.2.2.1, bt554.2.2.2))) = some (r1, r2, r3, r4) := by rw [if_neg (show ¬ (false = true) by decide)] at H; exact H
      clear H
      have H := H1
      clear H1
      replace H := Option.bind_eq_some_iff.mp H
      obtain ⟨⟨t554, t557, t560, t561⟩, A400, H⟩ := H
      replace H : (some (t554, t557, t560, t561)) = some (r1, r2, r3, r4) := H
      have A40 := Aside0.mk A400
      clear A400
      simp only [Option.some.injEq, Prod.mk.injEq] at H
      obtain ⟨rfl, rfl, rfl, rfl⟩ := H
      have hnb41 := NB528_529.out
      have hnc41 := NB529_528.out
      have hcz42_0 : wc.cell? ⟨gb528, 0, none⟩ = some (.slice A0_0 l0_0.length c0_0) := (blk_cell BK528.out 0).trans rfl
      have hcz42_1 : wc.cell? ⟨gb528, 1, none⟩ = some (.slice A0_1 l0_1.length c0_1) := (blk_cell BK528.out 1).trans rfl
      have hfz42_0 := blk_frozen BK528.out 0
      have hfz42_1 := blk_frozen BK528.out 1
      go_wp2_with (first | ((with_reducible refine gate_callee (f := 71) rfl ?_); refine goesL_ (some 25) rfl rfl Try.func71 (by kernel_rfl) rfl #[.int .i64 a1, .int .i64 0, .int .i64 (wrap64 ((l0_0.length : Int) - 1))] rfl zs_ ?_; (with_reducible refine (spec_l03Is.calls a1 0 (wrap64 ((l0_0.length : Int) - 1)) false _ A31.out).mono ?_); rintro e w' ⟨rfl, ⟨nd, rfl⟩⟩; refine ⟨_, rfl, ?_⟩; (try (rw [drewN_self wc]; generalize hq_ : World.drewN wc _ = wc; have n0_ : Aside0 (wc.heap[gb528]? = some (.cells #[.slice A0_0 l0_0.length c0_0, .slice A0_1 l0_1.length c0_1] 30 (0, 0))) := ⟨by rw [← hq_]; exact (zb_ BK528.out)⟩; have n1_ : Aside0 (wc.heap[gb529]? = some (.cells #[.slice none 0 0, .slice none 0 0, .string (⟨#[]⟩ : ByteArray), .int .i64 0] 35 (0, 0))) := ⟨by rw [← hq_]; exact (zb_ BK529.out)⟩; have n2_ : Aside0 (Below w.heap.size w wc) := ⟨by rw [← hq_]; exact (zg2_ HB.out GE528.out GE529.out)⟩; clear BK528 BK529 HB hq_; have BK528 := n0_; have BK529 := n1_; have HB := n2_; clear n0_ n1_ n2_; have hqz_gb528_0 : wc.cell? ⟨gb528, 0, none⟩ = some (.slice A0_0 l0_0.length c0_0) := (blk_cell BK528.out 0).trans rfl; have hqf_gb528_0 := blk_frozen BK528.out 0; have hqz_gb528_1 : wc.cell? ⟨gb528, 1, none⟩ = some (.slice A0_1 l0_1.length c0_1) := (blk_cell BK528.out 1).trans rfl; have hqf_gb528_1 := blk_frozen BK528.out 1; have hqz_gb529_0 : wc.cell? ⟨gb529, 0, none⟩ = some (.slice none 0 0) := (blk_cell BK529.out 0).trans rfl; have hqf_gb529_0 := blk_frozen BK529.out 0; have hqz_gb529_1 : wc.cell? ⟨gb529, 1, none⟩ = some (.slice none 0 0) := (blk_cell BK529.out 1).trans rfl; have hqf_gb529_1 := blk_frozen BK529.out 1; have hqz_gb529_2 : wc.cell? ⟨gb529, 2, none⟩ = some (.string (⟨#[]⟩ : ByteArray)) := (blk_cell BK529.out 2).trans rfl; have hqf_gb529_2 := blk_frozen BK529.out 2; have hqz_gb529_3 : wc.cell? ⟨gb529, 3, none⟩ = some (.int .i64 0) := (blk_cell BK529.out 3).trans rfl; have hqf_gb529_3 := blk_frozen BK529.out 3))) | ((with_reducible refine gate_callee (f := 77) rfl ?_); refine goesL_ (some 27) rfl rfl Try.func77 (by kernel_rfl) rfl #[.int .i64 8] rfl zs_ ?_; (with_reducible refine (spec_l03Ill.calls 8 t554 t557 t560 t561 _ A40.out).mono ?_); rintro e w43 ⟨v555, v558, rfl, ho0, ho1, hb⟩; refine ⟨_, rfl, ?_⟩; have n0_ := Aside0.mk (Kd.R_lower ho0 (below_size (zg2_ HB.out GE528.out GE529.out))); have n1_ := Aside0.mk (Kd.R_lower ho1 (below_size (zg2_ HB.out GE528.out GE529.out))); have n2_ := Aside0.mk (blk_below (g := gb528) (o := .cells #[.slice A0_0 l0_0.length c0_0, .slice A0_1 l0_1.length c0_1] 30 (0, 0)) (zb_ BK528.out) hb); have n3_ := Aside0.mk (blk_below (g := gb529) (o := .cells #[.slice none 0 0, .slice none 0 0, .string (⟨#[]⟩ : ByteArray), .int .i64 0] 35 (0, 0)) (zb_ BK529.out) hb); have n4_ := Aside0.mk (below_step (zg2_ HB.out GE528.out GE529.out) hb); clear BK528; clear BK529; clear HB; have HO556 := n0_; have HO559 := n1_; have BK528 := n2_; have BK529 := n3_; have HB := n4_; clear n0_ n1_ n2_ n3_ n4_; (try clear hb); (try clear hb2); (try clear hk); (try clear hi); (try clear ho0); (try clear ho1); obtain ⟨Ao44, co44, eo44⟩ := Kd.R_slice HO556.out; subst eo44; have hcz45_0 : w43.cell? ⟨gb529, 0, none⟩ = some (.slice none 0 0) := (blk_cell BK529.out 0).trans rfl; have hcz45_1 : w43.cell? ⟨gb529, 1, none⟩ = some (.slice none 0 0) := (blk_cell BK529.out 1).trans rfl; have hcz45_2 : w43.cell? ⟨gb529, 2, none⟩ = some (.string (⟨#[]⟩ : ByteArray)) := (blk_cell BK529.out 2).trans rfl; have hcz45_3 : w43.cell? ⟨gb529, 3, none⟩ = some (.int .i64 0) := (blk_cell BK529.out 3).trans rfl; have hfz45_0 := blk_frozen BK529.out 0; have hfz45_1 := blk_frozen BK529.out 1; have hfz45_2 := blk_frozen BK529.out 2; have hfz45_3 := blk_frozen BK529.out 3; obtain ⟨Ao46, co46, eo46⟩ := Kd.R_slice HO559.out; subst eo46))
      refine bodyPost_ret (results_cell_row rfl _ _ gb529 35 #[.slice Ao44 t554.length co44, .slice Ao46 t557.length co46, .string t560, .int .i64 t561] (0, 0) _ rfl (by (with_reducible repeat (first | refine blk_drewN ?_ _ | refine blk_drew ?_ | refine blk_alloc ?_ _)); refine blk_put (cs := #[.slice Ao44 t554.length co44, .slice Ao46 t557.length co46, .string t560, .int .i64 0]) ?_ 3 _ rfl; (with_reducible repeat (first | refine blk_drewN ?_ _ | refine blk_drew ?_ | refine blk_alloc ?_ _)); refine blk_put (cs := #[.slice Ao44 t554.length co44, .slice Ao46 t557.length co46, .string (⟨#[]⟩ : ByteArray), .int .i64 0]) ?_ 2 _ rfl; (with_reducible repeat (first | refine blk_drewN ?_ _ | refine blk_drew ?_ | refine blk_alloc ?_ _)); refine blk_put (cs := #[.slice Ao44 t554.length co44, .slice none 0 0, .string (⟨#[]⟩ : ByteArray), .int .i64 0]) ?_ 1 _ rfl; (with_reducible repeat (first | refine blk_drewN ?_ _ | refine blk_drew ?_ | refine blk_alloc ?_ _)); refine blk_put (cs := #[.slice none 0 0, .slice none 0 0, .string (⟨#[]⟩ : ByteArray), .int .i64 0]) ?_ 0 _ rfl; (with_reducible repeat (first | refine blk_drewN ?_ _ | refine blk_drew ?_ | refine blk_alloc ?_ _)); exact BK529.out) Try.underlying35 rfl (by kernel_rfl)) rfl ?_
      exact ⟨_, _, by first | rfl | (simp [errW_none, errW_some] <;> rfl) | (simp [*, errW_none, errW_some] <;> rfl), by (with_reducible repeat (first | apply Kd.R_alloc | apply Kd.R_drewN | apply Kd.R_drew)); exact Kd.R_mono (Kd.R_far (p := ⟨gb529, 3, none⟩) (Kd.R_far (p := ⟨gb529, 2, none⟩) (Kd.R_far (p := ⟨gb529, 1, none⟩) (Kd.R_far (p := ⟨gb529, 0, none⟩) (Kd.R_types HO556.out BK529.out (by decide)) (fun _ hk => hk.2) (.slice Ao44 t554.length co44)) (fun _ hk => hk.2) (.slice Ao46 t557.length co46)) (fun _ hk => hk.2) (.string t560)) (fun _ hk => hk.2) (.int .i64 t561)) (fun _ hk => trivial), by (with_reducible repeat (first | apply Kd.R_alloc | apply Kd.R_drewN | apply Kd.R_drew)); exact Kd.R_mono (Kd.R_far (p := ⟨gb529, 3, none⟩) (Kd.R_far (p := ⟨gb529, 2, none⟩) (Kd.R_far (p := ⟨gb529, 1, none⟩) (Kd.R_far (p := ⟨gb529, 0, none⟩) (Kd.R_types HO559.out BK529.out (by decide)) (fun _ hk => hk.2) (.slice Ao44 t554.length co44)) (fun _ hk => hk.2) (.slice Ao46 t557.length co46)) (fun _ hk => hk.2) (.string t560)) (fun _ hk => hk.2) (.int .i64 t561)) (fun _ hk => trivial), by repeat (first | (with_reducible first | exact HB.out | apply below_alloc | apply pw_below_drewN | apply below_drew1 | refine below_set ?_ GE528.out | refine below_set ?_ GE529.out) | exact HB.out)⟩

-- NOT PRINTED: function 92 (impl_Flash_write)

end Go.Proofs.Ytibnmnkembbgeaa.Q
