/- For each Go function that the laws of this text reach: a Lean function, and the proof that the Go function returns what the Lean function tells, wherever it tells some value. Written by a program of this session. -/
import Derived.Test.YtibnmnkembbgeaaKFnExactFlashWrite0
import Derived.Test.YtibnmnkembbgeaaKFnExactFlashWrite1
import Derived.Test.YtibnmnkembbgeaaKFnExactFlashWrite2
import Derived.Test.YtibnmnkembbgeaaKFnExactFlashWrite4
namespace Go.Proofs.Ytibnmnkembbgeaa.Q
open Go.RowKit Go.Proofs.YtibnmnkembbgeaaW.PrintWords Go.Proofs.YtibnmnkembbgeaaW.PrintLast Go.Proofs.YtibnmnkembbgeaaW.PrintMore
attribute [local go_sem] max2_int min2_int max_two min_two max_three min_three max_four min_four Instr.field asAgg   -- for this text's walks alone
set_option linter.unusedVariables false
set_option linter.unusedSimpArgs false
/-! ### spec_FlashWrite: function 30 -/
def spec_FlashWrite.j0 : Nat → Int → ByteArray → Bool → List ByteArray → List (S92) → Option (List ByteArray × (List (S92)) × ByteArray × Int)
 | 0, _, _, _, _, _ => none
 | k + 1, x1, x2, x18, x529000, x529001 => if x18 = true then ((spec_l03Ill.f 1).bind fun bt539 => (some (bt539.1, bt539.2.1, bt539.2.2.1, bt539.2.2.2))) else ((spec_l03Is.f x1 0 (wrap64 ((x529000.length : Int) - 1))).bind fun t547 => (if t547 = true then ((spec_l03Put.f k x529000 x529001 x1 x2).bind fun bt548 => (some (bt548.1, bt548.2, (⟨#[]⟩ : ByteArray), 0))) else ((spec_l03Ill.f 8).bind fun bt554 => (some (bt554.1, bt554.2.1, bt554.2.2.1, bt554.2.2.2)))))
def spec_FlashWrite.f (k : Nat) (l0_0 : List ByteArray) (l0_1 : List (S92)) (a1 : Int) (a2 : ByteArray) : Option (List ByteArray × (List (S92)) × ByteArray × Int) := if (a2.size : Int) > 8000 then ((spec_l03Ill.f 2).bind fun bt530 => (some (bt530.1, bt530.2.1, bt530.2.2.1, bt530.2.2.2))) else ((spec_FlashRight.f k l0_0 l0_1).bind fun t538 => (if t538 = true then (spec_FlashWrite.j0 k a1 a2 (decide ((a2.size : Int) > 96)) l0_0 l0_1) else (spec_FlashWrite.j0 k a1 a2 true l0_0 l0_1)))
theorem spec_FlashWrite.mono_l : ∀ k, (∀ y0 y1 y2 y3 y4, LeO (spec_FlashWrite.j0 k y0 y1 y2 y3 y4) (spec_FlashWrite.j0 (k + 1) y0 y1 y2 y3 y4))
 | 0 => fun _ _ _ _ _ r h => by simp [spec_FlashWrite.j0] at h
 | k + 1 => by
  have ih0 := spec_FlashWrite.mono_l k
  ·
   intro y0 y1 y2 y3 y4
   unfold spec_FlashWrite.j0
   repeat' first
   | (with_reducible exact ih0 _ _ _ _ _)
   | (with_reducible exact spec_FlashRight.mono _ _ _)
   | (with_reducible exact spec_l03Put.mono _ _ _ _ _)
   | (with_reducible exact LeO.refl _)
   | (with_reducible exact LeO.none _)
   | (with_reducible refine LeO.ite ?_ ?_)
   | (with_reducible refine LeO.bind ?_ (fun _ => ?_))
   | exact ih0 _ _ _ _ _
   | exact spec_FlashRight.mono _ _ _
   | exact spec_l03Put.mono _ _ _ _ _
   | exact LeO.none _
   | refine LeO.ite ?_ ?_
   | refine LeO.bind ?_ (fun _ => ?_)
theorem spec_FlashWrite.mono : ∀ a0 a1 a2 a3 k, LeO (spec_FlashWrite.f k a0 a1 a2 a3) (spec_FlashWrite.f (k + 1) a0 a1 a2 a3) := by
 intro a0 a1 a2 a3 k
 have ih0 := spec_FlashWrite.mono_l k
 unfold spec_FlashWrite.f
 repeat' first
   | (with_reducible exact ih0 _ _ _ _ _)
   | (with_reducible exact spec_FlashRight.mono _ _ _)
   | (with_reducible exact spec_l03Put.mono _ _ _ _ _)
   | (with_reducible exact LeO.refl _)
   | (with_reducible exact LeO.none _)
   | (with_reducible refine LeO.ite ?_ ?_)
   | (with_reducible refine LeO.bind ?_ (fun _ => ?_))
   | exact ih0 _ _ _ _ _
   | exact spec_FlashRight.mono _ _ _
   | exact spec_l03Put.mono _ _ _ _ _
   | exact LeO.none _
   | refine LeO.ite ?_ ?_
   | refine LeO.bind ?_ (fun _ => ?_)
set_option maxHeartbeats 8000000 in
set_option maxRecDepth 100000 in
theorem spec_FlashWrite.calls (k : Nat) (A0_0 : Option Addr) (c0_0 : Nat) (l0_0 : List ByteArray) (A0_1 : Option Addr) (c0_1 : Nat) (l0_1 : List (S92)) (a1 : Int) (a2 : ByteArray) (r1 : List ByteArray) (r2 : List (S92)) (r3 : ByteArray) (r4 : Int) (w : World) (hr0_0 : Kd.C Kd.string w A0_0 l0_0.length l0_0) (hc0_0 : l0_0.length ≤ c0_0) (hr0_1 : Kd.C k92 w A0_1 l0_1.length l0_1) (hc0_1 : l0_1.length ≤ c0_1) (h : spec_FlashWrite.f k l0_0 l0_1 a1 a2 = some (r1, r2, r3, r4)) :
  Calls Try.prog 30 #[.agg #[.slice A0_0 l0_0.length c0_0, .slice A0_1 l0_1.length c0_1], .int .i64 a1, .string a2] w fun e w' => ∃ v0_ v1_ : Value, e = .returned (.agg #[v0_, v1_, .string r3, .int .i64 r4]) ∧ Kd.R Kd.string 9 w' w.heap.size (fun _ => True) v0_ r1 ∧ Kd.R k92 92 w' w.heap.size (fun _ => True) v1_ r2 ∧ Below w.heap.size w w' := by
 have hu30 := Try.underlying30
 have hu35 := Try.underlying35
 have HR0_0 := Aside0.mk hr0_0
 have HC0_0 := Aside0.mk hc0_0
 clear hr0_0 hc0_0
 have HR0_1 := Aside0.mk hr0_1
 have HC0_1 := Aside0.mk hc0_1
 clear hr0_1 hc0_1
 have HB := Aside0.mk (Below.refl w.heap.size w)
 have H : (if (a2.size : Int) > 8000 then ((spec_l03Ill.f 2).bind fun bt530 => (some (bt530.1, bt530.2.1, bt530.2.2.1, bt530.2.2.2))) else ((spec_FlashRight.f k l0_0 l0_1).bind fun t538 => (if t538 = true then (spec_FlashWrite.j0 k a1 a2 (decide ((a2.size : Int) > 96)) l0_0 l0_1) else (spec_FlashWrite.j0 k a1 a2 true l0_0 l0_1)))) = some (r1, r2, r3, r4) := h
 clear h
 by_cases c4 : (a2.size : Int) > 8000
 ·
  rw [if_pos c4] at H
  have c4b0 : decide (8000 < (a2.size : Int)) = true := decide_eq_true c4
  have c4b1 : decide (8000 < a2.size) = true := decide_eq_true (by omega)
  clear c4
  replace H := Option.bind_eq_some_iff.mp H
  obtain ⟨⟨t530, t533, t536, t537⟩, A50, H⟩ := H
  replace H : (some (t530, t533, t536, t537)) = some (r1, r2, r3, r4) := H
  have A5 := Aside0.mk A50
  clear A50
  simp only [Option.some.injEq, Prod.mk.injEq] at H
  obtain ⟨rfl, rfl, rfl, rfl⟩ := H
  go_enter Try.func30, Try.ntmps30
  go_wp2_with (first | ((with_reducible refine gate_dst (N := 3) rfl ?_); (try (refine gate_guard (by rfl) ?_; dsimp only)); refine box_event ?hg (N := 3) ?hd (cs := #[.slice A0_0 l0_0.length c0_0, .slice A0_1 l0_1.length c0_1]) (t := 30) ?hr ?_; (case hd => rfl); (case hg => rfl); (case hr => first | (go_simp; done) | (go_simp; rfl)); intro gb528 hg w6 hbox hb; have n0_ := Aside0.mk (below_step (by repeat (first | (with_reducible first | exact HB.out | apply below_alloc | apply pw_below_drewN | apply below_drew1) | exact HB.out)) hb); have n1_ := Aside0.mk (hbox); have n2_ := Aside0.mk ((by rw [hg]; exact (below_size (by repeat (first | (with_reducible first | exact HB.out | apply below_alloc | apply pw_below_drewN | apply below_drew1) | exact HB.out))) : w.heap.size ≤ gb528)); have n3_ := Aside0.mk ((by rw [hg]; exact (below_size (by repeat (first | (with_reducible first | exact HB.out | apply below_alloc | apply pw_below_drewN | apply below_drew1) | exact HB.out))) : w.heap.size ≤ gb528)); clear HB; have HB := n0_; have BK528 := n1_; have GW528 := n2_; have GE528 := n3_; clear n0_ n1_ n2_ n3_; clear hb hbox hg) | ((with_reducible refine gate_dst (N := 6) rfl ?_); (try (refine gate_guard (by rfl) ?_; dsimp only)); refine box_event ?hg (N := 6) ?hd (cs := #[.slice none 0 0, .slice none 0 0, .string (⟨#[]⟩ : ByteArray), .int .i64 0]) (t := 35) ?hr ?_; (case hd => rfl); (case hg => rfl); (case hr => first | (go_simp; done) | (go_simp; rfl)); intro gb529 hg w7 hbox hb; have n0_ := Aside0.mk (blk_below (g := gb528) (o := .cells #[.slice A0_0 l0_0.length c0_0, .slice A0_1 l0_1.length c0_1] 30 (0, 0)) (by (with_reducible repeat (first | refine blk_drewN ?_ _ | refine blk_drew ?_ | refine blk_alloc ?_ _)); exact BK528.out) hb); have n1_ := Aside0.mk (below_step (by repeat (first | (with_reducible first | exact HB.out | apply below_alloc | apply pw_below_drewN | apply below_drew1 | refine below_set ?_ GE528.out) | exact HB.out)) hb); have n2_ := Aside0.mk (hbox); have n3_ := Aside0.mk ((by rw [hg]; exact (below_size (by repeat (first | (with_reducible first | exact HB.out | apply below_alloc | apply pw_below_drewN | apply below_drew1 | refine below_set ?_ GE528.out) | exact HB.out))) : w.heap.size ≤ gb529)); have n4_ := Aside0.mk ((by rw [hg]; exact (below_size (by repeat (first | (with_reducible first | exact HB.out | apply below_alloc | apply pw_below_drewN | apply below_drew1 | refine below_set ?_ GE528.out) | exact HB.out))) : w.heap.size ≤ gb529)); have n5_ := Aside0.mk ((by rw [hg]; exact Nat.ne_of_lt (blk_lt (g := gb528) (o := .cells #[.slice A0_0 l0_0.length c0_0, .slice A0_1 l0_1.length c0_1] 30 (0, 0)) (by (with_reducible repeat (first | refine blk_drewN ?_ _ | refine blk_drew ?_ | refine blk_alloc ?_ _)); exact BK528.out)) : gb528 ≠ gb529)); have n6_ := Aside0.mk ((by rw [hg]; exact Nat.ne_of_gt (blk_lt (g := gb528) (o := .cells #[.slice A0_0 l0_0.length c0_0, .slice A0_1 l0_1.length c0_1] 30 (0, 0)) (by (with_reducible repeat (first | refine blk_drewN ?_ _ | refine blk_drew ?_ | refine blk_alloc ?_ _)); exact BK528.out)) : gb529 ≠ gb528)); clear BK528; clear HB; have BK528 := n0_; have HB := n1_; have BK529 := n2_; have GW529 := n3_; have GE529 := n4_; have NB528_529 := n5_; have NB529_528 := n6_; clear n0_ n1_ n2_ n3_ n4_ n5_ n6_; clear hb hbox hg) | ((with_reducible refine gate_callee (f := 77) rfl ?_); refine goesL_ (some 10) rfl rfl Try.func77 (by kernel_rfl) rfl #[.int .i64 2] rfl (by (try simp only [List.map_toArray, List.map_cons, List.map_nil]); first | done | rfl | (simp only [List.length_drop, List.length_take]; rfl)) ?_; (with_reducible refine (spec_l03Ill.calls 2 t530 t533 t536 t537 _ A5.out).mono ?_); rintro e w8 ⟨v531, v534, rfl, ho0, ho1, hb⟩; refine ⟨_, rfl, ?_⟩; have n0_ := Aside0.mk (Kd.R_lower ho0 (below_size (by repeat (first | (with_reducible first | exact HB.out | apply below_alloc | apply pw_below_drewN | apply below_drew1 | refine below_set ?_ GE528.out | refine below_set ?_ GE529.out) | exact HB.out)))); have n1_ := Aside0.mk (Kd.R_lower ho1 (below_size (by repeat (first | (with_reducible first | exact HB.out | apply below_alloc | apply pw_below_drewN | apply below_drew1 | refine below_set ?_ GE528.out | refine below_set ?_ GE529.out) | exact HB.out)))); have n2_ := Aside0.mk (blk_below (g := gb528) (o := .cells #[.slice A0_0 l0_0.length c0_0, .slice A0_1 l0_1.length c0_1] 30 (0, 0)) (by (with_reducible repeat (first | refine blk_drewN ?_ _ | refine blk_drew ?_ | refine blk_alloc ?_ _)); exact BK528.out) hb); have n3_ := Aside0.mk (blk_below (g := gb529) (o := .cells #[.slice none 0 0, .slice none 0 0, .string (⟨#[]⟩ : ByteArray), .int .i64 0] 35 (0, 0)) (by (with_reducible repeat (first | refine blk_drewN ?_ _ | refine blk_drew ?_ | refine blk_alloc ?_ _)); exact BK529.out) hb); have n4_ := Aside0.mk (below_step (by repeat (first | (with_reducible first | exact HB.out | apply below_alloc | apply pw_below_drewN | apply below_drew1 | refine below_set ?_ GE528.out | refine below_set ?_ GE529.out) | exact HB.out)) hb); clear BK528; clear BK529; clear HB; have HO532 := n0_; have HO535 := n1_; have BK528 := n2_; have BK529 := n3_; have HB := n4_; clear n0_ n1_ n2_ n3_ n4_; (try clear hb); (try clear hb2); (try clear hk); (try clear hi); (try clear ho0); (try clear ho1); obtain ⟨Ao9, co9, eo9⟩ := Kd.R_slice HO532.out; subst eo9; have hnb10 := NB529_528.out; have hnc10 := NB528_529.out; have hcz11_0 : w8.cell? ⟨gb529, 0, none⟩ = some (.slice none 0 0) := (blk_cell BK529.out 0).trans rfl; have hcz11_1 : w8.cell? ⟨gb529, 1, none⟩ = some (.slice none 0 0) := (blk_cell BK529.out 1).trans rfl; have hcz11_2 : w8.cell? ⟨gb529, 2, none⟩ = some (.string (⟨#[]⟩ : ByteArray)) := (blk_cell BK529.out 2).trans rfl; have hcz11_3 : w8.cell? ⟨gb529, 3, none⟩ = some (.int .i64 0) := (blk_cell BK529.out 3).trans rfl; have hfz11_0 := blk_frozen BK529.out 0; have hfz11_1 := blk_frozen BK529.out 1; have hfz11_2 := blk_frozen BK529.out 2; have hfz11_3 := blk_frozen BK529.out 3; obtain ⟨Ao12, co12, eo12⟩ := Kd.R_slice HO535.out; subst eo12))
  refine bodyPost_ret (results_cell_row rfl _ _ gb529 35 #[.slice Ao9 t530.length co9, .slice Ao12 t533.length co12, .string t536, .int .i64 t537] (0, 0) _ rfl (by (with_reducible repeat (first | refine blk_drewN ?_ _ | refine blk_drew ?_ | refine blk_alloc ?_ _)); refine blk_put (cs := #[.slice Ao9 t530.length co9, .slice Ao12 t533.length co12, .string t536, .int .i64 0]) ?_ 3 _ rfl; (with_reducible repeat (first | refine blk_drewN ?_ _ | refine blk_drew ?_ | refine blk_alloc ?_ _)); refine blk_put (cs := #[.slice Ao9 t530.length co9, .slice Ao12 t533.length co12, .string (⟨#[]⟩ : ByteArray), .int .i64 0]) ?_ 2 _ rfl; (with_reducible repeat (first | refine blk_drewN ?_ _ | refine blk_drew ?_ | refine blk_alloc ?_ _)); refine blk_put (cs := #[.slice Ao9 t530.length co9, .slice none 0 0, .string (⟨#[]⟩ : ByteArray), .int .i64 0]) ?_ 1 _ rfl; (with_reducible repeat (first | refine blk_drewN ?_ _ | refine blk_drew ?_ | refine blk_alloc ?_ _)); refine blk_put (cs := #[.slice none 0 0, .slice none 0 0, .string (⟨#[]⟩ : ByteArray), .int .i64 0]) ?_ 0 _ rfl; (with_reducible repeat (first | refine blk_drewN ?_ _ | refine blk_drew ?_ | refine blk_alloc ?_ _)); exact BK529.out) Try.underlying35 rfl (by kernel_rfl)) rfl ?_
  exact ⟨_, _, by first | rfl | (simp [errW_none, errW_some] <;> rfl) | (simp [*, errW_none, errW_some] <;> rfl), by (with_reducible repeat (first | apply Kd.R_alloc | apply Kd.R_drewN | apply Kd.R_drew)); exact Kd.R_mono (Kd.R_far (p := ⟨gb529, 3, none⟩) (Kd.R_far (p := ⟨gb529, 2, none⟩) (Kd.R_far (p := ⟨gb529, 1, none⟩) (Kd.R_far (p := ⟨gb529, 0, none⟩) (Kd.R_types HO532.out BK529.out (by decide)) (fun _ hk => hk.2) (.slice Ao9 t530.length co9)) (fun _ hk => hk.2) (.slice Ao12 t533.length co12)) (fun _ hk => hk.2) (.string t536)) (fun _ hk => hk.2) (.int .i64 t537)) (fun _ hk => trivial), by (with_reducible repeat (first | apply Kd.R_alloc | apply Kd.R_drewN | apply Kd.R_drew)); exact Kd.R_mono (Kd.R_far (p := ⟨gb529, 3, none⟩) (Kd.R_far (p := ⟨gb529, 2, none⟩) (Kd.R_far (p := ⟨gb529, 1, none⟩) (Kd.R_far (p := ⟨gb529, 0, none⟩) (Kd.R_types HO535.out BK529.out (by decide)) (fun _ hk => hk.2) (.slice Ao9 t530.length co9)) (fun _ hk => hk.2) (.slice Ao12 t533.length co12)) (fun _ hk => hk.2) (.string t536)) (fun _ hk => hk.2) (.int .i64 t537)) (fun _ hk => trivial), by repeat (first | (with_reducible first | exact HB.out | apply below_alloc | apply pw_below_drewN | apply below_drew1 | refine below_set ?_ GE528.out | refine below_set ?_ GE529.out) | exact HB.out)⟩
 ·
  rw [if_neg c4] at H
  have c4b0 : decide (8000 < (a2.size : Int)) = false := decide_eq_false c4
  have c4b1 : decide (8000 < a2.size) = false := decide_eq_false (by omega)
  clear c4
  have HC13 := Aside0.mk H
  clear H
  go_enter Try.func30, Try.ntmps30
  go_upto_region 3 with (first | ((with_reducible refine gate_dst (N := 3) rfl ?_); (try (refine gate_guard (by rfl) ?_; dsimp only)); refine box_event ?hg (N := 3) ?hd (cs := #[.slice A0_0 l0_0.length c0_0, .slice A0_1 l0_1.length c0_1]) (t := 30) ?hr ?_; (case hd => rfl); (case hg => rfl); (case hr => first | (go_simp; done) | (go_simp; rfl)); intro gb528 hg w14 hbox hb; have n0_ := Aside0.mk (below_step (by repeat (first | (with_reducible first | exact HB.out | apply below_alloc | apply pw_below_drewN | apply below_drew1) | exact HB.out)) hb); have n1_ := Aside0.mk (hbox); have n2_ := Aside0.mk ((by rw [hg]; exact (below_size (by repeat (first | (with_reducible first | exact HB.out | apply below_alloc | apply pw_below_drewN | apply below_drew1) | exact HB.out))) : w.heap.size ≤ gb528)); have n3_ := Aside0.mk ((by rw [hg]; exact (below_size (by repeat (first | (with_reducible first | exact HB.out | apply below_alloc | apply pw_below_drewN | apply below_drew1) | exact HB.out))) : w.heap.size ≤ gb528)); clear HB; have HB := n0_; have BK528 := n1_; have GW528 := n2_; have GE528 := n3_; clear n0_ n1_ n2_ n3_; clear hb hbox hg) | ((with_reducible refine gate_dst (N := 6) rfl ?_); (try (refine gate_guard (by rfl) ?_; dsimp only)); refine box_event ?hg (N := 6) ?hd (cs := #[.slice none 0 0, .slice none 0 0, .string (⟨#[]⟩ : ByteArray), .int .i64 0]) (t := 35) ?hr ?_; (case hd => rfl); (case hg => rfl); (case hr => first | (go_simp; done) | (go_simp; rfl)); intro gb529 hg w15 hbox hb; have n0_ := Aside0.mk (blk_below (g := gb528) (o := .cells #[.slice A0_0 l0_0.length c0_0, .slice A0_1 l0_1.length c0_1] 30 (0, 0)) (by (with_reducible repeat (first | refine blk_drewN ?_ _ | refine blk_drew ?_ | refine blk_alloc ?_ _)); exact BK528.out) hb); have n1_ := Aside0.mk (below_step (by repeat (first | (with_reducible first | exact HB.out | apply below_alloc | apply pw_below_drewN | apply below_drew1 | refine below_set ?_ GE528.out) | exact HB.out)) hb); have n2_ := Aside0.mk (hbox); have n3_ := Aside0.mk ((by rw [hg]; exact (below_size (by repeat (first | (with_reducible first | exact HB.out | apply below_alloc | apply pw_below_drewN | apply below_drew1 | refine below_set ?_ GE528.out) | exact HB.out))) : w.heap.size ≤ gb529)); have n4_ := Aside0.mk ((by rw [hg]; exact (below_size (by repeat (first | (with_reducible first | exact HB.out | apply below_alloc | apply pw_below_drewN | apply below_drew1 | refine below_set ?_ GE528.out) | exact HB.out))) : w.heap.size ≤ gb529)); have n5_ := Aside0.mk ((by rw [hg]; exact Nat.ne_of_lt (blk_lt (g := gb528) (o := .cells #[.slice A0_0 l0_0.length c0_0, .slice A0_1 l0_1.length c0_1] 30 (0, 0)) (by (with_reducible repeat (first | refine blk_drewN ?_ _ | refine blk_drew ?_ | refine blk_alloc ?_ _)); exact BK528.out)) : gb528 ≠ gb529)); have n6_ := Aside0.mk ((by rw [hg]; exact Nat.ne_of_gt (blk_lt (g := gb528) (o := .cells #[.slice A0_0 l0_0.length c0_0, .slice A0_1 l0_1.length c0_1] 30 (0, 0)) (by (with_reducible repeat (first | refine blk_drewN ?_ _ | refine blk_drew ?_ | refine blk_alloc ?_ _)); exact BK528.out)) : gb529 ≠ gb528)); clear BK528; clear HB; have BK528 := n0_; have HB := n1_; have BK529 := n2_; have GW529 := n3_; have GE529 := n4_; have NB528_529 := n5_; have NB529_528 := n6_; clear n0_ n1_ n2_ n3_ n4_ n5_ n6_; clear hb hbox hg))
  (try simp only [Act.put, List.setIfInBounds_toArray, List.set_cons_zero, List.set_cons_succ])
  go_cut [18] (fun v18 wc => ∃ (kq : Nat) (x18_12 : Bool), v18 = .bool x18_12 ∧ Aside0 (spec_FlashWrite.j0 kq a1 a2 x18_12 l0_0 l0_1 = some (r1, r2, r3, r4)) ∧ Aside0 (kq ≤ k) ∧ Aside0 (wc.heap[gb528]? = some (.cells #[(.slice A0_0 l0_0.length c0_0), (.slice A0_1 l0_1.length c0_1)] 30 (0, 0))) ∧ Aside0 (wc.heap[gb529]? = some (.cells #[(.slice none 0 0), (.slice none 0 0), .string (⟨#[]⟩ : ByteArray), .int .i64 0] 35 (0, 0))) ∧ Aside0 (Below w.heap.size w wc))
  case first =>
   have H := HC13.out
   clear HC13
   replace H := Option.bind_eq_some_iff.mp H
   obtain ⟨t538, A160, H⟩ := H
   replace H : (if t538 = true then (spec_FlashWrite.j0 k a1 a2 (decide ((a2.size : Int) > 96)) l0_0 l0_1) else (spec_FlashWrite.j0 k a1 a2 true l0_0 l0_1)) = some (r1, r2, r3, r4) := H
   have A16 := Aside0.mk A160
   clear A160
   by_cases c17 : t538 = true
   ·
    subst c17
    have H1 : (spec_FlashWrite.j0 k a1 a2 (decide ((a2.size : Int) > 96)) l0_0 l0_1) = some (r1, r2, r3, r4) := by rw [if_pos rfl] at H; exact H
    clear H
    have H := H1
    clear H1
    have H' := Aside0.mk H
    clear H
    have hnb18 := NB528_529.out
    have hnc18 := NB529_528.out
    have hcz19_0 : w15.cell? ⟨gb528, 0, none⟩ = some (.slice A0_0 l0_0.length c0_0) := (blk_cell BK528.out 0).trans rfl
    have hcz19_1 : w15.cell? ⟨gb528, 1, none⟩ = some (.slice A0_1 l0_1.length c0_1) := (blk_cell BK528.out 1).trans rfl
    have hfz19_0 := blk_frozen BK528.out 0
    have hfz19_1 := blk_frozen BK528.out 1
    go_wp2_with (first | ((with_reducible refine gate_callee (f := 15) rfl ?_); refine goesL_ (some 12) rfl rfl Try.func15 (by kernel_rfl) rfl #[.agg #[.slice A0_0 l0_0.length c0_0, .slice A0_1 l0_1.length c0_1]] rfl (by (try simp only [List.map_toArray, List.map_cons, List.map_nil]); first | done | rfl | (simp only [List.length_drop, List.length_take]; rfl)) ?_; (with_reducible refine (spec_FlashRight.calls k _ _ l0_0 _ _ l0_1 true _ ?side1 ?side2 ?side3 ?side4 A16.out).mono ?_); (case side1 => repeat (first | exact (Kd.C_below HR0_0.out HB.out) | (with_reducible refine Kd.C_alloc ?_ _) | (with_reducible refine Kd.C_drewN ?_ _) | (with_reducible refine Kd.C_drew ?_))); (case side2 => exact HC0_0.out); (case side3 => repeat (first | exact (Kd.C_below HR0_1.out HB.out) | (with_reducible refine Kd.C_alloc ?_ _) | (with_reducible refine Kd.C_drewN ?_ _) | (with_reducible refine Kd.C_drew ?_))); (case side4 => exact HC0_1.out); rintro e w20 ⟨rfl, hb⟩; refine ⟨_, rfl, ?_⟩; have n0_ := Aside0.mk (blk_below (g := gb528) (o := .cells #[.slice A0_0 l0_0.length c0_0, .slice A0_1 l0_1.length c0_1] 30 (0, 0)) (by (with_reducible repeat (first | refine blk_drewN ?_ _ | refine blk_drew ?_ | refine blk_alloc ?_ _)); exact BK528.out) hb); have n1_ := Aside0.mk (blk_below (g := gb529) (o := .cells #[.slice none 0 0, .slice none 0 0, .string (⟨#[]⟩ : ByteArray), .int .i64 0] 35 (0, 0)) (by (with_reducible repeat (first | refine blk_drewN ?_ _ | refine blk_drew ?_ | refine blk_alloc ?_ _)); exact BK529.out) hb); have n2_ := Aside0.mk (below_step (by repeat (first | (with_reducible first | exact HB.out | apply below_alloc | apply pw_below_drewN | apply below_drew1 | refine below_set ?_ GE528.out | refine below_set ?_ GE529.out) | exact HB.out)) hb); clear BK528; clear BK529; clear HB; have BK528 := n0_; have BK529 := n1_; have HB := n2_; clear n0_ n1_ n2_; (try clear hb); (try clear hb2); (try clear hk); (try clear hi)))
    go_meet
    case rel => exact ⟨_, (decide ((a2.size : Int) > 96)), (by first | rfl | (simp; done) | (simp [*]; done)), H', ⟨by first | omega | exact Nat.le_refl _⟩, ⟨by (with_reducible repeat (first | refine blk_drewN ?_ _ | refine blk_drew ?_ | refine blk_alloc ?_ _)); exact BK528.out⟩, ⟨by (with_reducible repeat (first | refine blk_drewN ?_ _ | refine blk_drew ?_ | refine blk_alloc ?_ _)); exact BK529.out⟩, ⟨by repeat (first | (with_reducible first | exact HB.out | apply below_alloc | apply pw_below_drewN | apply below_drew1 | refine below_set ?_ GE528.out | refine below_set ?_ GE529.out) | exact HB.out)⟩⟩
   ·
    replace c17 := Bool.eq_false_iff.mpr c17
    subst c17
    have H1 : (spec_FlashWrite.j0 k a1 a2 true l0_0 l0_1) = some (r1, r2, r3, r4) := by rw [if_neg (show ¬ (false = true) by decide)] at H; exact H
    clear H
    have H := H1
    clear H1
    have H' := Aside0.mk H
    clear H
    have hnb21 := NB528_529.out
    have hnc21 := NB529_528.out
    have hcz22_0 : w15.cell? ⟨gb528, 0, none⟩ = some (.slice A0_0 l0_0.length c0_0) := (blk_cell BK528.out 0).trans rfl
    have hcz22_1 : w15.cell? ⟨gb528, 1, none⟩ = some (.slice A0_1 l0_1.length c0_1) := (blk_cell BK528.out 1).trans rfl
    have hfz22_0 := blk_frozen BK528.out 0
    have hfz22_1 := blk_frozen BK528.out 1
    go_wp2_with (first | ((with_reducible refine gate_callee (f := 15) rfl ?_); refine goesL_ (some 12) rfl rfl Try.func15 (by kernel_rfl) rfl #[.agg #[.slice A0_0 l0_0.length c0_0, .slice A0_1 l0_1.length c0_1]] rfl (by (try simp only [List.map_toArray, List.map_cons, List.map_nil]); first | done | rfl | (simp only [List.length_drop, List.length_take]; rfl)) ?_; (with_reducible refine (spec_FlashRight.calls k _ _ l0_0 _ _ l0_1 false _ ?side1 ?side2 ?side3 ?side4 A16.out).mono ?_); (case side1 => repeat (first | exact (Kd.C_below HR0_0.out HB.out) | (with_reducible refine Kd.C_alloc ?_ _) | (with_reducible refine Kd.C_drewN ?_ _) | (with_reducible refine Kd.C_drew ?_))); (case side2 => exact HC0_0.out); (case side3 => repeat (first | exact (Kd.C_below HR0_1.out HB.out) | (with_reducible refine Kd.C_alloc ?_ _) | (with_reducible refine Kd.C_drewN ?_ _) | (with_reducible refine Kd.C_drew ?_))); (case side4 => exact HC0_1.out); rintro e w23 ⟨rfl, hb⟩; refine ⟨_, rfl, ?_⟩; have n0_ := Aside0.mk (blk_below (g := gb528) (o := .cells #[.slice A0_0 l0_0.length c0_0, .slice A0_1 l0_1.length c0_1] 30 (0, 0)) (by (with_reducible repeat (first | refine blk_drewN ?_ _ | refine blk_drew ?_ | refine blk_alloc ?_ _)); exact BK528.out) hb); have n1_ := Aside0.mk (blk_below (g := gb529) (o := .cells #[.slice none 0 0, .slice none 0 0, .string (⟨#[]⟩ : ByteArray), .int .i64 0] 35 (0, 0)) (by (with_reducible repeat (first | refine blk_drewN ?_ _ | refine blk_drew ?_ | refine blk_alloc ?_ _)); exact BK529.out) hb); have n2_ := Aside0.mk (below_step (by repeat (first | (with_reducible first | exact HB.out | apply below_alloc | apply pw_below_drewN | apply below_drew1 | refine below_set ?_ GE528.out | refine below_set ?_ GE529.out) | exact HB.out)) hb); clear BK528; clear BK529; clear HB; have BK528 := n0_; have BK529 := n1_; have HB := n2_; clear n0_ n1_ n2_; (try clear hb); (try clear hb2); (try clear hk); (try clear hi)))
    go_meet
    case rel => exact ⟨_, (true), (by first | rfl | (simp; done) | (simp [*]; done)), H', ⟨by first | omega | exact Nat.le_refl _⟩, ⟨by (with_reducible repeat (first | refine blk_drewN ?_ _ | refine blk_drew ?_ | refine blk_alloc ?_ _)); exact BK528.out⟩, ⟨by (with_reducible repeat (first | refine blk_drewN ?_ _ | refine blk_drew ?_ | refine blk_alloc ?_ _)); exact BK529.out⟩, ⟨by repeat (first | (with_reducible first | exact HB.out | apply below_alloc | apply pw_below_drewN | apply below_drew1 | refine below_set ?_ GE528.out | refine below_set ?_ GE529.out) | exact HB.out)⟩⟩
  case rest =>
   clear HC13
   try clear c1
   try clear c2
   try clear p2
   try clear c3
   try clear c4
   try clear c4b0
   try clear c4b1
   try clear c7
   try clear c10
   try clear c15
   try clear c17
   try clear c18
   try clear c21
   try clear hcz11_0
   try clear hcz11_1
   try clear hcz11_2
   try clear hcz11_3
   try clear hcz19_0
   try clear hcz19_1
   try clear hcz22_0
   try clear hcz22_1
   try clear hfz11_0
   try clear hfz11_1
   try clear hfz11_2
   try clear hfz11_3
   try clear hfz19_0
   try clear hfz19_1
   try clear hfz22_0
   try clear hfz22_1
   obtain ⟨kq, x18_12, rfl, HA, HJ12, BK528, BK529, HB⟩ := hcut
   cases kq with
   | zero => exact absurd HA.out (by simp [spec_FlashWrite.j0])
   | succ kj12 =>
    have H := HA.out
    clear HA
    simp only [spec_FlashWrite.j0] at H
    by_cases c24 : x18_12 = true
    ·
     subst c24
     have H1 : ((spec_l03Ill.f 1).bind fun bt539 => (some (bt539.1, bt539.2.1, bt539.2.2.1, bt539.2.2.2))) = some (r1, r2, r3, r4) := by rw [if_pos rfl] at H; exact H
     clear H
     have H := H1
     clear H1
     replace H := Option.bind_eq_some_iff.mp H
     obtain ⟨⟨t539, t542, t545, t546⟩, A250, H⟩ := H
     replace H : (some (t539, t542, t545, t546)) = some (r1, r2, r3, r4) := H
     have A25 := Aside0.mk A250
     clear A250
     simp only [Option.some.injEq, Prod.mk.injEq] at H
     obtain ⟨rfl, rfl, rfl, rfl⟩ := H
     go_wp2_with (first | ((with_reducible refine gate_callee (f := 77) rfl ?_); refine goesL_ (some 19) rfl rfl Try.func77 (by kernel_rfl) rfl #[.int .i64 1] rfl (by (try simp only [List.map_toArray, List.map_cons, List.map_nil]); first | done | rfl | (simp only [List.length_drop, List.length_take]; rfl)) ?_; (with_reducible refine (spec_l03Ill.calls 1 t539 t542 t545 t546 _ A25.out).mono ?_); rintro e w26 ⟨v540, v543, rfl, ho0, ho1, hb⟩; refine ⟨_, rfl, ?_⟩; have n0_ := Aside0.mk (Kd.R_lower ho0 (below_size (by repeat (first | (with_reducible first | exact HB.out | apply below_alloc | apply pw_below_drewN | apply below_drew1 | refine below_set ?_ GE528.out | refine below_set ?_ GE529.out) | exact HB.out)))); have n1_ := Aside0.mk (Kd.R_lower ho1 (below_size (by repeat (first | (with_reducible first | exact HB.out | apply below_alloc | apply pw_below_drewN | apply below_drew1 | refine below_set ?_ GE528.out | refine below_set ?_ GE529.out) | exact HB.out)))); have n2_ := Aside0.mk (blk_below (g := gb528) (o := .cells #[.slice A0_0 l0_0.length c0_0, .slice A0_1 l0_1.length c0_1] 30 (0, 0)) (by (with_reducible repeat (first | refine blk_drewN ?_ _ | refine blk_drew ?_ | refine blk_alloc ?_ _)); exact BK528.out) hb); have n3_ := Aside0.mk (blk_below (g := gb529) (o := .cells #[.slice none 0 0, .slice none 0 0, .string (⟨#[]⟩ : ByteArray), .int .i64 0] 35 (0, 0)) (by (with_reducible repeat (first | refine blk_drewN ?_ _ | refine blk_drew ?_ | refine blk_alloc ?_ _)); exact BK529.out) hb); have n4_ := Aside0.mk (below_step (by repeat (first | (with_reducible first | exact HB.out | apply below_alloc | apply pw_below_drewN | apply below_drew1 | refine below_set ?_ GE528.out | refine below_set ?_ GE529.out) | exact HB.out)) hb); clear BK528; clear BK529; clear HB; have HO541 := n0_; have HO544 := n1_; have BK528 := n2_; have BK529 := n3_; have HB := n4_; clear n0_ n1_ n2_ n3_ n4_; (try clear hb); (try clear hb2); (try clear hk); (try clear hi); (try clear ho0); (try clear ho1); obtain ⟨Ao27, co27, eo27⟩ := Kd.R_slice HO541.out; subst eo27; have hnb28 := NB529_528.out; have hnc28 := NB528_529.out; have hcz29_0 : w26.cell? ⟨gb529, 0, none⟩ = some (.slice none 0 0) := (blk_cell BK529.out 0).trans rfl; have hcz29_1 : w26.cell? ⟨gb529, 1, none⟩ = some (.slice none 0 0) := (blk_cell BK529.out 1).trans rfl; have hcz29_2 : w26.cell? ⟨gb529, 2, none⟩ = some (.string (⟨#[]⟩ : ByteArray)) := (blk_cell BK529.out 2).trans rfl; have hcz29_3 : w26.cell? ⟨gb529, 3, none⟩ = some (.int .i64 0) := (blk_cell BK529.out 3).trans rfl; have hfz29_0 := blk_frozen BK529.out 0; have hfz29_1 := blk_frozen BK529.out 1; have hfz29_2 := blk_frozen BK529.out 2; have hfz29_3 := blk_frozen BK529.out 3; obtain ⟨Ao30, co30, eo30⟩ := Kd.R_slice HO544.out; subst eo30))
     refine bodyPost_ret (results_cell_row rfl _ _ gb529 35 #[.slice Ao27 t539.length co27, .slice Ao30 t542.length co30, .string t545, .int .i64 t546] (0, 0) _ rfl (by (with_reducible repeat (first | refine blk_drewN ?_ _ | refine blk_drew ?_ | refine blk_alloc ?_ _)); refine blk_put (cs := #[.slice Ao27 t539.length co27, .slice Ao30 t542.length co30, .string t545, .int .i64 0]) ?_ 3 _ rfl; (with_reducible repeat (first | refine blk_drewN ?_ _ | refine blk_drew ?_ | refine blk_alloc ?_ _)); refine blk_put (cs := #[.slice Ao27 t539.length co27, .slice Ao30 t542.length co30, .string (⟨#[]⟩ : ByteArray), .int .i64 0]) ?_ 2 _ rfl; (with_reducible repeat (first | refine blk_drewN ?_ _ | refine blk_drew ?_ | refine blk_alloc ?_ _)); refine blk_put (cs := #[.slice Ao27 t539.length co27, .slice none 0 0, .string (⟨#[]⟩ : ByteArray), .int .i64 0]) ?_ 1 _ rfl; (with_reducible repeat (first | refine blk_drewN ?_ _ | refine blk_drew ?_ | refine blk_alloc ?_ _)); refine blk_put (cs := #[.slice none 0 0, .slice none 0 0, .string (⟨#[]⟩ : ByteArray), .int .i64 0]) ?_ 0 _ rfl; (with_reducible repeat (first | refine blk_drewN ?_ _ | refine blk_drew ?_ | refine blk_alloc ?_ _)); exact BK529.out) Try.underlying35 rfl (by kernel_rfl)) rfl ?_
     exact ⟨_, _, by first | rfl | (simp [errW_none, errW_some] <;> rfl) | (simp [*, errW_none, errW_some] <;> rfl), by (with_reducible repeat (first | apply Kd.R_alloc | apply Kd.R_drewN | apply Kd.R_drew)); exact Kd.R_mono (Kd.R_far (p := ⟨gb529, 3, none⟩) (Kd.R_far (p := ⟨gb529, 2, none⟩) (Kd.R_far (p := ⟨gb529, 1, none⟩) (Kd.R_far (p := ⟨gb529, 0, none⟩) (Kd.R_types HO541.out BK529.out (by decide)) (fun _ hk => hk.2) (.slice Ao27 t539.length co27)) (fun _ hk => hk.2) (.slice Ao30 t542.length co30)) (fun _ hk => hk.2) (.string t545)) (fun _ hk => hk.2) (.int .i64 t546)) (fun _ hk => trivial), by (with_reducible repeat (first | apply Kd.R_alloc | apply Kd.R_drewN | apply Kd.R_drew)); exact Kd.R_mono (Kd.R_far (p := ⟨gb529, 3, none⟩) (Kd.R_far (p := ⟨gb529, 2, none⟩) (Kd.R_far (p := ⟨gb529, 1, none⟩) (Kd.R_far (p := ⟨gb529, 0, none⟩) (Kd.R_types HO544.out BK529.out (by decide)) (fun _ hk => hk.2) (.slice Ao27 t539.length co27)) (fun _ hk => hk.2) (.slice Ao30 t542.length co30)) (fun _ hk => hk.2) (.string t545)) (fun _ hk => hk.2) (.int .i64 t546)) (fun _ hk => trivial), by repeat (first | (with_reducible first | exact HB.out | apply below_alloc | apply pw_below_drewN | apply below_drew1 | refine below_set ?_ GE528.out | refine below_set ?_ GE529.out) | exact HB.out)⟩
    ·
     replace c24 := Bool.eq_false_iff.mpr c24
     subst c24
     have H1 : ((spec_l03Is.f a1 0 (wrap64 ((l0_0.length : Int) - 1))).bind fun t547 => (if t547 = true then ((spec_l03Put.f kj12 l0_0 l0_1 a1 a2).bind fun bt548 => (some (bt548.1, bt548.2, (⟨#[]⟩ : ByteArray), 0))) else ((spec_l03Ill.f 8).bind fun bt554 => (some (bt554.1, bt554.2.1, bt554.2.2.1, bt554.2.2.2))))) = some (r1, r2, r3, r4) := by rw [if_neg (show ¬ (false = true) by decide)] at H; exact H
     clear H
     have H := H1
     clear H1
     replace H := Option.bind_eq_some_iff.mp H
     obtain ⟨t547, A310, H⟩ := H
     replace H : (if t547 = true then ((spec_l03Put.f kj12 l0_0 l0_1 a1 a2).bind fun bt548 => (some (bt548.1, bt548.2, (⟨#[]⟩ : ByteArray), 0))) else ((spec_l03Ill.f 8).bind fun bt554 => (some (bt554.1, bt554.2.1, bt554.2.2.1, bt554.2.2.2)))) = some (r1, r2, r3, r4) := H
     have A31 := Aside0.mk A310
     clear A310
     by_cases c32 : t547 = true
     ·
      subst c32
      have H1 : ((spec_l03Put.f kj12 l0_0 l0_1 a1 a2).bind fun bt548 => (some (bt548.1, bt548.2, (⟨#[]⟩ : ByteArray), 0))) = some (r1, r2, r3, r4) := by rw [if_pos rfl] at H; exact H
      clear H
      have H := H1
      clear H1
      replace H := Option.bind_eq_some_iff.mp H
      obtain ⟨⟨t548, t551⟩, A330, H⟩ := H
      replace H : (some (t548, t551, (⟨#[]⟩ : ByteArray), 0)) = some (r1, r2, r3, r4) := H
      have A33 := Aside0.mk A330
      clear A330
      simp only [Option.some.injEq, Prod.mk.injEq] at H
      obtain ⟨rfl, rfl, rfl, rfl⟩ := H
      have hnb34 := NB528_529.out
      have hnc34 := NB529_528.out
      have hcz35_0 : wc.cell? ⟨gb528, 0, none⟩ = some (.slice A0_0 l0_0.length c0_0) := (blk_cell BK528.out 0).trans rfl
      have hcz35_1 : wc.cell? ⟨gb528, 1, none⟩ = some (.slice A0_1 l0_1.length c0_1) := (blk_cell BK528.out 1).trans rfl
      have hfz35_0 := blk_frozen BK528.out 0
      have hfz35_1 := blk_frozen BK528.out 1
      go_wp2_with (first | ((with_reducible refine gate_callee (f := 71) rfl ?_); refine goesL_ (some 25) rfl rfl Try.func71 (by kernel_rfl) rfl #[.int .i64 a1, .int .i64 0, .int .i64 (wrap64 ((l0_0.length : Int) - 1))] rfl (by (try simp only [List.map_toArray, List.map_cons, List.map_nil]); first | done | rfl | (simp only [List.length_drop, List.length_take]; rfl)) ?_; (with_reducible refine (spec_l03Is.calls a1 0 (wrap64 ((l0_0.length : Int) - 1)) true _ A31.out).mono ?_); rintro e w' ⟨rfl, ⟨nd, rfl⟩⟩; refine ⟨_, rfl, ?_⟩; (try (rw [drewN_self wc]; generalize hq_ : World.drewN wc _ = wc; have n0_ : Aside0 (wc.heap[gb528]? = some (.cells #[.slice A0_0 l0_0.length c0_0, .slice A0_1 l0_1.length c0_1] 30 (0, 0))) := ⟨by rw [← hq_]; exact (by (with_reducible repeat (first | refine blk_drewN ?_ _ | refine blk_drew ?_ | refine blk_alloc ?_ _)); exact BK528.out)⟩; have n1_ : Aside0 (wc.heap[gb529]? = some (.cells #[.slice none 0 0, .slice none 0 0, .string (⟨#[]⟩ : ByteArray), .int .i64 0] 35 (0, 0))) := ⟨by rw [← hq_]; exact (by (with_reducible repeat (first | refine blk_drewN ?_ _ | refine blk_drew ?_ | refine blk_alloc ?_ _)); exact BK529.out)⟩; have n2_ : Aside0 (Below w.heap.size w wc) := ⟨by rw [← hq_]; exact (by repeat (first | (with_reducible first | exact HB.out | apply below_alloc | apply pw_below_drewN | apply below_drew1 | refine below_set ?_ GE528.out | refine below_set ?_ GE529.out) | exact HB.out))⟩; clear BK528 BK529 HB hq_; have BK528 := n0_; have BK529 := n1_; have HB := n2_; clear n0_ n1_ n2_; have hqz_gb528_0 : wc.cell? ⟨gb528, 0, none⟩ = some (.slice A0_0 l0_0.length c0_0) := (blk_cell BK528.out 0).trans rfl; have hqf_gb528_0 := blk_frozen BK528.out 0; have hqz_gb528_1 : wc.cell? ⟨gb528, 1, none⟩ = some (.slice A0_1 l0_1.length c0_1) := (blk_cell BK528.out 1).trans rfl; have hqf_gb528_1 := blk_frozen BK528.out 1; have hqz_gb529_0 : wc.cell? ⟨gb529, 0, none⟩ = some (.slice none 0 0) := (blk_cell BK529.out 0).trans rfl; have hqf_gb529_0 := blk_frozen BK529.out 0; have hqz_gb529_1 : wc.cell? ⟨gb529, 1, none⟩ = some (.slice none 0 0) := (blk_cell BK529.out 1).trans rfl; have hqf_gb529_1 := blk_frozen BK529.out 1; have hqz_gb529_2 : wc.cell? ⟨gb529, 2, none⟩ = some (.string (⟨#[]⟩ : ByteArray)) := (blk_cell BK529.out 2).trans rfl; have hqf_gb529_2 := blk_frozen BK529.out 2; have hqz_gb529_3 : wc.cell? ⟨gb529, 3, none⟩ = some (.int .i64 0) := (blk_cell BK529.out 3).trans rfl; have hqf_gb529_3 := blk_frozen BK529.out 3))) | ((with_reducible refine gate_callee (f := 91) rfl ?_); refine goesL_ (some 31) rfl rfl Try.func91 (by kernel_rfl) rfl #[.agg #[.slice A0_0 l0_0.length c0_0, .slice A0_1 l0_1.length c0_1], .int .i64 a1, .string a2] rfl (by (try simp only [List.map_toArray, List.map_cons, List.map_nil]); first | done | rfl | (simp only [List.length_drop, List.length_take]; rfl)) ?_; (with_reducible refine (spec_l03Put.calls kj12 _ _ l0_0 _ _ l0_1 a1 a2 t548 t551 _ ?side1 ?side2 ?side3 ?side4 A33.out).mono ?_); (case side1 => repeat (first | exact (Kd.C_below HR0_0.out HB.out) | (with_reducible refine Kd.C_alloc ?_ _) | (with_reducible refine Kd.C_drewN ?_ _) | (with_reducible refine Kd.C_drew ?_))); (case side2 => exact HC0_0.out); (case side3 => repeat (first | exact (Kd.C_below HR0_1.out HB.out) | (with_reducible refine Kd.C_alloc ?_ _) | (with_reducible refine Kd.C_drewN ?_ _) | (with_reducible refine Kd.C_drew ?_))); (case side4 => exact HC0_1.out); rintro e w36 ⟨v549, v552, rfl, ho0, ho1, hb⟩; refine ⟨_, rfl, ?_⟩; have n0_ := Aside0.mk (Kd.R_lower ho0 (below_size (by repeat (first | (with_reducible first | exact HB.out | apply below_alloc | apply pw_below_drewN | apply below_drew1 | refine below_set ?_ GE528.out | refine below_set ?_ GE529.out) | exact HB.out)))); have n1_ := Aside0.mk (Kd.R_lower ho1 (below_size (by repeat (first | (with_reducible first | exact HB.out | apply below_alloc | apply pw_below_drewN | apply below_drew1 | refine below_set ?_ GE528.out | refine below_set ?_ GE529.out) | exact HB.out)))); have n2_ := Aside0.mk (blk_below (g := gb528) (o := .cells #[.slice A0_0 l0_0.length c0_0, .slice A0_1 l0_1.length c0_1] 30 (0, 0)) (by (with_reducible repeat (first | refine blk_drewN ?_ _ | refine blk_drew ?_ | refine blk_alloc ?_ _)); exact BK528.out) hb); have n3_ := Aside0.mk (blk_below (g := gb529) (o := .cells #[.slice none 0 0, .slice none 0 0, .string (⟨#[]⟩ : ByteArray), .int .i64 0] 35 (0, 0)) (by (with_reducible repeat (first | refine blk_drewN ?_ _ | refine blk_drew ?_ | refine blk_alloc ?_ _)); exact BK529.out) hb); have n4_ := Aside0.mk (below_step (by repeat (first | (with_reducible first | exact HB.out | apply below_alloc | apply pw_below_drewN | apply below_drew1 | refine below_set ?_ GE528.out | refine below_set ?_ GE529.out) | exact HB.out)) hb); clear BK528; clear BK529; clear HB; have HO550 := n0_; have HO553 := n1_; have BK528 := n2_; have BK529 := n3_; have HB := n4_; clear n0_ n1_ n2_ n3_ n4_; (try clear hb); (try clear hb2); (try clear hk); (try clear hi); (try clear ho0); (try clear ho1); obtain ⟨Ao37, co37, eo37⟩ := Kd.R_slice HO553.out; subst eo37; obtain ⟨Ao38, co38, eo38⟩ := Kd.R_slice HO550.out; subst eo38; have hcz39_0 : w36.cell? ⟨gb529, 0, none⟩ = some (.slice none 0 0) := (blk_cell BK529.out 0).trans rfl; have hcz39_1 : w36.cell? ⟨gb529, 1, none⟩ = some (.slice none 0 0) := (blk_cell BK529.out 1).trans rfl; have hcz39_2 : w36.cell? ⟨gb529, 2, none⟩ = some (.string (⟨#[]⟩ : ByteArray)) := (blk_cell BK529.out 2).trans rfl; have hcz39_3 : w36.cell? ⟨gb529, 3, none⟩ = some (.int .i64 0) := (blk_cell BK529.out 3).trans rfl; have hfz39_0 := blk_frozen BK529.out 0; have hfz39_1 := blk_frozen BK529.out 1; have hfz39_2 := blk_frozen BK529.out 2; have hfz39_3 := blk_frozen BK529.out 3))
      refine bodyPost_ret (results_cell_row rfl _ _ gb529 35 #[.slice Ao38 t548.length co38, .slice Ao37 t551.length co37, .string (⟨#[]⟩ : ByteArray), .int .i64 0] (0, 0) _ rfl (by (with_reducible repeat (first | refine blk_drewN ?_ _ | refine blk_drew ?_ | refine blk_alloc ?_ _)); refine blk_put (cs := #[.slice Ao38 t548.length co38, .slice Ao37 t551.length co37, .string (⟨#[]⟩ : ByteArray), .int .i64 0]) ?_ 3 _ rfl; (with_reducible repeat (first | refine blk_drewN ?_ _ | refine blk_drew ?_ | refine blk_alloc ?_ _)); refine blk_put (cs := #[.slice Ao38 t548.length co38, .slice Ao37 t551.length co37, .string (⟨#[]⟩ : ByteArray), .int .i64 0]) ?_ 2 _ rfl; (with_reducible repeat (first | refine blk_drewN ?_ _ | refine blk_drew ?_ | refine blk_alloc ?_ _)); refine blk_put (cs := #[.slice Ao38 t548.length co38, .slice none 0 0, .string (⟨#[]⟩ : ByteArray), .int .i64 0]) ?_ 1 _ rfl; (with_reducible repeat (first | refine blk_drewN ?_ _ | refine blk_drew ?_ | refine blk_alloc ?_ _)); refine blk_put (cs := #[.slice none 0 0, .slice none 0 0, .string (⟨#[]⟩ : ByteArray), .int .i64 0]) ?_ 0 _ rfl; (with_reducible repeat (first | refine blk_drewN ?_ _ | refine blk_drew ?_ | refine blk_alloc ?_ _)); exact BK529.out) Try.underlying35 rfl (by kernel_rfl)) rfl ?_
      exact ⟨_, _, by first | rfl | (simp [errW_none, errW_some] <;> rfl) | (simp [*, errW_none, errW_some] <;> rfl), by (with_reducible repeat (first | apply Kd.R_alloc | apply Kd.R_drewN | apply Kd.R_drew)); exact Kd.R_mono (Kd.R_far (p := ⟨gb529, 3, none⟩) (Kd.R_far (p := ⟨gb529, 2, none⟩) (Kd.R_far (p := ⟨gb529, 1, none⟩) (Kd.R_far (p := ⟨gb529, 0, none⟩) (Kd.R_types HO550.out BK529.out (by decide)) (fun _ hk => hk.2) (.slice Ao38 t548.length co38)) (fun _ hk => hk.2) (.slice Ao37 t551.length co37)) (fun _ hk => hk.2) (.string (⟨#[]⟩ : ByteArray))) (fun _ hk => hk.2) (.int .i64 0)) (fun _ hk => trivial), by (with_reducible repeat (first | apply Kd.R_alloc | apply Kd.R_drewN | apply Kd.R_drew)); exact Kd.R_mono (Kd.R_far (p := ⟨gb529, 3, none⟩) (Kd.R_far (p := ⟨gb529, 2, none⟩) (Kd.R_far (p := ⟨gb529, 1, none⟩) (Kd.R_far (p := ⟨gb529, 0, none⟩) (Kd.R_types HO553.out BK529.out (by decide)) (fun _ hk => hk.2) (.slice Ao38 t548.length co38)) (fun _ hk => hk.2) (.slice Ao37 t551.length co37)) (fun _ hk => hk.2) (.string (⟨#[]⟩ : ByteArray))) (fun _ hk => hk.2) (.int .i64 0)) (fun _ hk => trivial), by repeat (first | (with_reducible first | exact HB.out | apply below_alloc | apply pw_below_drewN | apply below_drew1 | refine below_set ?_ GE528.out | refine below_set ?_ GE529.out) | exact HB.out)⟩
     ·
      replace c32 := Bool.eq_false_iff.mpr c32
      subst c32
      have H1 : ((spec_l03Ill.f 8).bind fun bt554 => (some (bt554.1, bt554.2.1, bt554.2.2.1, bt554.2.2.2))) = some (r1, r2, r3, r4) := by rw [if_neg (show ¬ (false = true) by decide)] at H; exact H
      clear H
      have H := H1
      clear H1
      replace H := Option.bind_eq_some_iff.mp H
      obtain ⟨⟨t554, t557, t560, t561⟩, A400, H⟩ := H
      replace H : (some (t554, t557, t560, t561)) = some (r1, r2, r3, r4) := H
      have A40 := Aside0.mk A400
      clear A400
      simp only [Option.some.injEq, Prod.mk.injEq] at H
      obtain ⟨rfl, rfl, rfl, rfl⟩ := H
      have hnb41 := NB528_529.out
      have hnc41 := NB529_528.out
      have hcz42_0 : wc.cell? ⟨gb528, 0, none⟩ = some (.slice A0_0 l0_0.length c0_0) := (blk_cell BK528.out 0).trans rfl
      have hcz42_1 : wc.cell? ⟨gb528, 1, none⟩ = some (.slice A0_1 l0_1.length c0_1) := (blk_cell BK528.out 1).trans rfl
      have hfz42_0 := blk_frozen BK528.out 0
      have hfz42_1 := blk_frozen BK528.out 1
      go_wp2_with (first | ((with_reducible refine gate_callee (f := 71) rfl ?_); refine goesL_ (some 25) rfl rfl Try.func71 (by kernel_rfl) rfl #[.int .i64 a1, .int .i64 0, .int .i64 (wrap64 ((l0_0.length : Int) - 1))] rfl (by (try simp only [List.map_toArray, List.map_cons, List.map_nil]); first | done | rfl | (simp only [List.length_drop, List.length_take]; rfl)) ?_; (with_reducible refine (spec_l03Is.calls a1 0 (wrap64 ((l0_0.length : Int) - 1)) false _ A31.out).mono ?_); rintro e w' ⟨rfl, ⟨nd, rfl⟩⟩; refine ⟨_, rfl, ?_⟩; (try (rw [drewN_self wc]; generalize hq_ : World.drewN wc _ = wc; have n0_ : Aside0 (wc.heap[gb528]? = some (.cells #[.slice A0_0 l0_0.length c0_0, .slice A0_1 l0_1.length c0_1] 30 (0, 0))) := ⟨by rw [← hq_]; exact (by (with_reducible repeat (first | refine blk_drewN ?_ _ | refine blk_drew ?_ | refine blk_alloc ?_ _)); exact BK528.out)⟩; have n1_ : Aside0 (wc.heap[gb529]? = some (.cells #[.slice none 0 0, .slice none 0 0, .string (⟨#[]⟩ : ByteArray), .int .i64 0] 35 (0, 0))) := ⟨by rw [← hq_]; exact (by (with_reducible repeat (first | refine blk_drewN ?_ _ | refine blk_drew ?_ | refine blk_alloc ?_ _)); exact BK529.out)⟩; have n2_ : Aside0 (Below w.heap.size w wc) := ⟨by rw [← hq_]; exact (by repeat (first | (with_reducible first | exact HB.out | apply below_alloc | apply pw_below_drewN | apply below_drew1 | refine below_set ?_ GE528.out | refine below_set ?_ GE529.out) | exact HB.out))⟩; clear BK528 BK529 HB hq_; have BK528 := n0_; have BK529 := n1_; have HB := n2_; clear n0_ n1_ n2_; have hqz_gb528_0 : wc.cell? ⟨gb528, 0, none⟩ = some (.slice A0_0 l0_0.length c0_0) := (blk_cell BK528.out 0).trans rfl; have hqf_gb528_0 := blk_frozen BK528.out 0; have hqz_gb528_1 : wc.cell? ⟨gb528, 1, none⟩ = some (.slice A0_1 l0_1.length c0_1) := (blk_cell BK528.out 1).trans rfl; have hqf_gb528_1 := blk_frozen BK528.out 1; have hqz_gb529_0 : wc.cell? ⟨gb529, 0, none⟩ = some (.slice none 0 0) := (blk_cell BK529.out 0).trans rfl; have hqf_gb529_0 := blk_frozen BK529.out 0; have hqz_gb529_1 : wc.cell? ⟨gb529, 1, none⟩ = some (.slice none 0 0) := (blk_cell BK529.out 1).trans rfl; have hqf_gb529_1 := blk_frozen BK529.out 1; have hqz_gb529_2 : wc.cell? ⟨gb529, 2, none⟩ = some (.string (⟨#[]⟩ : ByteArray)) := (blk_cell BK529.out 2).trans rfl; have hqf_gb529_2 := blk_frozen BK529.out 2; have hqz_gb529_3 : wc.cell? ⟨gb529, 3, none⟩ = some (.int .i64 0) := (blk_cell BK529.out 3).trans rfl; have hqf_gb529_3 := blk_frozen BK529.out 3))) | ((with_reducible refine gate_callee (f := 77) rfl ?_); refine goesL_ (some 27) rfl rfl Try.func77 (by kernel_rfl) rfl #[.int .i64 8] rfl (by (try simp only [List.map_toArray, List.map_cons, List.map_nil]); first | done | rfl | (simp only [List.length_drop, List.length_take]; rfl)) ?_; (with_reducible refine (spec_l03Ill.calls 8 t554 t557 t560 t561 _ A40.out).mono ?_); rintro e w43 ⟨v555, v558, rfl, ho0, ho1, hb⟩; refine ⟨_, rfl, ?_⟩; have n0_ := Aside0.mk (Kd.R_lower ho0 (below_size (by repeat (first | (with_reducible first | exact HB.out | apply below_alloc | apply pw_below_drewN | apply below_drew1 | refine below_set ?_ GE528.out | refine below_set ?_ GE529.out) | exact HB.out)))); have n1_ := Aside0.mk (Kd.R_lower ho1 (below_size (by repeat (first | (with_reducible first | exact HB.out | apply below_alloc | apply pw_below_drewN | apply below_drew1 | refine below_set ?_ GE528.out | refine below_set ?_ GE529.out) | exact HB.out)))); have n2_ := Aside0.mk (blk_below (g := gb528) (o := .cells #[.slice A0_0 l0_0.length c0_0, .slice A0_1 l0_1.length c0_1] 30 (0, 0)) (by (with_reducible repeat (first | refine blk_drewN ?_ _ | refine blk_drew ?_ | refine blk_alloc ?_ _)); exact BK528.out) hb); have n3_ := Aside0.mk (blk_below (g := gb529) (o := .cells #[.slice none 0 0, .slice none 0 0, .string (⟨#[]⟩ : ByteArray), .int .i64 0] 35 (0, 0)) (by (with_reducible repeat (first | refine blk_drewN ?_ _ | refine blk_drew ?_ | refine blk_alloc ?_ _)); exact BK529.out) hb); have n4_ := Aside0.mk (below_step (by repeat (first | (with_reducible first | exact HB.out | apply below_alloc | apply pw_below_drewN | apply below_drew1 | refine below_set ?_ GE528.out | refine below_set ?_ GE529.out) | exact HB.out)) hb); clear BK528; clear BK529; clear HB; have HO556 := n0_; have HO559 := n1_; have BK528 := n2_; have BK529 := n3_; have HB := n4_; clear n0_ n1_ n2_ n3_ n4_; (try clear hb); (try clear hb2); (try clear hk); (try clear hi); (try clear ho0); (try clear ho1); obtain ⟨Ao44, co44, eo44⟩ := Kd.R_slice HO556.out; subst eo44; have hcz45_0 : w43.cell? ⟨gb529, 0, none⟩ = some (.slice none 0 0) := (blk_cell BK529.out 0).trans rfl; have hcz45_1 : w43.cell? ⟨gb529, 1, none⟩ = some (.slice none 0 0) := (blk_cell BK529.out 1).trans rfl; have hcz45_2 : w43.cell? ⟨gb529, 2, none⟩ = some (.string (⟨#[]⟩ : ByteArray)) := (blk_cell BK529.out 2).trans rfl; have hcz45_3 : w43.cell? ⟨gb529, 3, none⟩ = some (.int .i64 0) := (blk_cell BK529.out 3).trans rfl; have hfz45_0 := blk_frozen BK529.out 0; have hfz45_1 := blk_frozen BK529.out 1; have hfz45_2 := blk_frozen BK529.out 2; have hfz45_3 := blk_frozen BK529.out 3; obtain ⟨Ao46, co46, eo46⟩ := Kd.R_slice HO559.out; subst eo46))
      refine bodyPost_ret (results_cell_row rfl _ _ gb529 35 #[.slice Ao44 t554.length co44, .slice Ao46 t557.length co46, .string t560, .int .i64 t561] (0, 0) _ rfl (by (with_reducible repeat (first | refine blk_drewN ?_ _ | refine blk_drew ?_ | refine blk_alloc ?_ _)); refine blk_put (cs := #[.slice Ao44 t554.length co44, .slice Ao46 t557.length co46, .string t560, .int .i64 0]) ?_ 3 _ rfl; (with_reducible repeat (first | refine blk_drewN ?_ _ | refine blk_drew ?_ | refine blk_alloc ?_ _)); refine blk_put (cs := #[.slice Ao44 t554.length co44, .slice Ao46 t557.length co46, .string (⟨#[]⟩ : ByteArray), .int .i64 0]) ?_ 2 _ rfl; (with_reducible repeat (first | refine blk_drewN ?_ _ | refine blk_drew ?_ | refine blk_alloc ?_ _)); refine blk_put (cs := #[.slice Ao44 t554.length co44, .slice none 0 0, .string (⟨#[]⟩ : ByteArray), .int .i64 0]) ?_ 1 _ rfl; (with_reducible repeat (first | refine blk_drewN ?_ _ | refine blk_drew ?_ | refine blk_alloc ?_ _)); refine blk_put (cs := #[.slice none 0 0, .slice none 0 0, .string (⟨#[]⟩ : ByteArray), .int .i64 0]) ?_ 0 _ rfl; (with_reducible repeat (first | refine blk_drewN ?_ _ | refine blk_drew ?_ | refine blk_alloc ?_ _)); exact BK529.out) Try.underlying35 rfl (by kernel_rfl)) rfl ?_
      exact ⟨_, _, by first | rfl | (simp [errW_none, errW_some] <;> rfl) | (simp [*, errW_none, errW_some] <;> rfl), by (with_reducible repeat (first | apply Kd.R_alloc | apply Kd.R_drewN | apply Kd.R_drew)); exact Kd.R_mono (Kd.R_far (p := ⟨gb529, 3, none⟩) (Kd.R_far (p := ⟨gb529, 2, none⟩) (Kd.R_far (p := ⟨gb529, 1, none⟩) (Kd.R_far (p := ⟨gb529, 0, none⟩) (Kd.R_types HO556.out BK529.out (by decide)) (fun _ hk => hk.2) (.slice Ao44 t554.length co44)) (fun _ hk => hk.2) (.slice Ao46 t557.length co46)) (fun _ hk => hk.2) (.string t560)) (fun _ hk => hk.2) (.int .i64 t561)) (fun _ hk => trivial), by (with_reducible repeat (first | apply Kd.R_alloc | apply Kd.R_drewN | apply Kd.R_drew)); exact Kd.R_mono (Kd.R_far (p := ⟨gb529, 3, none⟩) (Kd.R_far (p := ⟨gb529, 2, none⟩) (Kd.R_far (p := ⟨gb529, 1, none⟩) (Kd.R_far (p := ⟨gb529, 0, none⟩) (Kd.R_types HO559.out BK529.out (by decide)) (fun _ hk => hk.2) (.slice Ao44 t554.length co44)) (fun _ hk => hk.2) (.slice Ao46 t557.length co46)) (fun _ hk => hk.2) (.string t560)) (fun _ hk => hk.2) (.int .i64 t561)) (fun _ hk => trivial), by repeat (first | (with_reducible first | exact HB.out | apply below_alloc | apply pw_below_drewN | apply below_drew1 | refine below_set ?_ GE528.out | refine below_set ?_ GE529.out) | exact HB.out)⟩

-- NOT PRINTED: function 92 (impl_Flash_write)

/-! ### impl_FlashWrite: function 31 -/
def impl_FlashWrite.f (l0_0 : List ByteArray) (l0_1 : List S92) (a1 : Int) (a2 : ByteArray) : Option (List ByteArray × List S92 × ByteArray × Int) :=
 if (a2.size : Int) > 8000 then some (([] : List ByteArray), ([] : List S92), (⟨#[]⟩ : ByteArray), (2 : Int)) else
 (impl_isFlash.f l0_0 l0_1).bind fun t => (if t = true then (if (a2.size : Int) > 96 then some (([] : List ByteArray), ([] : List S92), (⟨#[]⟩ : ByteArray), (1 : Int)) else
  ((impl_Flash_has.f l0_0 l0_1 a1).bind fun t2 => (if t2 = true then ((impl_cloneFlash.f l0_0 l0_1).bind fun c => (if c.2.length ≤ 1000000 then some (c.1, impl_Flash_put c.1 c.2 a1 a2, (⟨#[]⟩ : ByteArray), (0 : Int)) else none)) else some (([] : List ByteArray), ([] : List S92), (⟨#[]⟩ : ByteArray), (8 : Int))))) else some (([] : List ByteArray), ([] : List S92), (⟨#[]⟩ : ByteArray), (1 : Int)))
set_option maxHeartbeats 8000000 in
set_option maxRecDepth 100000 in
theorem impl_FlashWrite.calls (A0_0 : Option Addr) (c0_0 : Nat) (l0_0 : List ByteArray) (A0_1 : Option Addr) (c0_1 : Nat) (l0_1 : List S92) (a1 : Int) (a2 : ByteArray) (r1 : List ByteArray) (r2 : List S92) (r3 : ByteArray) (r4 : Int) (w : World) (hr0_0 : Kd.C Kd.string w A0_0 l0_0.length l0_0) (hc0_0 : l0_0.length ≤ c0_0) (hr0_1 : Kd.C k92 w A0_1 l0_1.length l0_1) (hc0_1 : l0_1.length ≤ c0_1) (h : impl_FlashWrite.f l0_0 l0_1 a1 a2 = some (r1, r2, r3, r4)) :
  Calls Try.prog 31 #[.agg #[.slice A0_0 l0_0.length c0_0, .slice A0_1 l0_1.length c0_1], .int .i64 a1, .string a2] w fun e w' => ∃ v0_ v1_ : Value, e = .returned (.agg #[v0_, v1_, .string r3, .int .i64 r4]) ∧ Kd.R Kd.string 9 w' w.heap.size (fun _ => True) v0_ r1 ∧ Kd.R k92 92 w' w.heap.size (fun _ => True) v1_ r2 ∧ Below w.heap.size w w' := by
 unfold impl_FlashWrite.f at h
 have hu30 := Try.underlying30
 have hu35 := Try.underlying35
 have HR0 := Aside0.mk hr0_0
 have HC0 := Aside0.mk hc0_0
 have HR1 := Aside0.mk hr0_1
 have HC1 := Aside0.mk hc0_1
 clear hr0_0 hc0_0 hr0_1 hc0_1
 have HX0 := Aside0.mk (blk_alloc (blk_new w (.cells #[.slice A0_0 l0_0.length c0_0, .slice A0_1 l0_1.length c0_1] 30)) (.cells #[.slice none 0 0, .slice none 0 0, .string ⟨#[]⟩, .int .i64 0] 35))
 have hx1_ := blk_new (w.alloc (.cells #[.slice A0_0 l0_0.length c0_0, .slice A0_1 l0_1.length c0_1] 30)) (.cells #[.slice none 0 0, .slice none 0 0, .string ⟨#[]⟩, .int .i64 0] 35)
 rw [show (w.alloc (.cells #[.slice A0_0 l0_0.length c0_0, .slice A0_1 l0_1.length c0_1] 30)).heap.size = w.heap.size + 1 from by simp] at hx1_
 have HX1 := Aside0.mk hx1_
 clear hx1_
 have HW0 := Aside0.mk (show Below w.heap.size w ((w.alloc (.cells #[.slice A0_0 l0_0.length c0_0, .slice A0_1 l0_1.length c0_1] 30)).alloc (.cells #[.slice none 0 0, .slice none 0 0, .string ⟨#[]⟩, .int .i64 0] 35)) from below_alloc (below_alloc (Below.refl _ _) _) _)
 by_cases h8 : (a2.size : Int) > 8000
 ·
  rw [if_pos h8] at h
  simp only [Option.some.injEq, Prod.mk.injEq] at h
  obtain ⟨rfl, rfl, rfl, rfl⟩ := h
  have g0 : decide ((a2.size : Int) > 8000) = true := decide_eq_true h8
  have g1 : decide (8000 < a2.size) = true := decide_eq_true (by omega)
  clear h8
  have hx1 := HX1.out
  go_enter Try.func31, Try.ntmps31
  clear hx1
  go_wp2
  refine bodyPost_ret (results_cell_row rfl _ _ (w.heap.size + 1) 35 #[.slice none 0 0, .slice none 0 0, .string ⟨#[]⟩, .int .i64 2] (0, 0) _ rfl (by have h_ := blk_new (w.alloc (.cells #[.slice A0_0 l0_0.length c0_0, .slice A0_1 l0_1.length c0_1] 30)) (.cells #[.slice none 0 0, .slice none 0 0, .string ⟨#[]⟩, .int .i64 2] 35); rw [show (w.alloc (.cells #[.slice A0_0 l0_0.length c0_0, .slice A0_1 l0_1.length c0_1] 30)).heap.size = w.heap.size + 1 from by simp] at h_; exact h_) Try.underlying35 rfl (by kernel_rfl)) rfl ?_
  exact ⟨_, _, rfl, Kd.R_nil _ _ _ _ _, Kd.R_nil _ _ _ _ _, below_alloc (below_alloc (Below.refl _ _) _) _⟩
 ·
  rw [if_neg h8] at h
  have g0 : decide ((a2.size : Int) > 8000) = false := decide_eq_false h8
  have g1 : decide (8000 < a2.size) = false := decide_eq_false (by omega)
  obtain ⟨t, ht, h⟩ := Option.bind_eq_some_iff.1 h
  have HF := Aside0.mk ht
  clear ht h8
  cases t with
  | false =>
   simp only [Bool.false_eq_true, if_false] at h
   simp only [Option.some.injEq, Prod.mk.injEq] at h
   obtain ⟨rfl, rfl, rfl, rfl⟩ := h
   go_enter Try.func31, Try.ntmps31
   go_wp2_with (fail)
   go_at_call 74
   refine (impl_isFlash.calls A0_0 c0_0 l0_0 A0_1 c0_1 l0_1 false _ (Kd.C_below HR0.out HW0.out) HC0.out (Kd.C_below HR1.out HW0.out) HC1.out HF.out).mono ?_
   rintro e w1 ⟨rfl, hb1⟩
   have HB1 := Aside0.mk (below_step HW0.out hb1)
   have hx0 := blk_below (by exact HX0.out) hb1
   have hx1 := blk_below (by exact HX1.out) hb1
   have HX01 := Aside0.mk hx0
   have HX11 := Aside0.mk hx1
   clear hb1
   have oc0 := blk_cell hx1 0
   have of0 := blk_frozen hx1 0
   have oc1 := blk_cell hx1 1
   have of1 := blk_frozen hx1 1
   have oc2 := blk_cell hx1 2
   have of2 := blk_frozen hx1 2
   have oc3 := blk_cell hx1 3
   have of3 := blk_frozen hx1 3
   clear hx0 hx1
   go_wp2
   refine bodyPost_ret (results_cell_row rfl _ _ (w.heap.size + 1) 35 #[.slice none 0 0, .slice none 0 0, .string ⟨#[]⟩, .int .i64 1] (0, 0) _ rfl (by refine blk_put (cs := #[.slice none 0 0, .slice none 0 0, .string ⟨#[]⟩, .int .i64 0]) ?_ 3 _ rfl; refine blk_put (cs := #[.slice none 0 0, .slice none 0 0, .string ⟨#[]⟩, .int .i64 0]) ?_ 2 _ rfl; refine blk_put (cs := #[.slice none 0 0, .slice none 0 0, .string ⟨#[]⟩, .int .i64 0]) ?_ 1 _ rfl; refine blk_put (cs := #[.slice none 0 0, .slice none 0 0, .string ⟨#[]⟩, .int .i64 0]) ?_ 0 _ rfl; (repeat (first | exact HX11.out | refine blk_drewN ?_ _ | refine blk_drew ?_))) Try.underlying35 rfl (by kernel_rfl)) rfl ?_
   exact ⟨_, _, rfl, Kd.R_nil _ _ _ _ _, Kd.R_nil _ _ _ _ _, ((((show Below w.heap.size w _ from by first | exact HB1.out | exact pw_below_drewN HB1.out _).setCell (Nat.le_succ _) _).setCell (Nat.le_succ _) _).setCell (Nat.le_succ _) _).setCell (Nat.le_succ _) _⟩
  | true =>
   simp only [if_true] at h
   by_cases h9 : (a2.size : Int) > 96
   ·
    rw [if_pos h9] at h
    simp only [Option.some.injEq, Prod.mk.injEq] at h
    obtain ⟨rfl, rfl, rfl, rfl⟩ := h
    have g2 : decide ((a2.size : Int) > 96) = true := decide_eq_true h9
    have g3 : decide (96 < a2.size) = true := decide_eq_true (by omega)
    clear h9
    go_enter Try.func31, Try.ntmps31
    go_wp2_with (fail)
    go_at_call 74
    refine (impl_isFlash.calls A0_0 c0_0 l0_0 A0_1 c0_1 l0_1 true _ (Kd.C_below HR0.out HW0.out) HC0.out (Kd.C_below HR1.out HW0.out) HC1.out HF.out).mono ?_
    rintro e w1 ⟨rfl, hb1⟩
    have HB1 := Aside0.mk (below_step HW0.out hb1)
    have hx0 := blk_below (by exact HX0.out) hb1
    have hx1 := blk_below (by exact HX1.out) hb1
    have HX01 := Aside0.mk hx0
    have HX11 := Aside0.mk hx1
    clear hb1
    have oc0 := blk_cell hx1 0
    have of0 := blk_frozen hx1 0
    have oc1 := blk_cell hx1 1
    have of1 := blk_frozen hx1 1
    have oc2 := blk_cell hx1 2
    have of2 := blk_frozen hx1 2
    have oc3 := blk_cell hx1 3
    have of3 := blk_frozen hx1 3
    clear hx0 hx1
    go_wp2
    refine bodyPost_ret (results_cell_row rfl _ _ (w.heap.size + 1) 35 #[.slice none 0 0, .slice none 0 0, .string ⟨#[]⟩, .int .i64 1] (0, 0) _ rfl (by refine blk_put (cs := #[.slice none 0 0, .slice none 0 0, .string ⟨#[]⟩, .int .i64 0]) ?_ 3 _ rfl; refine blk_put (cs := #[.slice none 0 0, .slice none 0 0, .string ⟨#[]⟩, .int .i64 0]) ?_ 2 _ rfl; refine blk_put (cs := #[.slice none 0 0, .slice none 0 0, .string ⟨#[]⟩, .int .i64 0]) ?_ 1 _ rfl; refine blk_put (cs := #[.slice none 0 0, .slice none 0 0, .string ⟨#[]⟩, .int .i64 0]) ?_ 0 _ rfl; (repeat (first | exact HX11.out | refine blk_drewN ?_ _ | refine blk_drew ?_))) Try.underlying35 rfl (by kernel_rfl)) rfl ?_
    exact ⟨_, _, rfl, Kd.R_nil _ _ _ _ _, Kd.R_nil _ _ _ _ _, ((((show Below w.heap.size w _ from by first | exact HB1.out | exact pw_below_drewN HB1.out _).setCell (Nat.le_succ _) _).setCell (Nat.le_succ _) _).setCell (Nat.le_succ _) _).setCell (Nat.le_succ _) _⟩
   ·
    rw [if_neg h9] at h
    have g2 : decide ((a2.size : Int) > 96) = false := decide_eq_false h9
    have g3 : decide (96 < a2.size) = false := decide_eq_false (by omega)
    obtain ⟨t2, ht2, h⟩ := Option.bind_eq_some_iff.1 h
    have HH := Aside0.mk ht2
    clear ht2 h9
    cases t2 with
    | false =>
     simp only [Bool.false_eq_true, if_false] at h
     simp only [Option.some.injEq, Prod.mk.injEq] at h
     obtain ⟨rfl, rfl, rfl, rfl⟩ := h
     go_enter Try.func31, Try.ntmps31
     go_wp2_with (fail)
     go_at_call 74
     refine (impl_isFlash.calls A0_0 c0_0 l0_0 A0_1 c0_1 l0_1 true _ (Kd.C_below HR0.out HW0.out) HC0.out (Kd.C_below HR1.out HW0.out) HC1.out HF.out).mono ?_
     rintro e w1 ⟨rfl, hb1⟩
     have HB1 := Aside0.mk (below_step HW0.out hb1)
     have hx0 := blk_below (by exact HX0.out) hb1
     have hx1 := blk_below (by exact HX1.out) hb1
     have HX01 := Aside0.mk hx0
     have HX11 := Aside0.mk hx1
     clear hb1
     have b0 := (blk_cell HX01.out 0).trans (rfl : _ = some (Value.slice A0_0 l0_0.length c0_0))
     have b1 := (blk_cell HX01.out 1).trans (rfl : _ = some (Value.slice A0_1 l0_1.length c0_1))
     clear hx0 hx1
     go_wp2_with (fail)
     go_at_call 89
     refine (impl_Flash_has.calls A0_0 c0_0 l0_0 A0_1 c0_1 l0_1 a1 false _ (Kd.C_below HR0.out HB1.out) HC0.out (Kd.C_below HR1.out HB1.out) HC1.out HH.out).mono ?_
     rintro e wh ⟨rfl, hbh⟩
     have HB1_ := Aside0.mk (below_step HB1.out hbh)
     have hx0 := blk_below HX01.out hbh
     have hx1 := blk_below HX11.out hbh
     clear HB1 HX01 HX11 hbh b0 b1
     have HB1 := HB1_
     have HX01 := Aside0.mk hx0
     have HX11 := Aside0.mk hx1
     clear HB1_
     have oc0 := blk_cell hx1 0
     have of0 := blk_frozen hx1 0
     have oc1 := blk_cell hx1 1
     have of1 := blk_frozen hx1 1
     have oc2 := blk_cell hx1 2
     have of2 := blk_frozen hx1 2
     have oc3 := blk_cell hx1 3
     have of3 := blk_frozen hx1 3
     clear hx0 hx1
     go_wp2
     refine bodyPost_ret (results_cell_row rfl _ _ (w.heap.size + 1) 35 #[.slice none 0 0, .slice none 0 0, .string ⟨#[]⟩, .int .i64 8] (0, 0) _ rfl (by refine blk_put (cs := #[.slice none 0 0, .slice none 0 0, .string ⟨#[]⟩, .int .i64 0]) ?_ 3 _ rfl; refine blk_put (cs := #[.slice none 0 0, .slice none 0 0, .string ⟨#[]⟩, .int .i64 0]) ?_ 2 _ rfl; refine blk_put (cs := #[.slice none 0 0, .slice none 0 0, .string ⟨#[]⟩, .int .i64 0]) ?_ 1 _ rfl; refine blk_put (cs := #[.slice none 0 0, .slice none 0 0, .string ⟨#[]⟩, .int .i64 0]) ?_ 0 _ rfl; (repeat (first | exact HX11.out | refine blk_drewN ?_ _ | refine blk_drew ?_))) Try.underlying35 rfl (by kernel_rfl)) rfl ?_
     exact ⟨_, _, rfl, Kd.R_nil _ _ _ _ _, Kd.R_nil _ _ _ _ _, ((((show Below w.heap.size w _ from by first | exact HB1.out | exact pw_below_drewN HB1.out _).setCell (Nat.le_succ _) _).setCell (Nat.le_succ _) _).setCell (Nat.le_succ _) _).setCell (Nat.le_succ _) _⟩
    | true =>
     simp only [if_true] at h
     obtain ⟨c, hc, h⟩ := Option.bind_eq_some_iff.1 h
     obtain ⟨cS, cD⟩ := c
     by_cases hok : cD.length ≤ 1000000
     ·
      simp only [hok, if_true, Option.some.injEq, Prod.mk.injEq] at h
      obtain ⟨rfl, rfl, rfl, rfl⟩ := h
      have HOK := Aside0.mk hok
      have HCL := Aside0.mk hc
      clear hok hc
      go_enter Try.func31, Try.ntmps31
      go_wp2_with (fail)
      go_at_call 74
      refine (impl_isFlash.calls A0_0 c0_0 l0_0 A0_1 c0_1 l0_1 true _ (Kd.C_below HR0.out HW0.out) HC0.out (Kd.C_below HR1.out HW0.out) HC1.out HF.out).mono ?_
      rintro e w1 ⟨rfl, hb1⟩
      have HB1 := Aside0.mk (below_step HW0.out hb1)
      have hx0 := blk_below (by exact HX0.out) hb1
      have hx1 := blk_below (by exact HX1.out) hb1
      have HX01 := Aside0.mk hx0
      have HX11 := Aside0.mk hx1
      clear hb1
      have b0 := (blk_cell HX01.out 0).trans (rfl : _ = some (Value.slice A0_0 l0_0.length c0_0))
      have b1 := (blk_cell HX01.out 1).trans (rfl : _ = some (Value.slice A0_1 l0_1.length c0_1))
      clear hx0 hx1
      go_wp2_with (fail)
      go_at_call 89
      refine (impl_Flash_has.calls A0_0 c0_0 l0_0 A0_1 c0_1 l0_1 a1 true _ (Kd.C_below HR0.out HB1.out) HC0.out (Kd.C_below HR1.out HB1.out) HC1.out HH.out).mono ?_
      rintro e wh ⟨rfl, hbh⟩
      have HB1_ := Aside0.mk (below_step HB1.out hbh)
      have hx0 := blk_below HX01.out hbh
      have hx1 := blk_below HX11.out hbh
      clear HB1 HX01 HX11 hbh b0 b1
      have HB1 := HB1_
      have HX01 := Aside0.mk hx0
      have HX11 := Aside0.mk hx1
      clear HB1_
      have b0 := (blk_cell HX01.out 0).trans (rfl : _ = some (Value.slice A0_0 l0_0.length c0_0))
      have b1 := (blk_cell HX01.out 1).trans (rfl : _ = some (Value.slice A0_1 l0_1.length c0_1))
      clear hx0 hx1
      go_wp2_with (fail)
      go_at_call 79
      refine (impl_cloneFlash.calls A0_0 c0_0 l0_0 A0_1 c0_1 l0_1 cS cD _ (by repeat (first | exact (Kd.C_below HR0.out HB1.out) | (with_reducible refine Kd.C_drewN ?_ _))) HC0.out (by repeat (first | exact (Kd.C_below HR1.out HB1.out) | (with_reducible refine Kd.C_drewN ?_ _))) HC1.out HCL.out).mono ?_
      rintro e w2 ⟨v0, v1, rfl, hS, hD, hb2⟩
      obtain ⟨As, cs, rfl⟩ := Kd.R_slice hS
      obtain ⟨Ad, cd, rfl⟩ := Kd.R_slice hD
      have HFB := Aside0.mk (show FB (w2.alloc (.cells #[.slice As cS.length cs, .slice Ad cD.length cd] 30)) wh.heap.size w2.heap.size cS cD from ⟨_, _, blk_new _ _, hb2.size, Kd.R_alloc hS _, Kd.R_alloc hD _⟩)
      have HB2 := Aside0.mk (show Below wh.heap.size wh (w2.alloc (.cells #[.slice As cS.length cs, .slice Ad cD.length cd] 30)) from below_alloc hb2 _)
      clear hS hD hb2
      go_wp2_with (fail)
      go_at_call 92
      refine (impl_Flash_write.calls wh wh.heap.size _ cS cD a1 a2 _ (by exact HFB.out) (by exact HB2.out) HB2.out.size HOK.out).mono ?_
      rintro e w3 ⟨rfl, hF3, hb3, _⟩
      obtain ⟨u0, u1, hk3, hg3, hS3, hD3⟩ := hF3
      obtain ⟨Au, cu, rfl⟩ := Kd.R_slice hS3
      obtain ⟨Av, cv, rfl⟩ := Kd.R_slice hD3
      have e0 := (blk_cell hk3 0).trans (rfl : _ = some (Value.slice Au _ cu))
      have e1 := (blk_cell hk3 1).trans (rfl : _ = some (Value.slice Av _ cv))
      have hx3 := (hb3.block (w.heap.size + 1) (blk_lt HX11.out)).trans HX11.out
      have HX3 := Aside0.mk hx3
      have HS3 := Aside0.mk hS3
      have HD3 := Aside0.mk hD3
      have HB3 := Aside0.mk (below_step HB1.out hb3)
      have oc0 := blk_cell hx3 0
      have of0 := blk_frozen hx3 0
      have oc1 := blk_cell hx3 1
      have of1 := blk_frozen hx3 1
      have oc2 := blk_cell hx3 2
      have of2 := blk_frozen hx3 2
      have oc3 := blk_cell hx3 3
      have of3 := blk_frozen hx3 3
      clear hk3 hg3 hS3 hD3 hb3 hx3
      go_wp2
      refine bodyPost_ret (results_cell_row rfl _ _ (w.heap.size + 1) 35 #[.slice Au cS.length cu, .slice Av (impl_Flash_put cS cD a1 a2).length cv, .string ⟨#[]⟩, .int .i64 0] (0, 0) _ rfl (by refine blk_put (cs := #[.slice Au cS.length cu, .slice Av (impl_Flash_put cS cD a1 a2).length cv, .string ⟨#[]⟩, .int .i64 0]) ?_ 3 _ rfl; refine blk_put (cs := #[.slice Au cS.length cu, .slice Av (impl_Flash_put cS cD a1 a2).length cv, .string ⟨#[]⟩, .int .i64 0]) ?_ 2 _ rfl; refine blk_put (cs := #[.slice Au cS.length cu, .slice none 0 0, .string ⟨#[]⟩, .int .i64 0]) ?_ 1 _ rfl; refine blk_put (cs := #[.slice none 0 0, .slice none 0 0, .string ⟨#[]⟩, .int .i64 0]) ?_ 0 _ rfl; (repeat (first | exact HX3.out | refine blk_drewN ?_ _ | refine blk_drew ?_))) Try.underlying35 rfl (by kernel_rfl)) rfl ?_
      exact ⟨_, _, rfl, Kd.R_lower (FB.out4 HS3.out HX3.out (by decide) _ _ _ _) HB1.out.size, Kd.R_lower (FB.out4 HD3.out HX3.out (by decide) _ _ _ _) HB1.out.size, ((((show Below w.heap.size w _ from by first | exact HB3.out | exact pw_below_drewN HB3.out _).setCell (Nat.le_succ _) _).setCell (Nat.le_succ _) _).setCell (Nat.le_succ _) _).setCell (Nat.le_succ _) _⟩
     ·
      simp only [if_neg hok] at h; cases h


end Go.Proofs.Ytibnmnkembbgeaa.Q
