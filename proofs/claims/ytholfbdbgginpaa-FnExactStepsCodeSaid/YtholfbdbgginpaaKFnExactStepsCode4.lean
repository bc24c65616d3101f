/- For each Go function that the laws of this text reach: a Lean function, and the proof that the Go function returns what the Lean function tells, wherever it tells some value. Written by a program of this session. -/
import Derived.Test.YtholfbdbgginpaaKFnExactStepsCode0
import Derived.Test.YtholfbdbgginpaaKFnExactStepsCode1
import Derived.Test.YtholfbdbgginpaaKFnExactStepsCode2
import Derived.Test.YtholfbdbgginpaaKFnExactStepsCode3
namespace Go.Proofs.Ytholfbdbgginpaa.Q
open Go.RowKit Go.Proofs.YtholfbdbgginpaaW.PrintWords Go.Proofs.YtholfbdbgginpaaW.PrintLast Go.Proofs.YtholfbdbgginpaaW.PrintMore
attribute [local go_sem] max2_int min2_int max_two min_two max_three min_three max_four min_four Instr.field asAgg   -- for this text's walks alone
set_option linter.unusedVariables false
set_option linter.unusedSimpArgs false
/-! ### spec_StepsCode: function 33 -/
mutual
def spec_StepsCode.j0 : Nat → List (S26) → Int → Bool → Option (Int)
  | 0, _, _, _ => none
  | k + 1, x0, x1, x17 => if x17 = true then (some 1) else (spec_StepsCode.l0 k x0 x1 0)
def spec_StepsCode.l0 : Nat → List (S26) → Int → Int → Option (Int)
  | 0, _, _, _ => none
  | k + 1, x0, x1, x5 => if x5 < (x0.length : Int) then (if 0 ≤ x5 then ((spec_StepRight.f ((rd_T26 x0 x5).f0) ((rd_T26 x0 x5).f1) ((rd_T26 x0 x5).f2) ((rd_T26 x0 x5).f3) x1).bind fun t325 => (if t325 = true then (spec_StepsCode.l0 k x0 x1 (wrap64 (x5 + 1))) else (some 1))) else (none)) else (spec_StepsCode.l1 k x0 0)
def spec_StepsCode.l1 : Nat → List (S26) → Int → Option (Int)
  | 0, _, _ => none
  | k + 1, x0, x6 => if x6 < (x0.length : Int) then (spec_StepsCode.l2 k x0 x6 0) else (spec_StepsCode.l3 k x0 (-1) 0)
def spec_StepsCode.l2 : Nat → List (S26) → Int → Int → Option (Int)
  | 0, _, _, _ => none
  | k + 1, x0, x6, x7 => if x7 < x6 then (if 0 ≤ x6 then (if x6 < (x0.length : Int) then (if ((rd_T26 x0 x6).f0) = 5 then (spec_StepsCode.l2 k x0 x6 (wrap64 (x7 + 1))) else (if 0 ≤ x7 then (if x7 < (x0.length : Int) then (if ((rd_T26 x0 x7).f0) = 5 then (spec_StepsCode.l2 k x0 x6 (wrap64 (x7 + 1))) else (if ((rd_T26 x0 x6).f1) = ((rd_T26 x0 x7).f1) then (some 12) else (spec_StepsCode.l2 k x0 x6 (wrap64 (x7 + 1))))) else (none)) else (none))) else (none)) else (none)) else (spec_StepsCode.l1 k x0 (wrap64 (x6 + 1)))
def spec_StepsCode.l3 : Nat → List (S26) → Int → Int → Option (Int)
  | 0, _, _, _ => none
  | k + 1, x0, x8, x9 => if x9 < (x0.length : Int) then (if 0 ≤ x9 then (if ((rd_T26 x0 x9).f0) = 5 then (if ((rd_T26 x0 x9).f2) ≤ x8 then (some 8) else (spec_StepsCode.l3 k x0 ((rd_T26 x0 x9).f2) (wrap64 (x9 + 1)))) else (spec_StepsCode.l3 k x0 x8 (wrap64 (x9 + 1)))) else (none)) else (some 0)
end
def spec_StepsCode.f (k : Nat) (l0 : List (S26)) (a1 : Int) : Option (Int) := if (l0.length : Int) > 20 then (spec_StepsCode.j0 k l0 a1 true) else ((spec_l03Is.f a1 1 8).bind fun t323 => (spec_StepsCode.j0 k l0 a1 (!t323)))
theorem spec_StepsCode.mono_l : ∀ k, (∀ y0 y1 y2, LeO (spec_StepsCode.j0 k y0 y1 y2) (spec_StepsCode.j0 (k + 1) y0 y1 y2)) ∧ (∀ y0 y1 y2, LeO (spec_StepsCode.l0 k y0 y1 y2) (spec_StepsCode.l0 (k + 1) y0 y1 y2)) ∧ (∀ y0 y1, LeO (spec_StepsCode.l1 k y0 y1) (spec_StepsCode.l1 (k + 1) y0 y1)) ∧ (∀ y0 y1 y2, LeO (spec_StepsCode.l2 k y0 y1 y2) (spec_StepsCode.l2 (k + 1) y0 y1 y2)) ∧ (∀ y0 y1 y2, LeO (spec_StepsCode.l3 k y0 y1 y2) (spec_StepsCode.l3 (k + 1) y0 y1 y2))
  | 0 => ⟨fun _ _ _ r h => by simp [spec_StepsCode.j0] at h, fun _ _ _ r h => by simp [spec_StepsCode.l0] at h, fun _ _ r h => by simp [spec_StepsCode.l1] at h, fun _ _ _ r h => by simp [spec_StepsCode.l2] at h, fun _ _ _ r h => by simp [spec_StepsCode.l3] at h⟩
  | k + 1 => by
    obtain ⟨ih0, ih1, ih2, ih3, ih4⟩ := spec_StepsCode.mono_l k
    refine ⟨?_, ?_, ?_, ?_, ?_⟩
    · intro y0 y1 y2
      unfold spec_StepsCode.j0
      repeat' first
      | (with_reducible exact ih0 _ _ _)
      | (with_reducible exact ih1 _ _ _)
      | (with_reducible exact ih2 _ _)
      | (with_reducible exact ih3 _ _ _)
      | (with_reducible exact ih4 _ _ _)
      | (with_reducible exact LeO.refl _)
      | (with_reducible exact LeO.none _)
      | (with_reducible refine LeO.ite ?_ ?_)
      | (with_reducible refine LeO.bind ?_ (fun _ => ?_))
      | exact ih0 _ _ _
      | exact ih1 _ _ _
      | exact ih2 _ _
      | exact ih3 _ _ _
      | exact ih4 _ _ _
      | exact LeO.none _
      | refine LeO.ite ?_ ?_
      | refine LeO.bind ?_ (fun _ => ?_)
    · intro y0 y1 y2
      unfold spec_StepsCode.l0
      repeat' first
      | (with_reducible exact ih0 _ _ _)
      | (with_reducible exact ih1 _ _ _)
      | (with_reducible exact ih2 _ _)
      | (with_reducible exact ih3 _ _ _)
      | (with_reducible exact ih4 _ _ _)
      | (with_reducible exact LeO.refl _)
      | (with_reducible exact LeO.none _)
      | (with_reducible refine LeO.ite ?_ ?_)
      | (with_reducible refine LeO.bind ?_ (fun _ => ?_))
      | exact ih0 _ _ _
      | exact ih1 _ _ _
      | exact ih2 _ _
      | exact ih3 _ _ _
      | exact ih4 _ _ _
      | exact LeO.none _
      | refine LeO.ite ?_ ?_
      | refine LeO.bind ?_ (fun _ => ?_)
    · intro y0 y1
      unfold spec_StepsCode.l1
      repeat' first
      | (with_reducible exact ih0 _ _ _)
      | (with_reducible exact ih1 _ _ _)
      | (with_reducible exact ih2 _ _)
      | (with_reducible exact ih3 _ _ _)
      | (with_reducible exact ih4 _ _ _)
      | (with_reducible exact LeO.refl _)
      | (with_reducible exact LeO.none _)
      | (with_reducible refine LeO.ite ?_ ?_)
      | (with_reducible refine LeO.bind ?_ (fun _ => ?_))
      | exact ih0 _ _ _
      | exact ih1 _ _ _
      | exact ih2 _ _
      | exact ih3 _ _ _
      | exact ih4 _ _ _
      | exact LeO.none _
      | refine LeO.ite ?_ ?_
      | refine LeO.bind ?_ (fun _ => ?_)
    · intro y0 y1 y2
      unfold spec_StepsCode.l2
      repeat' first
      | (with_reducible exact ih0 _ _ _)
      | (with_reducible exact ih1 _ _ _)
      | (with_reducible exact ih2 _ _)
      | (with_reducible exact ih3 _ _ _)
      | (with_reducible exact ih4 _ _ _)
      | (with_reducible exact LeO.refl _)
      | (with_reducible exact LeO.none _)
      | (with_reducible refine LeO.ite ?_ ?_)
      | (with_reducible refine LeO.bind ?_ (fun _ => ?_))
      | exact ih0 _ _ _
      | exact ih1 _ _ _
      | exact ih2 _ _
      | exact ih3 _ _ _
      | exact ih4 _ _ _
      | exact LeO.none _
      | refine LeO.ite ?_ ?_
      | refine LeO.bind ?_ (fun _ => ?_)
    · intro y0 y1 y2
      unfold spec_StepsCode.l3
      repeat' first
      | (with_reducible exact ih0 _ _ _)
      | (with_reducible exact ih1 _ _ _)
      | (with_reducible exact ih2 _ _)
      | (with_reducible exact ih3 _ _ _)
      | (with_reducible exact ih4 _ _ _)
      | (with_reducible exact LeO.refl _)
      | (with_reducible exact LeO.none _)
      | (with_reducible refine LeO.ite ?_ ?_)
      | (with_reducible refine LeO.bind ?_ (fun _ => ?_))
      | exact ih0 _ _ _
      | exact ih1 _ _ _
      | exact ih2 _ _
      | exact ih3 _ _ _
      | exact ih4 _ _ _
      | exact LeO.none _
      | refine LeO.ite ?_ ?_
      | refine LeO.bind ?_ (fun _ => ?_)
theorem spec_StepsCode.mono : ∀ a0 a1 k, LeO (spec_StepsCode.f k a0 a1) (spec_StepsCode.f (k + 1) a0 a1) := by
  intro a0 a1 k
  obtain ⟨ih0, ih1, ih2, ih3, ih4⟩ := spec_StepsCode.mono_l k
  unfold spec_StepsCode.f
  repeat' first
      | (with_reducible exact ih0 _ _ _)
      | (with_reducible exact ih1 _ _ _)
      | (with_reducible exact ih2 _ _)
      | (with_reducible exact ih3 _ _ _)
      | (with_reducible exact ih4 _ _ _)
      | (with_reducible exact LeO.refl _)
      | (with_reducible exact LeO.none _)
      | (with_reducible refine LeO.ite ?_ ?_)
      | (with_reducible refine LeO.bind ?_ (fun _ => ?_))
      | exact ih0 _ _ _
      | exact ih1 _ _ _
      | exact ih2 _ _
      | exact ih3 _ _ _
      | exact ih4 _ _ _
      | exact LeO.none _
      | refine LeO.ite ?_ ?_
      | refine LeO.bind ?_ (fun _ => ?_)
set_option maxHeartbeats 8000000 in
set_option maxRecDepth 100000 in
theorem spec_StepsCode.calls (k : Nat) (A0 : Option Addr) (c0 : Nat) (l0 : List (S26)) (a1 : Int) (r : Int) (w : World) (hr0 : Kd.C k26 w A0 l0.length l0) (hc0 : l0.length ≤ c0) (h : spec_StepsCode.f k l0 a1 = some r) :
    Calls Try.prog 33 #[.slice A0 l0.length c0, .int .i64 a1] w fun e w' => e = .returned (.int .i64 r) ∧ Below w.heap.size w w' := by
  have hu26 := Try.underlying26
  have HR0 := Aside0.mk hr0
  have HC0 := Aside0.mk hc0
  clear hr0 hc0
  have HB := Aside0.mk (Below.refl w.heap.size w)
  have H : (if (l0.length : Int) > 20 then (spec_StepsCode.j0 k l0 a1 true) else ((spec_l03Is.f a1 1 8).bind fun t323 => (spec_StepsCode.j0 k l0 a1 (!t323)))) = some r := h
  clear h
  have HC3 := Aside0.mk H
  clear H
  go_enter Try.func33, Try.ntmps33
  go_upto_region 1 with (fail)
  repeat (go_quiet (fail); go_upto_region 1 with (fail))
  go_cut [17] (fun v17 wc => ∃ (kq : Nat) (x17_2 : Bool), v17 = .bool x17_2 ∧ Aside0 (spec_StepsCode.j0 kq l0 a1 x17_2 = some r) ∧ Aside0 (kq ≤ k) ∧ Aside0 (Below w.heap.size w wc))
  case first =>
    have H := HC3.out
    clear HC3
    by_cases c4 : (l0.length : Int) > 20
    · rw [if_pos c4] at H
      have c4b0 : decide (20 < (l0.length : Int)) = true := decide_eq_true c4
      have c4b1 : decide (20 < l0.length) = true := decide_eq_true (by omega)
      clear c4
      (first | rw [c4b0] | (simp only [i64_w, i32_w]; rw [c4b0]) | skip)
      have H' := Aside0.mk H
      clear H
      go_wp2
      repeat (go_quiet (fail); try go_wp2)
      go_meet
      case rel => exact ⟨_, (true), (by first | rfl | (simp; done) | (simp [*]; done)), H', ⟨by first | omega | exact Nat.le_refl _⟩, ⟨by repeat (first | (with_reducible first | exact HB.out | apply below_alloc | apply pw_below_drewN | apply below_drew1) | exact HB.out)⟩⟩
    · rw [if_neg c4] at H
      have c4b0 : decide (20 < (l0.length : Int)) = false := decide_eq_false c4
      have c4b1 : decide (20 < l0.length) = false := decide_eq_false (by omega)
      clear c4
      (first | rw [c4b0] | (simp only [i64_w, i32_w]; rw [c4b0]) | skip)
      replace H := Option.bind_eq_some_iff.mp H
      obtain ⟨t323, A50, H⟩ := H
      replace H : (spec_StepsCode.j0 k l0 a1 (!t323)) = some r := H
      have A5 := Aside0.mk A50
      clear A50
      have H' := Aside0.mk H
      clear H
      go_wp2_with (first | (go_at_call 50; (with_reducible refine (spec_l03Is.calls a1 1 8 t323 _ A5.out).mono ?_); rintro e w' ⟨rfl, ⟨nd, rfl⟩⟩; (try first | exact ⟨rfl, _, World.drewN_drewN _ _ _⟩ | exact ⟨rfl, _, Eq.trans (World.drewN_drewN _ _ _) (congrArg (World.drewN _) (Nat.add_assoc _ _ _))⟩)))
      repeat (go_quiet (first | (go_at_call 50; (with_reducible refine (spec_l03Is.calls a1 1 8 t323 _ A5.out).mono ?_); rintro e w' ⟨rfl, ⟨nd, rfl⟩⟩; (try first | exact ⟨rfl, _, World.drewN_drewN _ _ _⟩ | exact ⟨rfl, _, Eq.trans (World.drewN_drewN _ _ _) (congrArg (World.drewN _) (Nat.add_assoc _ _ _))⟩))); try go_wp2_with (first | (go_at_call 50; (with_reducible refine (spec_l03Is.calls a1 1 8 t323 _ A5.out).mono ?_); rintro e w' ⟨rfl, ⟨nd, rfl⟩⟩; (try first | exact ⟨rfl, _, World.drewN_drewN _ _ _⟩ | exact ⟨rfl, _, Eq.trans (World.drewN_drewN _ _ _) (congrArg (World.drewN _) (Nat.add_assoc _ _ _))⟩))))
      go_meet
      case rel => exact ⟨_, (!t323), (by first | rfl | (simp; done) | (simp [*]; done)), H', ⟨by first | omega | exact Nat.le_refl _⟩, ⟨by repeat (first | (with_reducible first | exact HB.out | apply below_alloc | apply pw_below_drewN | apply below_drew1) | exact HB.out)⟩⟩
  case rest =>
    clear HC3
    try clear p2
    try clear c3
    try clear c4
    try clear c4b0
    try clear c4b1
    obtain ⟨kq, x17_2, rfl, HA, HJ2, HB⟩ := hcut
    cases kq with
    | zero => exact absurd HA.out (by simp [spec_StepsCode.j0])
    | succ kj2 =>
      have H := HA.out
      clear HA
      simp only [spec_StepsCode.j0] at H
      by_cases c6 : x17_2 = true
      · subst c6
        have H1 : (some 1) = some r := by rw [if_pos rfl] at H; exact H
        clear H
        have H := H1
        clear H1
        obtain rfl := Option.some.inj H
        go_wp2
        repeat (go_quiet (fail); try go_wp2)
        go_ret
        exact ⟨by first | rfl | (simp [errW_none, errW_some] <;> rfl) | (simp [*, errW_none, errW_some] <;> rfl), by repeat (first | (with_reducible first | exact HB.out | apply below_alloc | apply pw_below_drewN | apply below_drew1) | exact HB.out)⟩
      · replace c6 := Bool.eq_false_iff.mpr c6
        subst c6
        have H1 : (spec_StepsCode.l0 kj2 l0 a1 0) = some r := by rw [if_neg (show ¬ (false = true) by decide)] at H; exact H
        clear H
        have H := H1
        clear H1
        have H' := Aside0.mk H
        clear H
        go_wp2
        repeat (go_quiet (fail); try go_wp2)
        go_loopg [5] kj2 (fun kq v5 w' => ∃ (x5_2 : Int), v5 = .int .i64 x5_2 ∧ Aside0 (spec_StepsCode.l0 kq l0 a1 x5_2 = some r) ∧ Aside0 (kq ≤ kj2) ∧ Aside0 (Below w.heap.size w w'))
        case atStart => exact ⟨(0), (by first | rfl | (simp; done) | (simp [*]; done)), H', ⟨Nat.le_refl _⟩, ⟨by repeat (first | (with_reducible first | exact HB.out | apply below_alloc | apply pw_below_drewN | apply below_drew1) | exact HB.out)⟩⟩
        case round =>
          clear H'
          try clear p2
          try clear c3
          try clear c4
          try clear c4b0
          try clear c4b1
          try clear c6
          try clear p2
          obtain ⟨x5_2, rfl, HA, HK2, HB⟩ := hrel
          cases gk with
          | zero => exact absurd HA.out (by simp [spec_StepsCode.l0])
          | succ k2 =>
            have H := HA.out
            clear HA
            simp only [spec_StepsCode.l0] at H
            by_cases c7 : x5_2 < (l0.length : Int)
            · rw [if_pos c7] at H
              have c7b0 : decide (x5_2 < (l0.length : Int)) = true := decide_eq_true c7
              clear c7
              by_cases c8 : 0 ≤ x5_2
              · rw [if_pos c8] at H
                have c8b0 : decide (0 ≤ x5_2) = true := decide_eq_true c8
                clear c8
                replace H := Option.bind_eq_some_iff.mp H
                obtain ⟨t325, A90, H⟩ := H
                replace H : (if t325 = true then (spec_StepsCode.l0 k2 l0 a1 (wrap64 (x5_2 + 1))) else (some 1)) = some r := H
                have A9 := Aside0.mk A90
                clear A90
                by_cases c10 : t325 = true
                · subst c10
                  have H1 : (spec_StepsCode.l0 k2 l0 a1 (wrap64 (x5_2 + 1))) = some r := by rw [if_pos rfl] at H; exact H
                  clear H
                  have H := H1
                  clear H1
                  have H' := Aside0.mk H
                  clear H
                  have p324 : 0 ≤ (x5_2 : Int) := of_decide_eq_true (by first | (with_reducible assumption) | assumption)
                  have q324 : x5_2 < (l0.length : Int) := of_decide_eq_true (by first | (with_reducible assumption) | assumption)
                  obtain ⟨ad324, e324, hx324_0, hx324_1, hx324_2, hx324_3⟩ := at_T26 HR0.out x5_2 p324 q324
                  cases e324
                  replace hx324_0 := (HB.out.cell (World.block_lt_of_cell? _ _ hx324_0)).trans hx324_0
                  replace hx324_1 := (HB.out.cell (World.block_lt_of_cell? _ _ hx324_1)).trans hx324_1
                  replace hx324_2 := (HB.out.cell (World.block_lt_of_cell? _ _ hx324_2)).trans hx324_2
                  replace hx324_3 := (HB.out.cell (World.block_lt_of_cell? _ _ hx324_3)).trans hx324_3
                  replace p324 := eq_true p324
                  replace q324 := eq_true q324
                  go_wp2_with (first | (go_at_call 14; (with_reducible refine (spec_StepRight.calls ((rd_T26 l0 x5_2).f0) ((rd_T26 l0 x5_2).f1) ((rd_T26 l0 x5_2).f2) ((rd_T26 l0 x5_2).f3) a1 true _ A9.out).mono ?_); rintro e w11 ⟨rfl, hb⟩; have n0_ := Aside0.mk (below_step (by repeat (first | (with_reducible first | exact HB.out | apply below_alloc | apply pw_below_drewN | apply below_drew1) | exact HB.out)) hb); clear HB; have HB := n0_; clear n0_; (try clear hb); (try clear hb2); (try clear hk); (try clear hi)))
                  repeat (go_quiet (first | (go_at_call 14; (with_reducible refine (spec_StepRight.calls ((rd_T26 l0 x5_2).f0) ((rd_T26 l0 x5_2).f1) ((rd_T26 l0 x5_2).f2) ((rd_T26 l0 x5_2).f3) a1 true _ A9.out).mono ?_); rintro e w11 ⟨rfl, hb⟩; have n0_ := Aside0.mk (below_step (by repeat (first | (with_reducible first | exact HB.out | apply below_alloc | apply pw_below_drewN | apply below_drew1) | exact HB.out)) hb); clear HB; have HB := n0_; clear n0_; (try clear hb); (try clear hb2); (try clear hk); (try clear hi))); try go_wp2_with (first | (go_at_call 14; (with_reducible refine (spec_StepRight.calls ((rd_T26 l0 x5_2).f0) ((rd_T26 l0 x5_2).f1) ((rd_T26 l0 x5_2).f2) ((rd_T26 l0 x5_2).f3) a1 true _ A9.out).mono ?_); rintro e w11 ⟨rfl, hb⟩; have n0_ := Aside0.mk (below_step (by repeat (first | (with_reducible first | exact HB.out | apply below_alloc | apply pw_below_drewN | apply below_drew1) | exact HB.out)) hb); clear HB; have HB := n0_; clear n0_; (try clear hb); (try clear hb2); (try clear hk); (try clear hi))))
                  go_roundg k2
                  case measure => have := HJ2.out; have := HK2.out; omega
                  case rel => exact ⟨(wrap64 (x5_2 + 1)), (by first | rfl | (simp; done) | (simp [*]; done)), H', ⟨by have := HJ2.out; have := HK2.out; omega⟩, ⟨by repeat (first | (with_reducible first | exact HB.out | apply below_alloc | apply pw_below_drewN | apply below_drew1) | exact HB.out)⟩⟩
                · replace c10 := Bool.eq_false_iff.mpr c10
                  subst c10
                  have H1 : (some 1) = some r := by rw [if_neg (show ¬ (false = true) by decide)] at H; exact H
                  clear H
                  have H := H1
                  clear H1
                  obtain rfl := Option.some.inj H
                  have p324 : 0 ≤ (x5_2 : Int) := of_decide_eq_true (by first | (with_reducible assumption) | assumption)
                  have q324 : x5_2 < (l0.length : Int) := of_decide_eq_true (by first | (with_reducible assumption) | assumption)
                  obtain ⟨ad324, e324, hx324_0, hx324_1, hx324_2, hx324_3⟩ := at_T26 HR0.out x5_2 p324 q324
                  cases e324
                  replace hx324_0 := (HB.out.cell (World.block_lt_of_cell? _ _ hx324_0)).trans hx324_0
                  replace hx324_1 := (HB.out.cell (World.block_lt_of_cell? _ _ hx324_1)).trans hx324_1
                  replace hx324_2 := (HB.out.cell (World.block_lt_of_cell? _ _ hx324_2)).trans hx324_2
                  replace hx324_3 := (HB.out.cell (World.block_lt_of_cell? _ _ hx324_3)).trans hx324_3
                  replace p324 := eq_true p324
                  replace q324 := eq_true q324
                  go_wp2_with (first | (go_at_call 14; (with_reducible refine (spec_StepRight.calls ((rd_T26 l0 x5_2).f0) ((rd_T26 l0 x5_2).f1) ((rd_T26 l0 x5_2).f2) ((rd_T26 l0 x5_2).f3) a1 false _ A9.out).mono ?_); rintro e w12 ⟨rfl, hb⟩; have n0_ := Aside0.mk (below_step (by repeat (first | (with_reducible first | exact HB.out | apply below_alloc | apply pw_below_drewN | apply below_drew1) | exact HB.out)) hb); clear HB; have HB := n0_; clear n0_; (try clear hb); (try clear hb2); (try clear hk); (try clear hi)))
                  repeat (go_quiet (first | (go_at_call 14; (with_reducible refine (spec_StepRight.calls ((rd_T26 l0 x5_2).f0) ((rd_T26 l0 x5_2).f1) ((rd_T26 l0 x5_2).f2) ((rd_T26 l0 x5_2).f3) a1 false _ A9.out).mono ?_); rintro e w12 ⟨rfl, hb⟩; have n0_ := Aside0.mk (below_step (by repeat (first | (with_reducible first | exact HB.out | apply below_alloc | apply pw_below_drewN | apply below_drew1) | exact HB.out)) hb); clear HB; have HB := n0_; clear n0_; (try clear hb); (try clear hb2); (try clear hk); (try clear hi))); try go_wp2_with (first | (go_at_call 14; (with_reducible refine (spec_StepRight.calls ((rd_T26 l0 x5_2).f0) ((rd_T26 l0 x5_2).f1) ((rd_T26 l0 x5_2).f2) ((rd_T26 l0 x5_2).f3) a1 false _ A9.out).mono ?_); rintro e w12 ⟨rfl, hb⟩; have n0_ := Aside0.mk (below_step (by repeat (first | (with_reducible first | exact HB.out | apply below_alloc | apply pw_below_drewN | apply below_drew1) | exact HB.out)) hb); clear HB; have HB := n0_; clear n0_; (try clear hb); (try clear hb2); (try clear hk); (try clear hi))))
                  go_ret
                  exact ⟨by first | rfl | (simp [errW_none, errW_some] <;> rfl) | (simp [*, errW_none, errW_some] <;> rfl), by repeat (first | (with_reducible first | exact HB.out | apply below_alloc | apply pw_below_drewN | apply below_drew1) | exact HB.out)⟩
              · rw [if_neg c8] at H
                exact absurd H (by simp)
            · rw [if_neg c7] at H
              have c7b0 : decide (x5_2 < (l0.length : Int)) = false := decide_eq_false c7
              clear c7
              have H' := Aside0.mk H
              clear H
              go_wp2
              repeat (go_quiet (fail); try go_wp2)
              go_loopg [6] k2 (fun kq v6 w' => ∃ (x6_3 : Int), v6 = .int .i64 x6_3 ∧ Aside0 (spec_StepsCode.l1 kq l0 x6_3 = some r) ∧ Aside0 (kq ≤ k2) ∧ Aside0 (Below w.heap.size w w'))
              case atStart => exact ⟨(0), (by first | rfl | (simp; done) | (simp [*]; done)), H', ⟨Nat.le_refl _⟩, ⟨by repeat (first | (with_reducible first | exact HB.out | apply below_alloc | apply pw_below_drewN | apply below_drew1) | exact HB.out)⟩⟩
              case round =>
                clear H'
                try clear c1
                try clear p2
                try clear c3
                try clear p3
                try clear q3
                try clear hx3
                try clear c4
                try clear c4b0
                try clear c4b1
                try clear c6
                try clear p6
                try clear c7
                try clear c7b0
                try clear c8
                try clear c8b0
                try clear c10
                try clear hx324_0
                try clear hx324_1
                try clear hx324_2
                try clear hx324_3
                try clear p2
                try clear p324
                try clear q324
                obtain ⟨x6_3, rfl, HA, HK3, HB⟩ := hrel
                cases gk with
                | zero => exact absurd HA.out (by simp [spec_StepsCode.l1])
                | succ k3 =>
                  have H := HA.out
                  clear HA
                  simp only [spec_StepsCode.l1] at H
                  by_cases c13 : x6_3 < (l0.length : Int)
                  · rw [if_pos c13] at H
                    have c13b0 : decide (x6_3 < (l0.length : Int)) = true := decide_eq_true c13
                    clear c13
                    have H' := Aside0.mk H
                    clear H
                    go_wp2
                    repeat (go_quiet (fail); try go_wp2)
                    go_loopg [7] k3 (fun kq v7 w' => ∃ (x7_4 : Int), v7 = .int .i64 x7_4 ∧ Aside0 (spec_StepsCode.l2 kq l0 x6_3 x7_4 = some r) ∧ Aside0 (kq ≤ k3) ∧ Aside0 (Below w.heap.size w w'))
                    case atStart => exact ⟨(0), (by first | rfl | (simp; done) | (simp [*]; done)), H', ⟨Nat.le_refl _⟩, ⟨by repeat (first | (with_reducible first | exact HB.out | apply below_alloc | apply pw_below_drewN | apply below_drew1) | exact HB.out)⟩⟩
                    case round =>
                      clear H'
                      try clear c1
                      try clear p2
                      try clear c3
                      try clear p3
                      try clear q3
                      try clear hx3
                      try clear c4
                      try clear c4b0
                      try clear c4b1
                      try clear c6
                      try clear p6
                      try clear c7
                      try clear c7b0
                      try clear c8
                      try clear c8b0
                      try clear c10
                      try clear c13
                      try clear c13b0
                      try clear hx324_0
                      try clear hx324_1
                      try clear hx324_2
                      try clear hx324_3
                      try clear p2
                      try clear p3
                      try clear p324
                      try clear p6
                      try clear q3
                      try clear q324
                      obtain ⟨x7_4, rfl, HA, HK4, HB⟩ := hrel
                      cases gk with
                      | zero => exact absurd HA.out (by simp [spec_StepsCode.l2])
                      | succ k4 =>
                        have H := HA.out
                        clear HA
                        simp only [spec_StepsCode.l2] at H
                        by_cases c14 : x7_4 < x6_3
                        · rw [if_pos c14] at H
                          have c14b0 : decide (x7_4 < x6_3) = true := decide_eq_true c14
                          clear c14
                          by_cases c15 : 0 ≤ x6_3
                          · rw [if_pos c15] at H
                            have c15b0 : decide (0 ≤ x6_3) = true := decide_eq_true c15
                            clear c15
                            by_cases c16 : x6_3 < (l0.length : Int)
                            · rw [if_pos c16] at H
                              have c16b0 : decide (x6_3 < (l0.length : Int)) = true := decide_eq_true c16
                              clear c16
                              by_cases c17 : ((rd_T26 l0 x6_3).f0) = 5
                              · rw [if_pos c17] at H
                                have c17b0 : (((rd_T26 l0 x6_3).f0) == 5) = true := beq_iff_eq.mpr c17
                                have c17b1 : (((rd_T26 l0 x6_3).f0) != 5) = false := bne_eq_false_iff_eq.mpr c17
                                clear c17
                                have H' := Aside0.mk H
                                clear H
                                have p326 : 0 ≤ (x6_3 : Int) := of_decide_eq_true (by first | (with_reducible assumption) | assumption)
                                have q326 : x6_3 < (l0.length : Int) := of_decide_eq_true (by first | (with_reducible assumption) | assumption)
                                obtain ⟨ad326, e326, hx326_0, hx326_1, hx326_2, hx326_3⟩ := at_T26 HR0.out x6_3 p326 q326
                                cases e326
                                replace hx326_0 := (HB.out.cell (World.block_lt_of_cell? _ _ hx326_0)).trans hx326_0
                                replace hx326_1 := (HB.out.cell (World.block_lt_of_cell? _ _ hx326_1)).trans hx326_1
                                replace hx326_2 := (HB.out.cell (World.block_lt_of_cell? _ _ hx326_2)).trans hx326_2
                                replace hx326_3 := (HB.out.cell (World.block_lt_of_cell? _ _ hx326_3)).trans hx326_3
                                replace p326 := eq_true p326
                                replace q326 := eq_true q326
                                go_wp2
                                repeat (go_quiet (fail); try go_wp2)
                                go_roundg k4
                                case measure => have := HJ2.out; have := HK2.out; have := HK3.out; have := HK4.out; omega
                                case rel => exact ⟨(wrap64 (x7_4 + 1)), (by first | rfl | (simp; done) | (simp [*]; done)), H', ⟨by have := HJ2.out; have := HK2.out; have := HK3.out; have := HK4.out; omega⟩, ⟨by repeat (first | (with_reducible first | exact HB.out | apply below_alloc | apply pw_below_drewN | apply below_drew1) | exact HB.out)⟩⟩
                              · rw [if_neg c17] at H
                                have c17b0 : (((rd_T26 l0 x6_3).f0) == 5) = false := beq_eq_false_iff_ne.mpr c17
                                have c17b1 : (((rd_T26 l0 x6_3).f0) != 5) = true := bne_iff_ne.mpr c17
                                by_cases c18 : 0 ≤ x7_4
                                · rw [if_pos c18] at H
                                  have c18b0 : decide (0 ≤ x7_4) = true := decide_eq_true c18
                                  clear c18
                                  by_cases c19 : x7_4 < (l0.length : Int)
                                  · rw [if_pos c19] at H
                                    have c19b0 : decide (x7_4 < (l0.length : Int)) = true := decide_eq_true c19
                                    clear c19
                                    by_cases c20 : ((rd_T26 l0 x7_4).f0) = 5
                                    · rw [if_pos c20] at H
                                      have c20b0 : (((rd_T26 l0 x7_4).f0) == 5) = true := beq_iff_eq.mpr c20
                                      have c20b1 : (((rd_T26 l0 x7_4).f0) != 5) = false := bne_eq_false_iff_eq.mpr c20
                                      clear c20
                                      have H' := Aside0.mk H
                                      clear H
                                      have p326 : 0 ≤ (x6_3 : Int) := of_decide_eq_true (by first | (with_reducible assumption) | assumption)
                                      have q326 : x6_3 < (l0.length : Int) := of_decide_eq_true (by first | (with_reducible assumption) | assumption)
                                      obtain ⟨ad326, e326, hx326_0, hx326_1, hx326_2, hx326_3⟩ := at_T26 HR0.out x6_3 p326 q326
                                      cases e326
                                      replace hx326_0 := (HB.out.cell (World.block_lt_of_cell? _ _ hx326_0)).trans hx326_0
                                      replace hx326_1 := (HB.out.cell (World.block_lt_of_cell? _ _ hx326_1)).trans hx326_1
                                      replace hx326_2 := (HB.out.cell (World.block_lt_of_cell? _ _ hx326_2)).trans hx326_2
                                      replace hx326_3 := (HB.out.cell (World.block_lt_of_cell? _ _ hx326_3)).trans hx326_3
                                      replace p326 := eq_true p326
                                      replace q326 := eq_true q326
                                      have p327 : 0 ≤ (x7_4 : Int) := of_decide_eq_true (by first | (with_reducible assumption) | assumption)
                                      have q327 : x7_4 < (l0.length : Int) := of_decide_eq_true (by first | (with_reducible assumption) | assumption)
                                      obtain ⟨ad327, e327, hx327_0, hx327_1, hx327_2, hx327_3⟩ := at_T26 HR0.out x7_4 p327 q327
                                      obtain rfl : ad326 = ad327 := (by injection e327)
                                      replace hx327_0 := (HB.out.cell (World.block_lt_of_cell? _ _ hx327_0)).trans hx327_0
                                      replace hx327_1 := (HB.out.cell (World.block_lt_of_cell? _ _ hx327_1)).trans hx327_1
                                      replace hx327_2 := (HB.out.cell (World.block_lt_of_cell? _ _ hx327_2)).trans hx327_2
                                      replace hx327_3 := (HB.out.cell (World.block_lt_of_cell? _ _ hx327_3)).trans hx327_3
                                      replace p327 := eq_true p327
                                      replace q327 := eq_true q327
                                      go_wp2
                                      repeat (go_quiet (fail); try go_wp2)
                                      go_roundg k4
                                      case measure => have := HJ2.out; have := HK2.out; have := HK3.out; have := HK4.out; omega
                                      case rel => exact ⟨(wrap64 (x7_4 + 1)), (by first | rfl | (simp; done) | (simp [*]; done)), H', ⟨by have := HJ2.out; have := HK2.out; have := HK3.out; have := HK4.out; omega⟩, ⟨by repeat (first | (with_reducible first | exact HB.out | apply below_alloc | apply pw_below_drewN | apply below_drew1) | exact HB.out)⟩⟩
                                    · rw [if_neg c20] at H
                                      have c20b0 : (((rd_T26 l0 x7_4).f0) == 5) = false := beq_eq_false_iff_ne.mpr c20
                                      have c20b1 : (((rd_T26 l0 x7_4).f0) != 5) = true := bne_iff_ne.mpr c20
                                      by_cases c21 : ((rd_T26 l0 x6_3).f1) = ((rd_T26 l0 x7_4).f1)
                                      · rw [if_pos c21] at H
                                        have c21b0 : (((rd_T26 l0 x6_3).f1) == ((rd_T26 l0 x7_4).f1)) = true := beq_iff_eq.mpr c21
                                        have c21b1 : (((rd_T26 l0 x6_3).f1) != ((rd_T26 l0 x7_4).f1)) = false := bne_eq_false_iff_eq.mpr c21
                                        clear c21
                                        obtain rfl := Option.some.inj H
                                        have p326 : 0 ≤ (x6_3 : Int) := of_decide_eq_true (by first | (with_reducible assumption) | assumption)
                                        have q326 : x6_3 < (l0.length : Int) := of_decide_eq_true (by first | (with_reducible assumption) | assumption)
                                        obtain ⟨ad326, e326, hx326_0, hx326_1, hx326_2, hx326_3⟩ := at_T26 HR0.out x6_3 p326 q326
                                        cases e326
                                        replace hx326_0 := (HB.out.cell (World.block_lt_of_cell? _ _ hx326_0)).trans hx326_0
                                        replace hx326_1 := (HB.out.cell (World.block_lt_of_cell? _ _ hx326_1)).trans hx326_1
                                        replace hx326_2 := (HB.out.cell (World.block_lt_of_cell? _ _ hx326_2)).trans hx326_2
                                        replace hx326_3 := (HB.out.cell (World.block_lt_of_cell? _ _ hx326_3)).trans hx326_3
                                        replace p326 := eq_true p326
                                        replace q326 := eq_true q326
                                        have p327 : 0 ≤ (x7_4 : Int) := of_decide_eq_true (by first | (with_reducible assumption) | assumption)
                                        have q327 : x7_4 < (l0.length : Int) := of_decide_eq_true (by first | (with_reducible assumption) | assumption)
                                        obtain ⟨ad327, e327, hx327_0, hx327_1, hx327_2, hx327_3⟩ := at_T26 HR0.out x7_4 p327 q327
                                        obtain rfl : ad326 = ad327 := (by injection e327)
                                        replace hx327_0 := (HB.out.cell (World.block_lt_of_cell? _ _ hx327_0)).trans hx327_0
                                        replace hx327_1 := (HB.out.cell (World.block_lt_of_cell? _ _ hx327_1)).trans hx327_1
                                        replace hx327_2 := (HB.out.cell (World.block_lt_of_cell? _ _ hx327_2)).trans hx327_2
                                        replace hx327_3 := (HB.out.cell (World.block_lt_of_cell? _ _ hx327_3)).trans hx327_3
                                        replace p327 := eq_true p327
                                        replace q327 := eq_true q327
                                        have p328 : 0 ≤ (x6_3 : Int) := of_decide_eq_true (by first | (with_reducible assumption) | assumption)
                                        have q328 : x6_3 < (l0.length : Int) := of_decide_eq_true (by first | (with_reducible assumption) | assumption)
                                        obtain ⟨ad328, e328, hx328_0, hx328_1, hx328_2, hx328_3⟩ := at_T26 HR0.out x6_3 p328 q328
                                        obtain rfl : ad326 = ad328 := (by injection e328)
                                        replace hx328_0 := (HB.out.cell (World.block_lt_of_cell? _ _ hx328_0)).trans hx328_0
                                        replace hx328_1 := (HB.out.cell (World.block_lt_of_cell? _ _ hx328_1)).trans hx328_1
                                        replace hx328_2 := (HB.out.cell (World.block_lt_of_cell? _ _ hx328_2)).trans hx328_2
                                        replace hx328_3 := (HB.out.cell (World.block_lt_of_cell? _ _ hx328_3)).trans hx328_3
                                        replace p328 := eq_true p328
                                        replace q328 := eq_true q328
                                        have p329 : 0 ≤ (x7_4 : Int) := of_decide_eq_true (by first | (with_reducible assumption) | assumption)
                                        have q329 : x7_4 < (l0.length : Int) := of_decide_eq_true (by first | (with_reducible assumption) | assumption)
                                        obtain ⟨ad329, e329, hx329_0, hx329_1, hx329_2, hx329_3⟩ := at_T26 HR0.out x7_4 p329 q329
                                        obtain rfl : ad326 = ad329 := (by injection e329)
                                        replace hx329_0 := (HB.out.cell (World.block_lt_of_cell? _ _ hx329_0)).trans hx329_0
                                        replace hx329_1 := (HB.out.cell (World.block_lt_of_cell? _ _ hx329_1)).trans hx329_1
                                        replace hx329_2 := (HB.out.cell (World.block_lt_of_cell? _ _ hx329_2)).trans hx329_2
                                        replace hx329_3 := (HB.out.cell (World.block_lt_of_cell? _ _ hx329_3)).trans hx329_3
                                        replace p329 := eq_true p329
                                        replace q329 := eq_true q329
                                        go_wp2
                                        repeat (go_quiet (fail); try go_wp2)
                                        go_ret
                                        exact ⟨by first | rfl | (simp [errW_none, errW_some] <;> rfl) | (simp [*, errW_none, errW_some] <;> rfl), by repeat (first | (with_reducible first | exact HB.out | apply below_alloc | apply pw_below_drewN | apply below_drew1) | exact HB.out)⟩
                                      · rw [if_neg c21] at H
                                        have c21b0 : (((rd_T26 l0 x6_3).f1) == ((rd_T26 l0 x7_4).f1)) = false := beq_eq_false_iff_ne.mpr c21
                                        have c21b1 : (((rd_T26 l0 x6_3).f1) != ((rd_T26 l0 x7_4).f1)) = true := bne_iff_ne.mpr c21
                                        have H' := Aside0.mk H
                                        clear H
                                        have p326 : 0 ≤ (x6_3 : Int) := of_decide_eq_true (by first | (with_reducible assumption) | assumption)
                                        have q326 : x6_3 < (l0.length : Int) := of_decide_eq_true (by first | (with_reducible assumption) | assumption)
                                        obtain ⟨ad326, e326, hx326_0, hx326_1, hx326_2, hx326_3⟩ := at_T26 HR0.out x6_3 p326 q326
                                        cases e326
                                        replace hx326_0 := (HB.out.cell (World.block_lt_of_cell? _ _ hx326_0)).trans hx326_0
                                        replace hx326_1 := (HB.out.cell (World.block_lt_of_cell? _ _ hx326_1)).trans hx326_1
                                        replace hx326_2 := (HB.out.cell (World.block_lt_of_cell? _ _ hx326_2)).trans hx326_2
                                        replace hx326_3 := (HB.out.cell (World.block_lt_of_cell? _ _ hx326_3)).trans hx326_3
                                        replace p326 := eq_true p326
                                        replace q326 := eq_true q326
                                        have p327 : 0 ≤ (x7_4 : Int) := of_decide_eq_true (by first | (with_reducible assumption) | assumption)
                                        have q327 : x7_4 < (l0.length : Int) := of_decide_eq_true (by first | (with_reducible assumption) | assumption)
                                        obtain ⟨ad327, e327, hx327_0, hx327_1, hx327_2, hx327_3⟩ := at_T26 HR0.out x7_4 p327 q327
                                        obtain rfl : ad326 = ad327 := (by injection e327)
                                        replace hx327_0 := (HB.out.cell (World.block_lt_of_cell? _ _ hx327_0)).trans hx327_0
                                        replace hx327_1 := (HB.out.cell (World.block_lt_of_cell? _ _ hx327_1)).trans hx327_1
                                        replace hx327_2 := (HB.out.cell (World.block_lt_of_cell? _ _ hx327_2)).trans hx327_2
                                        replace hx327_3 := (HB.out.cell (World.block_lt_of_cell? _ _ hx327_3)).trans hx327_3
                                        replace p327 := eq_true p327
                                        replace q327 := eq_true q327
                                        have p328 : 0 ≤ (x6_3 : Int) := of_decide_eq_true (by first | (with_reducible assumption) | assumption)
                                        have q328 : x6_3 < (l0.length : Int) := of_decide_eq_true (by first | (with_reducible assumption) | assumption)
                                        obtain ⟨ad328, e328, hx328_0, hx328_1, hx328_2, hx328_3⟩ := at_T26 HR0.out x6_3 p328 q328
                                        obtain rfl : ad326 = ad328 := (by injection e328)
                                        replace hx328_0 := (HB.out.cell (World.block_lt_of_cell? _ _ hx328_0)).trans hx328_0
                                        replace hx328_1 := (HB.out.cell (World.block_lt_of_cell? _ _ hx328_1)).trans hx328_1
                                        replace hx328_2 := (HB.out.cell (World.block_lt_of_cell? _ _ hx328_2)).trans hx328_2
                                        replace hx328_3 := (HB.out.cell (World.block_lt_of_cell? _ _ hx328_3)).trans hx328_3
                                        replace p328 := eq_true p328
                                        replace q328 := eq_true q328
                                        have p329 : 0 ≤ (x7_4 : Int) := of_decide_eq_true (by first | (with_reducible assumption) | assumption)
                                        have q329 : x7_4 < (l0.length : Int) := of_decide_eq_true (by first | (with_reducible assumption) | assumption)
                                        obtain ⟨ad329, e329, hx329_0, hx329_1, hx329_2, hx329_3⟩ := at_T26 HR0.out x7_4 p329 q329
                                        obtain rfl : ad326 = ad329 := (by injection e329)
                                        replace hx329_0 := (HB.out.cell (World.block_lt_of_cell? _ _ hx329_0)).trans hx329_0
                                        replace hx329_1 := (HB.out.cell (World.block_lt_of_cell? _ _ hx329_1)).trans hx329_1
                                        replace hx329_2 := (HB.out.cell (World.block_lt_of_cell? _ _ hx329_2)).trans hx329_2
                                        replace hx329_3 := (HB.out.cell (World.block_lt_of_cell? _ _ hx329_3)).trans hx329_3
                                        replace p329 := eq_true p329
                                        replace q329 := eq_true q329
                                        go_wp2
                                        repeat (go_quiet (fail); try go_wp2)
                                        go_roundg k4
                                        case measure => have := HJ2.out; have := HK2.out; have := HK3.out; have := HK4.out; omega
                                        case rel => exact ⟨(wrap64 (x7_4 + 1)), (by first | rfl | (simp; done) | (simp [*]; done)), H', ⟨by have := HJ2.out; have := HK2.out; have := HK3.out; have := HK4.out; omega⟩, ⟨by repeat (first | (with_reducible first | exact HB.out | apply below_alloc | apply pw_below_drewN | apply below_drew1) | exact HB.out)⟩⟩
                                  · rw [if_neg c19] at H
                                    exact absurd H (by simp)
                                · rw [if_neg c18] at H
                                  exact absurd H (by simp)
                            · rw [if_neg c16] at H
                              exact absurd H (by simp)
                          · rw [if_neg c15] at H
                            exact absurd H (by simp)
                        · rw [if_neg c14] at H
                          have c14b0 : decide (x7_4 < x6_3) = false := decide_eq_false c14
                          clear c14
                          have H' := Aside0.mk H
                          clear H
                          go_wp2
                          repeat (go_quiet (fail); try go_wp2)
                          go_roundg k4
                          case measure => have := HJ2.out; have := HK2.out; have := HK3.out; have := HK4.out; omega
                          case rel => exact ⟨(wrap64 (x6_3 + 1)), (by first | rfl | (simp; done) | (simp [*]; done)), H', ⟨by have := HJ2.out; have := HK2.out; have := HK3.out; have := HK4.out; omega⟩, ⟨by repeat (first | (with_reducible first | exact HB.out | apply below_alloc | apply pw_below_drewN | apply below_drew1) | exact HB.out)⟩⟩
                  · rw [if_neg c13] at H
                    have c13b0 : decide (x6_3 < (l0.length : Int)) = false := decide_eq_false c13
                    clear c13
                    have H' := Aside0.mk H
                    clear H
                    go_wp2
                    repeat (go_quiet (fail); try go_wp2)
                    go_loopg [8, 9] k3 (fun kq v8 v9 w' => ∃ (x8_4 : Int) (x9_4 : Int), v8 = .int .i64 x8_4 ∧ v9 = .int .i64 x9_4 ∧ Aside0 (spec_StepsCode.l3 kq l0 x8_4 x9_4 = some r) ∧ Aside0 (kq ≤ k3) ∧ Aside0 (Below w.heap.size w w'))
                    case atStart => exact ⟨((-1)), (0), (by first | rfl | (simp; done) | (simp [*]; done)), (by first | rfl | (simp; done) | (simp [*]; done)), H', ⟨Nat.le_refl _⟩, ⟨by repeat (first | (with_reducible first | exact HB.out | apply below_alloc | apply pw_below_drewN | apply below_drew1) | exact HB.out)⟩⟩
                    case round =>
                      clear H'
                      try clear c1
                      try clear c2
                      try clear p2
                      try clear c3
                      try clear p3
                      try clear q3
                      try clear hx3
                      try clear c4
                      try clear c4b0
                      try clear c4b1
                      try clear c6
                      try clear p6
                      try clear c7
                      try clear c7b0
                      try clear c8
                      try clear c8b0
                      try clear c10
                      try clear c13
                      try clear c13b0
                      try clear c14
                      try clear c14b0
                      try clear c15
                      try clear c15b0
                      try clear c16
                      try clear c16b0
                      try clear c17
                      try clear c17b0
                      try clear c17b1
                      try clear c18
                      try clear c18b0
                      try clear c19
                      try clear c19b0
                      try clear c20
                      try clear c20b0
                      try clear c20b1
                      try clear c21
                      try clear c21b0
                      try clear c21b1
                      try clear hx324_0
                      try clear hx324_1
                      try clear hx324_2
                      try clear hx324_3
                      try clear hx326_0
                      try clear hx326_1
                      try clear hx326_2
                      try clear hx326_3
                      try clear hx327_0
                      try clear hx327_1
                      try clear hx327_2
                      try clear hx327_3
                      try clear hx328_0
                      try clear hx328_1
                      try clear hx328_2
                      try clear hx328_3
                      try clear hx329_0
                      try clear hx329_1
                      try clear hx329_2
                      try clear hx329_3
                      try clear p2
                      try clear p3
                      try clear p324
                      try clear p326
                      try clear p327
                      try clear p328
                      try clear p329
                      try clear p6
                      try clear q3
                      try clear q324
                      try clear q326
                      try clear q327
                      try clear q328
                      try clear q329
                      obtain ⟨x8_4, x9_4, rfl, rfl, HA, HK4, HB⟩ := hrel
                      cases gk with
                      | zero => exact absurd HA.out (by simp [spec_StepsCode.l3])
                      | succ k4 =>
                        have H := HA.out
                        clear HA
                        simp only [spec_StepsCode.l3] at H
                        by_cases c22 : x9_4 < (l0.length : Int)
                        · rw [if_pos c22] at H
                          have c22b0 : decide (x9_4 < (l0.length : Int)) = true := decide_eq_true c22
                          clear c22
                          by_cases c23 : 0 ≤ x9_4
                          · rw [if_pos c23] at H
                            have c23b0 : decide (0 ≤ x9_4) = true := decide_eq_true c23
                            clear c23
                            by_cases c24 : ((rd_T26 l0 x9_4).f0) = 5
                            · rw [if_pos c24] at H
                              have c24b0 : (((rd_T26 l0 x9_4).f0) == 5) = true := beq_iff_eq.mpr c24
                              have c24b1 : (((rd_T26 l0 x9_4).f0) != 5) = false := bne_eq_false_iff_eq.mpr c24
                              clear c24
                              by_cases c25 : ((rd_T26 l0 x9_4).f2) ≤ x8_4
                              · rw [if_pos c25] at H
                                have c25b0 : decide (((rd_T26 l0 x9_4).f2) ≤ x8_4) = true := decide_eq_true c25
                                clear c25
                                obtain rfl := Option.some.inj H
                                have p330 : 0 ≤ (x9_4 : Int) := of_decide_eq_true (by first | (with_reducible assumption) | assumption)
                                have q330 : x9_4 < (l0.length : Int) := of_decide_eq_true (by first | (with_reducible assumption) | assumption)
                                obtain ⟨ad330, e330, hx330_0, hx330_1, hx330_2, hx330_3⟩ := at_T26 HR0.out x9_4 p330 q330
                                cases e330
                                replace hx330_0 := (HB.out.cell (World.block_lt_of_cell? _ _ hx330_0)).trans hx330_0
                                replace hx330_1 := (HB.out.cell (World.block_lt_of_cell? _ _ hx330_1)).trans hx330_1
                                replace hx330_2 := (HB.out.cell (World.block_lt_of_cell? _ _ hx330_2)).trans hx330_2
                                replace hx330_3 := (HB.out.cell (World.block_lt_of_cell? _ _ hx330_3)).trans hx330_3
                                replace p330 := eq_true p330
                                replace q330 := eq_true q330
                                have p331 : 0 ≤ (x9_4 : Int) := of_decide_eq_true (by first | (with_reducible assumption) | assumption)
                                have q331 : x9_4 < (l0.length : Int) := of_decide_eq_true (by first | (with_reducible assumption) | assumption)
                                obtain ⟨ad331, e331, hx331_0, hx331_1, hx331_2, hx331_3⟩ := at_T26 HR0.out x9_4 p331 q331
                                obtain rfl : ad330 = ad331 := (by injection e331)
                                replace hx331_0 := (HB.out.cell (World.block_lt_of_cell? _ _ hx331_0)).trans hx331_0
                                replace hx331_1 := (HB.out.cell (World.block_lt_of_cell? _ _ hx331_1)).trans hx331_1
                                replace hx331_2 := (HB.out.cell (World.block_lt_of_cell? _ _ hx331_2)).trans hx331_2
                                replace hx331_3 := (HB.out.cell (World.block_lt_of_cell? _ _ hx331_3)).trans hx331_3
                                replace p331 := eq_true p331
                                replace q331 := eq_true q331
                                go_wp2
                                repeat (go_quiet (fail); try go_wp2)
                                go_ret
                                exact ⟨by first | rfl | (simp [errW_none, errW_some] <;> rfl) | (simp [*, errW_none, errW_some] <;> rfl), by repeat (first | (with_reducible first | exact HB.out | apply below_alloc | apply pw_below_drewN | apply below_drew1) | exact HB.out)⟩
                              · rw [if_neg c25] at H
                                have c25b0 : decide (((rd_T26 l0 x9_4).f2) ≤ x8_4) = false := decide_eq_false c25
                                clear c25
                                have H' := Aside0.mk H
                                clear H
                                have p330 : 0 ≤ (x9_4 : Int) := of_decide_eq_true (by first | (with_reducible assumption) | assumption)
                                have q330 : x9_4 < (l0.length : Int) := of_decide_eq_true (by first | (with_reducible assumption) | assumption)
                                obtain ⟨ad330, e330, hx330_0, hx330_1, hx330_2, hx330_3⟩ := at_T26 HR0.out x9_4 p330 q330
                                cases e330
                                replace hx330_0 := (HB.out.cell (World.block_lt_of_cell? _ _ hx330_0)).trans hx330_0
                                replace hx330_1 := (HB.out.cell (World.block_lt_of_cell? _ _ hx330_1)).trans hx330_1
                                replace hx330_2 := (HB.out.cell (World.block_lt_of_cell? _ _ hx330_2)).trans hx330_2
                                replace hx330_3 := (HB.out.cell (World.block_lt_of_cell? _ _ hx330_3)).trans hx330_3
                                replace p330 := eq_true p330
                                replace q330 := eq_true q330
                                have p331 : 0 ≤ (x9_4 : Int) := of_decide_eq_true (by first | (with_reducible assumption) | assumption)
                                have q331 : x9_4 < (l0.length : Int) := of_decide_eq_true (by first | (with_reducible assumption) | assumption)
                                obtain ⟨ad331, e331, hx331_0, hx331_1, hx331_2, hx331_3⟩ := at_T26 HR0.out x9_4 p331 q331
                                obtain rfl : ad330 = ad331 := (by injection e331)
                                replace hx331_0 := (HB.out.cell (World.block_lt_of_cell? _ _ hx331_0)).trans hx331_0
                                replace hx331_1 := (HB.out.cell (World.block_lt_of_cell? _ _ hx331_1)).trans hx331_1
                                replace hx331_2 := (HB.out.cell (World.block_lt_of_cell? _ _ hx331_2)).trans hx331_2
                                replace hx331_3 := (HB.out.cell (World.block_lt_of_cell? _ _ hx331_3)).trans hx331_3
                                replace p331 := eq_true p331
                                replace q331 := eq_true q331
                                have p332 : 0 ≤ (x9_4 : Int) := of_decide_eq_true (by first | (with_reducible assumption) | assumption)
                                have q332 : x9_4 < (l0.length : Int) := of_decide_eq_true (by first | (with_reducible assumption) | assumption)
                                obtain ⟨ad332, e332, hx332_0, hx332_1, hx332_2, hx332_3⟩ := at_T26 HR0.out x9_4 p332 q332
                                obtain rfl : ad330 = ad332 := (by injection e332)
                                replace hx332_0 := (HB.out.cell (World.block_lt_of_cell? _ _ hx332_0)).trans hx332_0
                                replace hx332_1 := (HB.out.cell (World.block_lt_of_cell? _ _ hx332_1)).trans hx332_1
                                replace hx332_2 := (HB.out.cell (World.block_lt_of_cell? _ _ hx332_2)).trans hx332_2
                                replace hx332_3 := (HB.out.cell (World.block_lt_of_cell? _ _ hx332_3)).trans hx332_3
                                replace p332 := eq_true p332
                                replace q332 := eq_true q332
                                go_wp2
                                repeat (go_quiet (fail); try go_wp2)
                                go_roundg k4
                                case measure => have := HJ2.out; have := HK2.out; have := HK3.out; have := HK4.out; omega
                                case rel => exact ⟨((rd_T26 l0 x9_4).f2), (wrap64 (x9_4 + 1)), (by first | rfl | (simp; done) | (simp [*]; done)), (by first | rfl | (simp; done) | (simp [*]; done)), H', ⟨by have := HJ2.out; have := HK2.out; have := HK3.out; have := HK4.out; omega⟩, ⟨by repeat (first | (with_reducible first | exact HB.out | apply below_alloc | apply pw_below_drewN | apply below_drew1) | exact HB.out)⟩⟩
                            · rw [if_neg c24] at H
                              have c24b0 : (((rd_T26 l0 x9_4).f0) == 5) = false := beq_eq_false_iff_ne.mpr c24
                              have c24b1 : (((rd_T26 l0 x9_4).f0) != 5) = true := bne_iff_ne.mpr c24
                              have H' := Aside0.mk H
                              clear H
                              have p330 : 0 ≤ (x9_4 : Int) := of_decide_eq_true (by first | (with_reducible assumption) | assumption)
                              have q330 : x9_4 < (l0.length : Int) := of_decide_eq_true (by first | (with_reducible assumption) | assumption)
                              obtain ⟨ad330, e330, hx330_0, hx330_1, hx330_2, hx330_3⟩ := at_T26 HR0.out x9_4 p330 q330
                              cases e330
                              replace hx330_0 := (HB.out.cell (World.block_lt_of_cell? _ _ hx330_0)).trans hx330_0
                              replace hx330_1 := (HB.out.cell (World.block_lt_of_cell? _ _ hx330_1)).trans hx330_1
                              replace hx330_2 := (HB.out.cell (World.block_lt_of_cell? _ _ hx330_2)).trans hx330_2
                              replace hx330_3 := (HB.out.cell (World.block_lt_of_cell? _ _ hx330_3)).trans hx330_3
                              replace p330 := eq_true p330
                              replace q330 := eq_true q330
                              go_wp2
                              repeat (go_quiet (fail); try go_wp2)
                              go_roundg k4
                              case measure => have := HJ2.out; have := HK2.out; have := HK3.out; have := HK4.out; omega
                              case rel => exact ⟨(x8_4), (wrap64 (x9_4 + 1)), (by first | rfl | (simp; done) | (simp [*]; done)), (by first | rfl | (simp; done) | (simp [*]; done)), H', ⟨by have := HJ2.out; have := HK2.out; have := HK3.out; have := HK4.out; omega⟩, ⟨by repeat (first | (with_reducible first | exact HB.out | apply below_alloc | apply pw_below_drewN | apply below_drew1) | exact HB.out)⟩⟩
                          · rw [if_neg c23] at H
                            exact absurd H (by simp)
                        · rw [if_neg c22] at H
                          have c22b0 : decide (x9_4 < (l0.length : Int)) = false := decide_eq_false c22
                          clear c22
                          obtain rfl := Option.some.inj H
                          go_wp2
                          repeat (go_quiet (fail); try go_wp2)
                          go_ret
                          exact ⟨by first | rfl | (simp [errW_none, errW_some] <;> rfl) | (simp [*, errW_none, errW_some] <;> rfl), by repeat (first | (with_reducible first | exact HB.out | apply below_alloc | apply pw_below_drewN | apply below_drew1) | exact HB.out)⟩

/-! ### impl_touches: function 91 -/
def impl_touches.is (b : Int) (x : S26) : Bool := x.f0 != 5 && x.f1 == b
def impl_touches.f (l0 : List S26) (a1 : Int) : Option Int := if l0.length ≤ 9223372036854775807 then some (idxFrom (impl_touches.is a1) l0 0) else none
theorem impl_touches.pred (a1 : Int) (gb : Nat) (W0 W : World) (hc : W0.cell? ⟨gb, 0, none⟩ = some (.int .i64 a1)) (hB : Below W0.heap.size W0 W) (x : S26) :
    Calls Try.prog 105 (#[.agg #[.int .i64 x.f0, .int .i64 x.f1, .int .i64 x.f2, .string x.f3]] ++ #[.pointer (some ⟨gb, 0, none⟩)]) W fun e w' => e = .returned (.bool (impl_touches.is a1 x)) ∧ Below W0.heap.size W0 w' := by
  have hc' := (hB.cell (World.block_lt_of_cell? _ _ hc)).trans hc
  have hc2 : ∀ o, (W.alloc o).cell? ⟨gb, 0, none⟩ = some (.int .i64 a1) := fun o => (Below.cell (below_alloc (Below.refl _ W) o) (World.block_lt_of_cell? _ _ hc')).trans hc'
  show Calls Try.prog 105 #[.agg #[.int .i64 x.f0, .int .i64 x.f1, .int .i64 x.f2, .string x.f3], .pointer (some ⟨gb, 0, none⟩)] W _
  have HB := Aside0.mk hB
  clear hB hc
  unfold impl_touches.is
  rcases (show ((x.f0 == 5) = true ∧ (x.f0 != 5) = false) ∨ ((x.f0 == 5) = false ∧ (x.f0 != 5) = true) by by_cases h : x.f0 = 5 <;> simp [h]) with ⟨b0, b1⟩ | ⟨b0, b1⟩
  all_goals
    go_enter Try.func105, Try.ntmps105
    go_wp2
    go_ret
    exact ⟨by first | rfl | (simp only [b1, Bool.true_and, Bool.false_and]; rfl), by repeat (first | exact HB.out | apply pw_below_drewN | apply below_drew1 | apply below_alloc)⟩
theorem impl_touches.calls (A0 : Option Addr) (c0 : Nat) (l0 : List S26) (a1 : Int) (r : Int) (w : World) (hr0 : Kd.C k26 w A0 l0.length l0) (hc0 : l0.length ≤ c0) (h : impl_touches.f l0 a1 = some r) :
    Calls Try.prog 91 #[.slice A0 l0.length c0, .int .i64 a1] w fun e w' => e = .returned (.int .i64 r) ∧ Below w.heap.size w w' := by
  unfold impl_touches.f at h
  by_cases hbig : l0.length ≤ 9223372036854775807
  · rw [if_pos hbig] at h
    obtain rfl := Option.some.inj h
    clear h
    have eg : ∀ args w, (callFunc 105 args).run Try.prog w = .ok (.enter 105 args) w := enters_of Try.func105 (by kernel_rfl) rfl
    have hcon := fun (W : World) (hR : Kd.C k26 W A0 l0.length l0) (gb : Nat) (hc : W.cell? ⟨gb, 0, none⟩ = some (.int .i64 a1)) => slices_IndexFunc_26.calls (fun W' => Below W.heap.size W W') (impl_touches.is a1) 105 #[.pointer (some ⟨gb, 0, none⟩)] eg A0 c0 l0 W hR hc0 hbig (Below.refl _ _) (fun _ h => h) (fun W' hb x _ => impl_touches.pred a1 gb W W' hc hb x)
    have HR0 := Aside0.mk hr0
    clear hr0
    go_enter Try.func91, Try.ntmps91
    go_wp2_with (go_at_call 104; refine (hcon _ (by repeat (first | exact HR0.out | (with_reducible refine Kd.C_alloc ?_ _) | (with_reducible refine Kd.C_drewN ?_ _) | (with_reducible refine Kd.C_drew ?_))) _ (by go_simp)).mono ?_; rintro e w' ⟨rfl, hb'⟩)
    go_ret
    exact ⟨rfl, below_step (by repeat (first | exact Below.refl _ _ | apply pw_below_drewN | apply below_drew1 | apply below_alloc)) hb'⟩
  · rw [if_neg hbig] at h; cases h


/-! ### impl_stepsCode: function 62 -/
set_option maxHeartbeats 8000000 in
theorem slices_ContainsFunc_26.calls (I : World → Prop) (p : S26 → Bool) (g : Nat) (cap : Array Value) (eg : ∀ args w, (callFunc g args).run Try.prog w = .ok (.enter g args) w) (Ad : Option Addr) (c : Nat) (l : List S26) (w : World)
    (hR : Kd.C k26 w Ad l.length l) (hc : l.length ≤ c) (hbig : l.length ≤ 9223372036854775807) (hw : I w) (hI : ∀ W, I W → Below w.heap.size w W)
    (hp : ∀ (W : World), I W → ∀ x ∈ l, Calls Try.prog g (#[.agg #[.int .i64 x.f0, .int .i64 x.f1, .int .i64 x.f2, .string x.f3]] ++ cap) W fun e w' => e = .returned (.bool (p x)) ∧ I w') :
    Calls Try.prog 89 #[.slice Ad l.length c, .func (.func g) #[] cap] w fun e w' => e = .returned (.bool (l.any p)) ∧ I w' := by
  have hcon := slices_IndexFunc_26.calls I p g cap eg Ad c l w hR hc hbig hw hI hp
  have hn := Aside0.mk (idxFrom_nonneg p l 0 (by omega))
  clear hp hR
  generalize idxFrom p l 0 = r at hcon hn
  go_enter Try.func89, Try.ntmps89
  go_wp2_with (go_at_call 104; refine hcon.mono ?_; rintro e w' ⟨rfl, hb'⟩)
  go_ret
  refine ⟨?_, hb'⟩
  have : decide (0 ≤ r) = l.any p := by rw [Bool.eq_iff_iff, decide_eq_true_iff]; exact hn.out
  rw [← this]; rfl

def impl_stepsCode.ok (k : Nat) (n : Int) (x : S26) : Option Bool := impl_isStep.f k x.f0 x.f1 x.f2 x.f3 n
def impl_stepsCode.bad (k : Nat) (n : Int) (x : S26) : Bool := !((impl_stepsCode.ok k n x).getD false)
def impl_stepsCode.scan (L : List S26) : List S26 → Int → Int → Bool → Int
  | [], _, _, up => if up = true then 0 else 8
  | x :: r, i, label, up => if x.f0 = 5 then impl_stepsCode.scan L r (i + 1) x.f2 (up && decide (label < x.f2)) else if idxFrom (impl_touches.is x.f1) L 0 < i then 12 else impl_stepsCode.scan L r (i + 1) label up
def impl_stepsCode.form (k : Nat) (l0 : List S26) (n : Int) : Bool := decide (1 ≤ n ∧ n ≤ 8) && decide ((l0.length : Int) ≤ 20) && !(l0.any (impl_stepsCode.bad k n))
def impl_stepsCode.f (k : Nat) (l0 : List S26) (a1 : Int) : Option Int :=
  if l0.length ≤ 9223372036854775807 ∧ ((1 ≤ a1 ∧ a1 ≤ 8) → (l0.length : Int) ≤ 20 → ∀ x ∈ l0, (impl_stepsCode.ok k a1 x).isSome = true) then
    some (if impl_stepsCode.form k l0 a1 = true then impl_stepsCode.scan l0 l0 0 (-1) true else 1) else none
theorem impl_stepsCode.mono : ∀ a0 a1 k, LeO (impl_stepsCode.f k a0 a1) (impl_stepsCode.f (k + 1) a0 a1) := by
  intro a0 a1 k r h
  unfold impl_stepsCode.f at h ⊢
  by_cases hc : a0.length ≤ 9223372036854775807 ∧ ((1 ≤ a1 ∧ a1 ≤ 8) → (a0.length : Int) ≤ 20 → ∀ x ∈ a0, (impl_stepsCode.ok k a1 x).isSome = true)
  · rw [if_pos hc] at h
    have e : ∀ x : S26, (impl_stepsCode.ok k a1 x).isSome = true → impl_stepsCode.ok (k + 1) a1 x = impl_stepsCode.ok k a1 x := by
      intro x hx
      obtain ⟨v, hv⟩ := Option.isSome_iff_exists.1 hx
      rw [hv]
      exact impl_isStep.mono _ _ _ _ _ _ _ hv
    rw [if_pos ⟨hc.1, fun h1 h2 x hx => by rw [e x (hc.2 h1 h2 x hx)]; exact hc.2 h1 h2 x hx⟩, ← h]
    have ef : impl_stepsCode.form (k + 1) a0 a1 = impl_stepsCode.form k a0 a1 := by
      unfold impl_stepsCode.form
      by_cases h1 : 1 ≤ a1 ∧ a1 ≤ 8
      · by_cases h2 : (a0.length : Int) ≤ 20
        · have ea : a0.any (impl_stepsCode.bad (k + 1) a1) = a0.any (impl_stepsCode.bad k a1) := by
            rw [Bool.eq_iff_iff, List.any_eq_true, List.any_eq_true]
            constructor
            · rintro ⟨x, hx, hb⟩; exact ⟨x, hx, by unfold impl_stepsCode.bad at hb ⊢; rw [e x (hc.2 h1 h2 x hx)] at hb; exact hb⟩
            · rintro ⟨x, hx, hb⟩; exact ⟨x, hx, by unfold impl_stepsCode.bad at hb ⊢; rw [e x (hc.2 h1 h2 x hx)]; exact hb⟩
          rw [ea]
        · simp [h2]
      · simp [h1]
    rw [ef]
  · rw [if_neg hc] at h; cases h
theorem impl_stepsCode.pred (k : Nat) (a1 : Int) (gb : Nat) (W0 W : World) (hc : W0.cell? ⟨gb, 0, none⟩ = some (.int .i64 a1)) (hB : Below W0.heap.size W0 W) (x : S26) (hs : (impl_stepsCode.ok k a1 x).isSome = true) :
    Calls Try.prog 90 (#[.agg #[.int .i64 x.f0, .int .i64 x.f1, .int .i64 x.f2, .string x.f3]] ++ #[.pointer (some ⟨gb, 0, none⟩)]) W fun e w' => e = .returned (.bool (impl_stepsCode.bad k a1 x)) ∧ Below W0.heap.size W0 w' := by
  have hc' := (hB.cell (World.block_lt_of_cell? _ _ hc)).trans hc
  have hc2 : ∀ o, (W.alloc o).cell? ⟨gb, 0, none⟩ = some (.int .i64 a1) := fun o => (Below.cell (below_alloc (Below.refl _ W) o) (World.block_lt_of_cell? _ _ hc')).trans hc'
  obtain ⟨v, hv⟩ := Option.isSome_iff_exists.1 hs
  have hcall := fun W => impl_isStep.calls k x.f0 x.f1 x.f2 x.f3 a1 v W hv
  have e : impl_stepsCode.bad k a1 x = !v := by unfold impl_stepsCode.bad; rw [hv]; rfl
  rw [e]
  show Calls Try.prog 90 #[.agg #[.int .i64 x.f0, .int .i64 x.f1, .int .i64 x.f2, .string x.f3], .pointer (some ⟨gb, 0, none⟩)] W _
  have HB := Aside0.mk hB
  clear hB hc hv hs e
  go_enter Try.func90, Try.ntmps90
  go_wp2_with (go_at_call 52; refine (hcall _).mono ?_; rintro e w' ⟨rfl, hb'⟩)
  go_ret
  exact ⟨rfl, below_then (by repeat (first | exact HB.out | apply pw_below_drewN | apply below_drew1 | apply below_alloc)) (by exact (below_size (by repeat (first | exact HB.out | apply pw_below_drewN | apply below_drew1 | apply below_alloc)))) hb'⟩
set_option maxHeartbeats 8000000 in
set_option maxRecDepth 100000 in
theorem impl_stepsCode.calls (k : Nat) (A0 : Option Addr) (c0 : Nat) (l0 : List S26) (a1 : Int) (r : Int) (w : World) (hr0 : Kd.C k26 w A0 l0.length l0) (hc0 : l0.length ≤ c0) (h : impl_stepsCode.f k l0 a1 = some r) :
    Calls Try.prog 62 #[.slice A0 l0.length c0, .int .i64 a1] w fun e w' => e = .returned (.int .i64 r) ∧ Below w.heap.size w w' := by
  unfold impl_stepsCode.f at h
  by_cases hc : l0.length ≤ 9223372036854775807 ∧ ((1 ≤ a1 ∧ a1 ≤ 8) → (l0.length : Int) ≤ 20 → ∀ x ∈ l0, (impl_stepsCode.ok k a1 x).isSome = true)
  · rw [if_pos hc] at h
    obtain ⟨hbig, hs⟩ := hc
    obtain rfl := Option.some.inj h
    clear h
    have HR0 := Aside0.mk hr0
    have HC0 := Aside0.mk hc0
    have HBIG := Aside0.mk hbig
    have hb : ∀ d : Bool, decide (1 ≤ a1 ∧ a1 ≤ 8) = d → impl_isBlocks.f a1 = some d := by
      intro d hd
      rw [← hd]
      unfold impl_isBlocks.f impl_within.f
      by_cases h1 : a1 ≥ 1
      · rw [if_pos h1, Option.bind_some]; congr 1; rw [Bool.eq_iff_iff]; simp; omega
      · rw [if_neg h1, Option.bind_some]; congr 1; rw [eq_comm, decide_eq_false_iff_not]; omega
    unfold impl_stepsCode.form
    by_cases h1 : 1 ≤ a1 ∧ a1 ≤ 8
    · have HD := Aside0.mk (hb true (decide_eq_true h1))
      rw [decide_eq_true h1, Bool.true_and]
      by_cases h2 : (l0.length : Int) ≤ 20
      · have h2b : decide ((l0.length : Int) > 20) = false := decide_eq_false (by omega)
        rw [decide_eq_true h2, Bool.true_and]
        have eg : ∀ args w, (callFunc 90 args).run Try.prog w = .ok (.enter 90 args) w := enters_of Try.func90 (by kernel_rfl) rfl
        have hcon := fun (W : World) (hR : Kd.C k26 W A0 l0.length l0) (gb : Nat) (hc : W.cell? ⟨gb, 0, none⟩ = some (.int .i64 a1)) => slices_ContainsFunc_26.calls (fun W' => Below W.heap.size W W') (impl_stepsCode.bad k a1) 90 #[.pointer (some ⟨gb, 0, none⟩)] eg A0 c0 l0 W hR hc0 hbig (Below.refl _ _) (fun _ h => h) (fun W' hb x hx => impl_stepsCode.pred k a1 gb W W' hc hb x (hs h1 h2 x hx))
        clear hb hs hr0 hc0 h1 hbig h2
        generalize l0.any (impl_stepsCode.bad k a1) = v at hcon ⊢
        cases v with
        | true =>
          go_enter Try.func62, Try.ntmps62
          go_wp2_with (first
            | (go_at_call 51; refine (impl_isBlocks.calls _ _ _ HD.out).mono ?_; rintro e w1 ⟨rfl, ⟨n1, rfl⟩⟩)
            | (go_at_call 89; refine (hcon _ (by repeat (first | exact HR0.out | (with_reducible refine Kd.C_alloc ?_ _) | (with_reducible refine Kd.C_drewN ?_ _) | (with_reducible refine Kd.C_drew ?_))) _ (by go_simp)).mono ?_; rintro e w' ⟨rfl, hb'⟩))
          go_ret
          exact ⟨rfl, below_step (by repeat (first | exact Below.refl _ _ | apply pw_below_drewN | apply below_drew1 | apply below_alloc)) hb'⟩
        | false =>
          go_enter Try.func62, Try.ntmps62
          go_wp2_with (first
            | (go_at_call 51; refine (impl_isBlocks.calls _ _ _ HD.out).mono ?_; rintro e w1 ⟨rfl, ⟨n1, rfl⟩⟩)
            | (go_at_call 89; refine (hcon _ (by repeat (first | exact HR0.out | (with_reducible refine Kd.C_alloc ?_ _) | (with_reducible refine Kd.C_drewN ?_ _) | (with_reducible refine Kd.C_drew ?_))) _ (by go_simp)).mono ?_; rintro e w' ⟨rfl, hb'⟩; have HB := Aside0.mk (show Below w.heap.size w w' from below_step (by repeat (first | exact Below.refl _ _ | apply pw_below_drewN | apply below_drew1 | apply below_alloc)) hb'); clear hb' hcon))
          clear eg h2b HD
          go_loopg [5, 6, 7, 8, 24] l0.length (fun gg v5 v6 _ _ v24 wr => ∃ (kk : Nat) (lb : Int) (up : Bool), v5 = .int .i64 lb ∧ v6 = .bool up ∧ v24 = .int .i64 kk ∧ Aside0 (kk ≤ l0.length) ∧ Aside0 (l0.length - kk ≤ gg) ∧ Aside0 (Below w.heap.size w wr) ∧ Aside0 (impl_stepsCode.scan l0 l0 0 (-1) true = impl_stepsCode.scan l0 (l0.drop kk) kk lb up))
          case atStart => exact ⟨0, -1, true, rfl, rfl, rfl, ⟨Nat.zero_le _⟩, ⟨Nat.le_refl _⟩, HB, ⟨rfl⟩⟩
          case round =>
            clear HB
            obtain ⟨kk, lb, up, rfl, rfl, rfl, HK, HG, HB, HS⟩ := hrel
            by_cases hlt : kk < l0.length
            · have hltz : decide ((kk : Int) < (l0.length : Int)) = true := decide_eq_true (by omega)
              have p0 : (0 : Int) ≤ (kk : Int) := by omega
              have q0 : (kk : Int) < (l0.length : Int) := by omega
              obtain ⟨ad, rfl, hx0, hx1, hx2, hx3⟩ := at_T26 HR0.out (kk : Int) p0 q0
              have hy : rd_T26 l0 (kk : Int) = l0[kk] := by simp [rd_T26, hlt]
              rw [hy] at hx0; replace hx0 := (HB.out.cell (World.block_lt_of_cell? _ _ hx0)).trans hx0; simp only [Int.toNat_natCast] at hx0
              rw [hy] at hx1; replace hx1 := (HB.out.cell (World.block_lt_of_cell? _ _ hx1)).trans hx1; simp only [Int.toNat_natCast] at hx1
              rw [hy] at hx2; replace hx2 := (HB.out.cell (World.block_lt_of_cell? _ _ hx2)).trans hx2; simp only [Int.toNat_natCast] at hx2
              rw [hy] at hx3; replace hx3 := (HB.out.cell (World.block_lt_of_cell? _ _ hx3)).trans hx3; simp only [Int.toNat_natCast] at hx3
              have HS2 := HS.out
              rw [idxFrom_drop l0 kk hlt, impl_stepsCode.scan] at HS2
              clear HS hy
              generalize l0[kk] = x at hx0 hx1 hx2 hx3 HS2
              have htch : impl_touches.f l0 x.f1 = some (idxFrom (impl_touches.is x.f1) l0 0) := by unfold impl_touches.f; rw [if_pos HBIG.out]
              have e24 : wrap64 ((kk : Int) + 1) = ((kk + 1 : Nat) : Int) := by have := HBIG.out; unfold wrap64; omega
              generalize idxFrom (impl_touches.is x.f1) l0 0 = tv at htch HS2
              have HT := Aside0.mk htch
              clear htch
              by_cases h5 : x.f0 = 5
              · have b0 : (x.f0 == 5) = true := beq_iff_eq.mpr h5
                have b1 : (x.f0 != 5) = false := bne_eq_false_iff_eq.mpr h5
                rw [if_pos h5] at HS2
                have HS := Aside0.mk HS2
                clear h5 HS2
                cases up with
                | true =>
                  go_wp2
                  go_roundg (l0.length - (kk + 1))
                  case measure => have := HG.out; omega
                  case rel => exact ⟨kk + 1, x.f2, decide (lb < x.f2), by rfl, by rfl, by rw [e24], ⟨by omega⟩, ⟨Nat.le_refl _⟩, ⟨by repeat (first | exact HB.out | apply pw_below_drewN | apply below_drew1 | apply below_alloc)⟩, ⟨by have e : ((kk + 1 : Nat) : Int) = (kk : Int) + 1 := (by omega); rw [HS.out, e]; simp⟩⟩
                | false =>
                  go_wp2
                  go_roundg (l0.length - (kk + 1))
                  case measure => have := HG.out; omega
                  case rel => exact ⟨kk + 1, x.f2, false, by rfl, by rfl, by rw [e24], ⟨by omega⟩, ⟨Nat.le_refl _⟩, ⟨by repeat (first | exact HB.out | apply pw_below_drewN | apply below_drew1 | apply below_alloc)⟩, ⟨by have e : ((kk + 1 : Nat) : Int) = (kk : Int) + 1 := (by omega); rw [HS.out, e]; simp⟩⟩
              · have b0 : (x.f0 == 5) = false := beq_eq_false_iff_ne.mpr h5
                have b1 : (x.f0 != 5) = true := bne_iff_ne.mpr h5
                rw [if_neg h5] at HS2
                by_cases ht : tv < (kk : Int)
                · have htb : decide (tv < (kk : Int)) = true := decide_eq_true ht
                  rw [if_pos ht] at HS2
                  have HS := Aside0.mk HS2
                  clear h5 HS2 ht
                  go_wp2_with (go_at_call 91; refine (impl_touches.calls _ _ l0 x.f1 tv _ (Kd.C_below HR0.out (by repeat (first | exact HB.out | apply pw_below_drewN | apply below_drew1 | apply below_alloc))) HC0.out HT.out).mono ?_; rintro e w2 ⟨rfl, hb2⟩)
                  go_ret
                  exact ⟨by rw [HS.out]; rfl, below_then (by repeat (first | exact HB.out | apply pw_below_drewN | apply below_drew1 | apply below_alloc)) (below_size (by repeat (first | exact HB.out | apply pw_below_drewN | apply below_drew1 | apply below_alloc))) hb2⟩
                · have htb : decide (tv < (kk : Int)) = false := decide_eq_false ht
                  rw [if_neg ht] at HS2
                  have HS := Aside0.mk HS2
                  clear h5 HS2 ht
                  go_wp2_with (go_at_call 91; refine (impl_touches.calls _ _ l0 x.f1 tv _ (Kd.C_below HR0.out (by repeat (first | exact HB.out | apply pw_below_drewN | apply below_drew1 | apply below_alloc))) HC0.out HT.out).mono ?_; rintro e w2 ⟨rfl, hb2⟩)
                  go_roundg (l0.length - (kk + 1))
                  case measure => have := HG.out; omega
                  case rel => exact ⟨kk + 1, lb, up, by rfl, by rfl, by rw [e24], ⟨by omega⟩, ⟨Nat.le_refl _⟩, ⟨below_then (by repeat (first | exact HB.out | apply pw_below_drewN | apply below_drew1 | apply below_alloc)) (below_size (by repeat (first | exact HB.out | apply pw_below_drewN | apply below_drew1 | apply below_alloc))) hb2⟩, ⟨by have e : ((kk + 1 : Nat) : Int) = (kk : Int) + 1 := (by omega); rw [HS.out, e]⟩⟩
            · have hltz : decide ((kk : Int) < (l0.length : Int)) = false := decide_eq_false (by omega)
              have hk : kk = l0.length := by have := HK.out; omega
              have HS2 := HS.out
              rw [hk, List.drop_length, impl_stepsCode.scan] at HS2
              have HS := Aside0.mk HS2
              clear HS2
              cases up with
              | true =>
                go_wp2
                go_ret
                exact ⟨by rw [HS.out]; rfl, HB.out⟩
              | false =>
                go_wp2
                go_ret
                exact ⟨by rw [HS.out]; rfl, HB.out⟩
      · have h2b : decide ((l0.length : Int) > 20) = true := decide_eq_true (by omega)
        rw [decide_eq_false h2]
        clear hb hs hr0 hc0 h1 hbig h2
        go_enter Try.func62, Try.ntmps62
        go_wp2_with (first
          | (go_at_call 51; refine (impl_isBlocks.calls _ _ _ HD.out).mono ?_; rintro e w1 ⟨rfl, ⟨n1, rfl⟩⟩))
        go_ret
        exact ⟨rfl, by repeat (first | exact Below.refl _ _ | apply pw_below_drewN | apply below_drew1 | apply below_alloc)⟩
    · have HD := Aside0.mk (hb false (decide_eq_false h1))
      rw [decide_eq_false h1]
      clear hb hs hr0 hc0 h1 hbig
      go_enter Try.func62, Try.ntmps62
      go_wp2_with (first
        | (go_at_call 51; refine (impl_isBlocks.calls _ _ _ HD.out).mono ?_; rintro e w1 ⟨rfl, ⟨n1, rfl⟩⟩))
      go_ret
      exact ⟨rfl, by repeat (first | exact Below.refl _ _ | apply pw_below_drewN | apply below_drew1 | apply below_alloc)⟩
  · rw [if_neg hc] at h; cases h


/-! ### impl_StepsCode: function 34 -/
def impl_StepsCode.f (k : Nat) (l0 : List (S26)) (a1 : Int) : Option (Int) := (impl_stepsCode.f k l0 a1).bind fun t333 => (some t333)
theorem impl_StepsCode.mono : ∀ a0 a1 k, LeO (impl_StepsCode.f k a0 a1) (impl_StepsCode.f (k + 1) a0 a1) := by
  intro a0 a1 k
  unfold impl_StepsCode.f
  repeat' first
      | (with_reducible exact impl_stepsCode.mono _ _ _)
      | (with_reducible exact LeO.refl _)
      | (with_reducible exact LeO.none _)
      | (with_reducible refine LeO.ite ?_ ?_)
      | (with_reducible refine LeO.bind ?_ (fun _ => ?_))
      | exact impl_stepsCode.mono _ _ _
      | exact LeO.none _
      | refine LeO.ite ?_ ?_
      | refine LeO.bind ?_ (fun _ => ?_)
set_option maxHeartbeats 8000000 in
set_option maxRecDepth 100000 in
theorem impl_StepsCode.calls (k : Nat) (A0 : Option Addr) (c0 : Nat) (l0 : List (S26)) (a1 : Int) (r : Int) (w : World) (hr0 : Kd.C k26 w A0 l0.length l0) (hc0 : l0.length ≤ c0) (h : impl_StepsCode.f k l0 a1 = some r) :
    Calls Try.prog 34 #[.slice A0 l0.length c0, .int .i64 a1] w fun e w' => e = .returned (.int .i64 r) ∧ Below w.heap.size w w' := by
  have HR0 := Aside0.mk hr0
  have HC0 := Aside0.mk hc0
  clear hr0 hc0
  have HB := Aside0.mk (Below.refl w.heap.size w)
  have H : ((impl_stepsCode.f k l0 a1).bind fun t333 => (some t333)) = some r := h
  clear h
  replace H := Option.bind_eq_some_iff.mp H
  obtain ⟨t333, A30, H⟩ := H
  replace H : (some t333) = some r := H
  have A3 := Aside0.mk A30
  clear A30
  obtain rfl := Option.some.inj H
  go_enter Try.func34, Try.ntmps34
  go_wp2_with (first | ((with_reducible refine gate_callee (f := 62) rfl ?_); refine goesL_ (some 7) rfl rfl Try.func62 (by kernel_rfl) rfl #[.slice A0 l0.length c0, .int .i64 a1] rfl (by (try simp only [List.map_toArray, List.map_cons, List.map_nil]); first | done | rfl | (simp only [List.length_drop, List.length_take]; rfl)) ?_; (with_reducible refine (impl_stepsCode.calls k _ _ l0 a1 t333 _ ?side1 ?side2 A3.out).mono ?_); (case side1 => repeat (first | exact HR0.out | (with_reducible refine Kd.C_alloc ?_ _) | (with_reducible refine Kd.C_drewN ?_ _) | (with_reducible refine Kd.C_drew ?_))); (case side2 => exact HC0.out); rintro e w4 ⟨rfl, hb⟩; refine ⟨_, rfl, ?_⟩; have n0_ := Aside0.mk (below_step (by repeat (first | (with_reducible first | exact HB.out | apply below_alloc | apply pw_below_drewN | apply below_drew1) | exact HB.out)) hb); clear HB; have HB := n0_; clear n0_; (try clear hb); (try clear hb2); (try clear hk); (try clear hi)))
  go_ret
  exact ⟨by first | rfl | (simp [errW_none, errW_some] <;> rfl) | (simp [*, errW_none, errW_some] <;> rfl), by repeat (first | (with_reducible first | exact HB.out | apply below_alloc | apply pw_below_drewN | apply below_drew1) | exact HB.out)⟩

/-! ### laws_FnExactStepsCode: function 8 -/
def laws_FnExactStepsCode.f (k : Nat) (l0 : List (S23)) (a1 : Int) : Option (Bool) := (laws_szStepS.f k l0 1048576).bind fun t334 => (if t334 < 0 then (some true) else ((laws_toStepS.f k l0).bind fun t335 => ((spec_StepsCode.f k t335 a1).bind fun t338 => ((laws_toStepS.f k l0).bind fun t339 => ((impl_StepsCode.f k t339 a1).bind fun t342 => (if t342 = t338 then ((laws_toStepS.f k l0).bind fun t343 => ((laws_eqStepS.f k t339 t343).bind fun t346 => (if t346 = true then (some true) else (none)))) else (none)))))))
theorem laws_FnExactStepsCode.mono : ∀ a0 a1 k, LeO (laws_FnExactStepsCode.f k a0 a1) (laws_FnExactStepsCode.f (k + 1) a0 a1) := by
  intro a0 a1 k
  unfold laws_FnExactStepsCode.f
  repeat' first
      | (with_reducible exact impl_StepsCode.mono _ _ _)
      | (with_reducible exact laws_eqStepS.mono _ _ _)
      | (with_reducible exact laws_szStepS.mono _ _ _)
      | (with_reducible exact laws_toStepS.mono _ _)
      | (with_reducible exact spec_StepsCode.mono _ _ _)
      | (with_reducible exact LeO.refl _)
      | (with_reducible exact LeO.none _)
      | (with_reducible refine LeO.ite ?_ ?_)
      | (with_reducible refine LeO.bind ?_ (fun _ => ?_))
      | exact impl_StepsCode.mono _ _ _
      | exact laws_eqStepS.mono _ _ _
      | exact laws_szStepS.mono _ _ _
      | exact laws_toStepS.mono _ _
      | exact spec_StepsCode.mono _ _ _
      | exact LeO.none _
      | refine LeO.ite ?_ ?_
      | refine LeO.bind ?_ (fun _ => ?_)
set_option maxHeartbeats 8000000 in
set_option maxRecDepth 100000 in
theorem laws_FnExactStepsCode.calls (k : Nat) (A0 : Option Addr) (c0 : Nat) (l0 : List (S23)) (a1 : Int) (r : Bool) (w : World) (hr0 : Kd.C k23 w A0 l0.length l0) (hc0 : l0.length ≤ c0) (h : laws_FnExactStepsCode.f k l0 a1 = some r) :
    Calls Try.prog 8 #[.slice A0 l0.length c0, .int .i64 a1] w fun e w' => e = .returned (.bool r) ∧ Below w.heap.size w w' := by
  have HR0 := Aside0.mk hr0
  have HC0 := Aside0.mk hc0
  clear hr0 hc0
  have HB := Aside0.mk (Below.refl w.heap.size w)
  have H : ((laws_szStepS.f k l0 1048576).bind fun t334 => (if t334 < 0 then (some true) else ((laws_toStepS.f k l0).bind fun t335 => ((spec_StepsCode.f k t335 a1).bind fun t338 => ((laws_toStepS.f k l0).bind fun t339 => ((impl_StepsCode.f k t339 a1).bind fun t342 => (if t342 = t338 then ((laws_toStepS.f k l0).bind fun t343 => ((laws_eqStepS.f k t339 t343).bind fun t346 => (if t346 = true then (some true) else (none)))) else (none)))))))) = some r := h
  clear h
  replace H := Option.bind_eq_some_iff.mp H
  obtain ⟨t334, A30, H⟩ := H
  replace H : (if t334 < 0 then (some true) else ((laws_toStepS.f k l0).bind fun t335 => ((spec_StepsCode.f k t335 a1).bind fun t338 => ((laws_toStepS.f k l0).bind fun t339 => ((impl_StepsCode.f k t339 a1).bind fun t342 => (if t342 = t338 then ((laws_toStepS.f k l0).bind fun t343 => ((laws_eqStepS.f k t339 t343).bind fun t346 => (if t346 = true then (some true) else (none)))) else (none))))))) = some r := H
  have A3 := Aside0.mk A30
  clear A30
  by_cases c4 : t334 < 0
  · rw [if_pos c4] at H
    have c4b0 : decide (t334 < 0) = true := decide_eq_true c4
    clear c4
    obtain rfl := Option.some.inj H
    go_enter Try.func8, Try.ntmps8
    go_wp2_with (first | ((with_reducible refine gate_callee (f := 24) rfl ?_); refine goesL_ (some 11) rfl rfl Try.func24 (by kernel_rfl) rfl #[.slice A0 l0.length c0, .int .i64 1048576] rfl (by (try simp only [List.map_toArray, List.map_cons, List.map_nil]); first | done | rfl | (simp only [List.length_drop, List.length_take]; rfl)) ?_; (with_reducible refine (laws_szStepS.calls k _ _ l0 1048576 t334 _ ?side1 ?side2 A3.out).mono ?_); (case side1 => repeat (first | exact HR0.out | (with_reducible refine Kd.C_alloc ?_ _) | (with_reducible refine Kd.C_drewN ?_ _) | (with_reducible refine Kd.C_drew ?_))); (case side2 => exact HC0.out); rintro e w5 ⟨rfl, hb⟩; refine ⟨_, rfl, ?_⟩; have n0_ := Aside0.mk (below_step (by repeat (first | (with_reducible first | exact HB.out | apply below_alloc | apply pw_below_drewN | apply below_drew1) | exact HB.out)) hb); clear HB; have HB := n0_; clear n0_; (try clear hb); (try clear hb2); (try clear hk); (try clear hi)))
    go_ret
    exact ⟨by first | rfl | (simp [errW_none, errW_some] <;> rfl) | (simp [*, errW_none, errW_some] <;> rfl), by repeat (first | (with_reducible first | exact HB.out | apply below_alloc | apply pw_below_drewN | apply below_drew1) | exact HB.out)⟩
  · rw [if_neg c4] at H
    have c4b0 : decide (t334 < 0) = false := decide_eq_false c4
    clear c4
    replace H := Option.bind_eq_some_iff.mp H
    obtain ⟨t335, A60, H⟩ := H
    replace H : ((spec_StepsCode.f k t335 a1).bind fun t338 => ((laws_toStepS.f k l0).bind fun t339 => ((impl_StepsCode.f k t339 a1).bind fun t342 => (if t342 = t338 then ((laws_toStepS.f k l0).bind fun t343 => ((laws_eqStepS.f k t339 t343).bind fun t346 => (if t346 = true then (some true) else (none)))) else (none))))) = some r := H
    have A6 := Aside0.mk A60
    clear A60
    replace H := Option.bind_eq_some_iff.mp H
    obtain ⟨t338, A70, H⟩ := H
    replace H : ((laws_toStepS.f k l0).bind fun t339 => ((impl_StepsCode.f k t339 a1).bind fun t342 => (if t342 = t338 then ((laws_toStepS.f k l0).bind fun t343 => ((laws_eqStepS.f k t339 t343).bind fun t346 => (if t346 = true then (some true) else (none)))) else (none)))) = some r := H
    have A7 := Aside0.mk A70
    clear A70
    replace H := Option.bind_eq_some_iff.mp H
    obtain ⟨t339, A80, H⟩ := H
    replace H : ((impl_StepsCode.f k t339 a1).bind fun t342 => (if t342 = t338 then ((laws_toStepS.f k l0).bind fun t343 => ((laws_eqStepS.f k t339 t343).bind fun t346 => (if t346 = true then (some true) else (none)))) else (none))) = some r := H
    have A8 := Aside0.mk A80
    clear A80
    replace H := Option.bind_eq_some_iff.mp H
    obtain ⟨t342, A90, H⟩ := H
    replace H : (if t342 = t338 then ((laws_toStepS.f k l0).bind fun t343 => ((laws_eqStepS.f k t339 t343).bind fun t346 => (if t346 = true then (some true) else (none)))) else (none)) = some r := H
    have A9 := Aside0.mk A90
    clear A90
    by_cases c10 : t342 = t338
    · rw [if_pos c10] at H
      have c10b0 : (t342 == t338) = true := beq_iff_eq.mpr c10
      have c10b1 : (t342 != t338) = false := bne_eq_false_iff_eq.mpr c10
      clear c10
      replace H := Option.bind_eq_some_iff.mp H
      obtain ⟨t343, A110, H⟩ := H
      replace H : ((laws_eqStepS.f k t339 t343).bind fun t346 => (if t346 = true then (some true) else (none))) = some r := H
      have A11 := Aside0.mk A110
      clear A110
      replace H := Option.bind_eq_some_iff.mp H
      obtain ⟨t346, A120, H⟩ := H
      replace H : (if t346 = true then (some true) else (none)) = some r := H
      have A12 := Aside0.mk A120
      clear A120
      by_cases c13 : t346 = true
      · subst c13
        have H1 : (some true) = some r := by rw [if_pos rfl] at H; exact H
        clear H
        have H := H1
        clear H1
        obtain rfl := Option.some.inj H
        go_enter Try.func8, Try.ntmps8
        go_wp2_with (first | ((with_reducible refine gate_callee (f := 24) rfl ?_); refine goesL_ (some 11) rfl rfl Try.func24 (by kernel_rfl) rfl #[.slice A0 l0.length c0, .int .i64 1048576] rfl (by (try simp only [List.map_toArray, List.map_cons, List.map_nil]); first | done | rfl | (simp only [List.length_drop, List.length_take]; rfl)) ?_; (with_reducible refine (laws_szStepS.calls k _ _ l0 1048576 t334 _ ?side1 ?side2 A3.out).mono ?_); (case side1 => repeat (first | exact HR0.out | (with_reducible refine Kd.C_alloc ?_ _) | (with_reducible refine Kd.C_drewN ?_ _) | (with_reducible refine Kd.C_drew ?_))); (case side2 => exact HC0.out); rintro e w14 ⟨rfl, hb⟩; refine ⟨_, rfl, ?_⟩; have n0_ := Aside0.mk (below_step (by repeat (first | (with_reducible first | exact HB.out | apply below_alloc | apply pw_below_drewN | apply below_drew1) | exact HB.out)) hb); clear HB; have HB := n0_; clear n0_; (try clear hb); (try clear hb2); (try clear hk); (try clear hi)) | ((with_reducible refine gate_callee (f := 26) rfl ?_); refine goesL_ (some 15) rfl rfl Try.func26 (by kernel_rfl) rfl #[.slice A0 l0.length c0] rfl (by (try simp only [List.map_toArray, List.map_cons, List.map_nil]); first | done | rfl | (simp only [List.length_drop, List.length_take]; rfl)) ?_; (with_reducible refine (laws_toStepS.calls k _ _ l0 t335 _ ?side1 ?side2 A6.out).mono ?_); (case side1 => repeat (first | exact (Kd.C_below HR0.out HB.out) | (with_reducible refine Kd.C_alloc ?_ _) | (with_reducible refine Kd.C_drewN ?_ _) | (with_reducible refine Kd.C_drew ?_))); (case side2 => exact HC0.out); rintro e w15 ⟨v336, rfl, ho0, hb⟩; refine ⟨_, rfl, ?_⟩; have n0_ := Aside0.mk (Kd.R_lower ho0 (below_size (by repeat (first | (with_reducible first | exact HB.out | apply below_alloc | apply pw_below_drewN | apply below_drew1) | exact HB.out)))); have n1_ := Aside0.mk (below_step (by repeat (first | (with_reducible first | exact HB.out | apply below_alloc | apply pw_below_drewN | apply below_drew1) | exact HB.out)) hb); clear HB; have HO337 := n0_; have HB := n1_; clear n0_ n1_; (try clear hb); (try clear hb2); (try clear hk); (try clear hi); (try clear ho0); obtain ⟨Ao16, co16, eo16⟩ := Kd.R_slice HO337.out; subst eo16) | ((with_reducible refine gate_callee (f := 33) rfl ?_); refine goesL_ (some 17) rfl rfl Try.func33 (by kernel_rfl) rfl #[.slice Ao16 t335.length co16, .int .i64 a1] rfl (by (try simp only [List.map_toArray, List.map_cons, List.map_nil]); first | done | rfl | (simp only [List.length_drop, List.length_take]; rfl)) ?_; (with_reducible refine (spec_StepsCode.calls k _ _ t335 a1 t338 _ ?side1 ?side2 A7.out).mono ?_); (case side1 => repeat (first | exact (Kd.R_reads' HO337.out).2.2 | (with_reducible refine Kd.C_alloc ?_ _) | (with_reducible refine Kd.C_drewN ?_ _) | (with_reducible refine Kd.C_drew ?_))); (case side2 => exact (Kd.R_reads' HO337.out).2.1); rintro e w17 ⟨rfl, hb⟩; refine ⟨_, rfl, ?_⟩; have n0_ := Aside0.mk (Kd.R_below (by (with_reducible repeat (first | apply Kd.R_alloc | apply Kd.R_drewN | apply Kd.R_drew)); exact HO337.out) hb); have n1_ := Aside0.mk (below_step (by repeat (first | (with_reducible first | exact HB.out | apply below_alloc | apply pw_below_drewN | apply below_drew1) | exact HB.out)) hb); clear HO337; clear HB; have HO337 := n0_; have HB := n1_; clear n0_ n1_; (try clear hb); (try clear hb2); (try clear hk); (try clear hi)) | ((with_reducible refine gate_callee (f := 26) rfl ?_); refine goesL_ (some 19) rfl rfl Try.func26 (by kernel_rfl) rfl #[.slice A0 l0.length c0] rfl (by (try simp only [List.map_toArray, List.map_cons, List.map_nil]); first | done | rfl | (simp only [List.length_drop, List.length_take]; rfl)) ?_; (with_reducible refine (laws_toStepS.calls k _ _ l0 t339 _ ?side1 ?side2 A8.out).mono ?_); (case side1 => repeat (first | exact (Kd.C_below HR0.out HB.out) | (with_reducible refine Kd.C_alloc ?_ _) | (with_reducible refine Kd.C_drewN ?_ _) | (with_reducible refine Kd.C_drew ?_))); (case side2 => exact HC0.out); rintro e w18 ⟨v340, rfl, ho0, hb⟩; refine ⟨_, rfl, ?_⟩; have n0_ := Aside0.mk (Kd.R_elder' (by (with_reducible repeat (first | apply Kd.R_alloc | apply Kd.R_drewN | apply Kd.R_drew)); exact HO337.out) (Kd.R_base ho0) hb); have n1_ := Aside0.mk (Kd.R_lower (Kd.R_new' ho0 (Kd.R_lt (by (with_reducible repeat (first | apply Kd.R_alloc | apply Kd.R_drewN | apply Kd.R_drew)); exact HO337.out))) (below_size (by repeat (first | (with_reducible first | exact HB.out | apply below_alloc | apply pw_below_drewN | apply below_drew1) | exact HB.out)))); have n2_ := Aside0.mk (below_step (by repeat (first | (with_reducible first | exact HB.out | apply below_alloc | apply pw_below_drewN | apply below_drew1) | exact HB.out)) hb); clear HO337; clear HB; have HO337 := n0_; have HO341 := n1_; have HB := n2_; clear n0_ n1_ n2_; (try clear hb); (try clear hb2); (try clear hk); (try clear hi); (try clear ho0); obtain ⟨Ao19, co19, eo19⟩ := Kd.R_slice HO341.out; subst eo19) | ((with_reducible refine gate_callee (f := 34) rfl ?_); refine goesL_ (some 22) rfl rfl Try.func34 (by kernel_rfl) rfl #[.slice Ao19 t339.length co19, .int .i64 a1] rfl (by (try simp only [List.map_toArray, List.map_cons, List.map_nil]); first | done | rfl | (simp only [List.length_drop, List.length_take]; rfl)) ?_; (with_reducible refine (impl_StepsCode.calls k _ _ t339 a1 t342 _ ?side1 ?side2 A9.out).mono ?_); (case side1 => repeat (first | exact (Kd.R_reads' HO341.out).2.2 | (with_reducible refine Kd.C_alloc ?_ _) | (with_reducible refine Kd.C_drewN ?_ _) | (with_reducible refine Kd.C_drew ?_))); (case side2 => exact (Kd.R_reads' HO341.out).2.1); rintro e w20 ⟨rfl, hb⟩; refine ⟨_, rfl, ?_⟩; have n0_ := Aside0.mk (Kd.R_below (by (with_reducible repeat (first | apply Kd.R_alloc | apply Kd.R_drewN | apply Kd.R_drew)); exact HO337.out) hb); have n1_ := Aside0.mk (Kd.R_below (by (with_reducible repeat (first | apply Kd.R_alloc | apply Kd.R_drewN | apply Kd.R_drew)); exact HO341.out) hb); have n2_ := Aside0.mk (below_step (by repeat (first | (with_reducible first | exact HB.out | apply below_alloc | apply pw_below_drewN | apply below_drew1) | exact HB.out)) hb); clear HO337; clear HO341; clear HB; have HO337 := n0_; have HO341 := n1_; have HB := n2_; clear n0_ n1_ n2_; (try clear hb); (try clear hb2); (try clear hk); (try clear hi)) | ((with_reducible refine gate_callee (f := 26) rfl ?_); refine goesL_ (some 28) rfl rfl Try.func26 (by kernel_rfl) rfl #[.slice A0 l0.length c0] rfl (by (try simp only [List.map_toArray, List.map_cons, List.map_nil]); first | done | rfl | (simp only [List.length_drop, List.length_take]; rfl)) ?_; (with_reducible refine (laws_toStepS.calls k _ _ l0 t343 _ ?side1 ?side2 A11.out).mono ?_); (case side1 => repeat (first | exact (Kd.C_below HR0.out HB.out) | (with_reducible refine Kd.C_alloc ?_ _) | (with_reducible refine Kd.C_drewN ?_ _) | (with_reducible refine Kd.C_drew ?_))); (case side2 => exact HC0.out); rintro e w21 ⟨v344, rfl, ho0, hb⟩; refine ⟨_, rfl, ?_⟩; have n0_ := Aside0.mk (Kd.R_elder' (by (with_reducible repeat (first | apply Kd.R_alloc | apply Kd.R_drewN | apply Kd.R_drew)); exact HO337.out) (Kd.R_base ho0) hb); have n1_ := Aside0.mk (Kd.R_elder' (by (with_reducible repeat (first | apply Kd.R_alloc | apply Kd.R_drewN | apply Kd.R_drew)); exact HO341.out) (Kd.R_base ho0) hb); have n2_ := Aside0.mk (Kd.R_lower (Kd.R_new' (Kd.R_new' ho0 (Kd.R_lt (by (with_reducible repeat (first | apply Kd.R_alloc | apply Kd.R_drewN | apply Kd.R_drew)); exact HO337.out))) (Kd.R_lt (by (with_reducible repeat (first | apply Kd.R_alloc | apply Kd.R_drewN | apply Kd.R_drew)); exact HO341.out))) (below_size (by repeat (first | (with_reducible first | exact HB.out | apply below_alloc | apply pw_below_drewN | apply below_drew1) | exact HB.out)))); have n3_ := Aside0.mk (below_step (by repeat (first | (with_reducible first | exact HB.out | apply below_alloc | apply pw_below_drewN | apply below_drew1) | exact HB.out)) hb); clear HO337; clear HO341; clear HB; have HO337 := n0_; have HO341 := n1_; have HO345 := n2_; have HB := n3_; clear n0_ n1_ n2_ n3_; (try clear hb); (try clear hb2); (try clear hk); (try clear hi); (try clear ho0); obtain ⟨Ao22, co22, eo22⟩ := Kd.R_slice HO345.out; subst eo22) | ((with_reducible refine gate_callee (f := 28) rfl ?_); refine goesL_ (some 29) rfl rfl Try.func28 (by kernel_rfl) rfl #[.slice Ao19 t339.length co19, .slice Ao22 t343.length co22] rfl (by (try simp only [List.map_toArray, List.map_cons, List.map_nil]); first | done | rfl | (simp only [List.length_drop, List.length_take]; rfl)) ?_; (with_reducible refine (laws_eqStepS.calls k _ _ t339 _ _ t343 true _ ?side1 ?side2 ?side3 ?side4 A12.out).mono ?_); (case side1 => repeat (first | exact (Kd.R_reads' HO341.out).2.2 | (with_reducible refine Kd.C_alloc ?_ _) | (with_reducible refine Kd.C_drewN ?_ _) | (with_reducible refine Kd.C_drew ?_))); (case side2 => exact (Kd.R_reads' HO341.out).2.1); (case side3 => repeat (first | exact (Kd.R_reads' HO345.out).2.2 | (with_reducible refine Kd.C_alloc ?_ _) | (with_reducible refine Kd.C_drewN ?_ _) | (with_reducible refine Kd.C_drew ?_))); (case side4 => exact (Kd.R_reads' HO345.out).2.1); rintro e w23 ⟨rfl, hb⟩; refine ⟨_, rfl, ?_⟩; have n0_ := Aside0.mk (Kd.R_below (by (with_reducible repeat (first | apply Kd.R_alloc | apply Kd.R_drewN | apply Kd.R_drew)); exact HO337.out) hb); have n1_ := Aside0.mk (Kd.R_below (by (with_reducible repeat (first | apply Kd.R_alloc | apply Kd.R_drewN | apply Kd.R_drew)); exact HO341.out) hb); have n2_ := Aside0.mk (Kd.R_below (by (with_reducible repeat (first | apply Kd.R_alloc | apply Kd.R_drewN | apply Kd.R_drew)); exact HO345.out) hb); have n3_ := Aside0.mk (below_step (by repeat (first | (with_reducible first | exact HB.out | apply below_alloc | apply pw_below_drewN | apply below_drew1) | exact HB.out)) hb); clear HO337; clear HO341; clear HO345; clear HB; have HO337 := n0_; have HO341 := n1_; have HO345 := n2_; have HB := n3_; clear n0_ n1_ n2_ n3_; (try clear hb); (try clear hb2); (try clear hk); (try clear hi)))
        go_ret
        exact ⟨by first | rfl | (simp [errW_none, errW_some] <;> rfl) | (simp [*, errW_none, errW_some] <;> rfl), by repeat (first | (with_reducible first | exact HB.out | apply below_alloc | apply pw_below_drewN | apply below_drew1) | exact HB.out)⟩
      · replace c13 := Bool.eq_false_iff.mpr c13
        subst c13
        have H1 : (none) = some r := by rw [if_neg (show ¬ (false = true) by decide)] at H; exact H
        clear H
        have H := H1
        clear H1
        exact absurd H (by simp)
    · rw [if_neg c10] at H
      exact absurd H (by simp)

end Go.Proofs.Ytholfbdbgginpaa.Q
