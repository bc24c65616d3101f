/- An image's update keeps the number of blocks, leaves what no step writes and makes the rest of the old image; a block exclusive-ored twice comes back; for every draw. Part 3. -/
import Derived.Test.YtldhjbjbjoomcaaDoorKFnImage2
namespace Go.Proofs.YtldhjbjbjoomcaaDoor.Q
open Go.RowKit Go.Proofs.YtldhjbjbjoomcaaDoorW.PrintWords Go.Proofs.YtldhjbjbjoomcaaDoorW.PrintLast Go.Proofs.YtldhjbjbjoomcaaDoorW.PrintMore
attribute [local go_sem] max2_int min2_int max_two min_two max_three min_three max_four min_four Instr.field asAgg
set_option linter.unusedVariables false
set_option linter.unusedSimpArgs false
set_option maxHeartbeats 8000000
set_option maxRecDepth 100000
mutual
def spec_StepsCode.j0 : Nat → List (S42) → Int → Bool → Option (Int)
 | 0, _, _, _ => none
 | k + 1, x0, x1, x17 => if x17 = true then (some 1) else (spec_StepsCode.l0 k x0 x1 0)
def spec_StepsCode.l0 : Nat → List (S42) → Int → Int → Option (Int)
 | 0, _, _, _ => none
 | k + 1, x0, x1, x5 => if x5 < (x0.length : Int) then (if 0 ≤ x5 then ((spec_StepRight.f ((rd_T42 x0 x5).f0) ((rd_T42 x0 x5).f1) ((rd_T42 x0 x5).f2) ((rd_T42 x0 x5).f3) x1).bind fun t350 => (if t350 = true then (spec_StepsCode.l0 k x0 x1 (wrap64 (x5 + 1))) else (some 1))) else (none)) else (spec_StepsCode.l1 k x0 0)
def spec_StepsCode.l1 : Nat → List (S42) → Int → Option (Int)
 | 0, _, _ => none
 | k + 1, x0, x6 => if x6 < (x0.length : Int) then (spec_StepsCode.l2 k x0 x6 0) else (spec_StepsCode.l3 k x0 (-1) 0)
def spec_StepsCode.l2 : Nat → List (S42) → Int → Int → Option (Int)
 | 0, _, _, _ => none
 | k + 1, x0, x6, x7 => if x7 < x6 then (if 0 ≤ x6 then (if x6 < (x0.length : Int) then (if ((rd_T42 x0 x6).f0) = 5 then (spec_StepsCode.l2 k x0 x6 (wrap64 (x7 + 1))) else (if 0 ≤ x7 then (if x7 < (x0.length : Int) then (if ((rd_T42 x0 x7).f0) = 5 then (spec_StepsCode.l2 k x0 x6 (wrap64 (x7 + 1))) else (if ((rd_T42 x0 x6).f1) = ((rd_T42 x0 x7).f1) then (some 12) else (spec_StepsCode.l2 k x0 x6 (wrap64 (x7 + 1))))) else (none)) else (none))) else (none)) else (none)) else (spec_StepsCode.l1 k x0 (wrap64 (x6 + 1)))
def spec_StepsCode.l3 : Nat → List (S42) → Int → Int → Option (Int)
 | 0, _, _, _ => none
 | k + 1, x0, x8, x9 => if x9 < (x0.length : Int) then (if 0 ≤ x9 then (if ((rd_T42 x0 x9).f0) = 5 then (if ((rd_T42 x0 x9).f2) ≤ x8 then (some 8) else (spec_StepsCode.l3 k x0 ((rd_T42 x0 x9).f2) (wrap64 (x9 + 1)))) else (spec_StepsCode.l3 k x0 x8 (wrap64 (x9 + 1)))) else (none)) else (some 0)
end
def spec_StepsCode.f (k : Nat) (l0 : List (S42)) (a1 : Int) : Option (Int) := if (l0.length : Int) > 20 then (spec_StepsCode.j0 k l0 a1 true) else ((spec_l03Is.f a1 1 8).bind fun t348 => (spec_StepsCode.j0 k l0 a1 (!t348)))
theorem spec_StepsCode.calls (k : Nat) (A0 : Option Addr) (c0 : Nat) (l0 : List (S42)) (a1 : Int) (r : Int) (w : World) (hr0 : Kd.C k42 w A0 l0.length l0) (hc0 : l0.length ≤ c0) (h : spec_StepsCode.f k l0 a1 = some r) :
 Calls Tryd.prog 47 #[.slice A0 l0.length c0, .int .i64 a1] w fun e w' => e = .returned (.int .i64 r) ∧ Below w.heap.size w w' := by
 have hu42 := Tryd.underlying42
 have HR0 := zA_ hr0
 have HC0 := zA_ hc0
 clear hr0 hc0
 have HB := zA_ (Below.refl w.heap.size w)
 have H : (if (l0.length : Int) > 20 then (spec_StepsCode.j0 k l0 a1 true) else ((spec_l03Is.f a1 1 8).bind fun t348 => (spec_StepsCode.j0 k l0 a1 (!t348)))) = some r := h
 clear h
 have HC3 := zA_ H
 clear H
 go_enter Tryd.func47, Tryd.ntmps47
 go_upto_region 1 with (fail)
 repeat (go_quiet (fail); go_upto_region 1 with (fail))
 go_cut [17] (fun v17 wc => ∃ (kq : Nat) (x17_2 : Bool), v17 = .bool x17_2 ∧ Aside0 (spec_StepsCode.j0 kq l0 a1 x17_2 = some r) ∧ Aside0 (kq ≤ k) ∧ Aside0 (Below w.heap.size w wc))
 case first =>
  have H := HC3.out
  clear HC3
  by_cases c4 : (l0.length : Int) > 20
  · rw [if_pos c4] at H
    have c4b0 : decide (20 < (l0.length : Int)) = true := decide_eq_true c4
    have c4b1 : decide (20 < l0.length) = true := decide_eq_true (by omega)
    clear c4
    (first | rw [c4b0] | (simp only [i64_w, i32_w]; rw [c4b0]) | skip)
    have H' := zA_ H
    clear H
    go_wp2
    repeat (go_quiet (fail); try go_wp2)
    go_meet
    case rel => exact ⟨_, (true), βya, H', ⟨βBa⟩, ⟨zh_ HB.out⟩⟩
  · rw [if_neg c4] at H
    have c4b0 : decide (20 < (l0.length : Int)) = false := decide_eq_false c4
    have c4b1 : decide (20 < l0.length) = false := decide_eq_false (by omega)
    clear c4
    (first | rw [c4b0] | (simp only [i64_w, i32_w]; rw [c4b0]) | skip)
    replace H := Option.bind_eq_some_iff.mp H
    obtain ⟨t348, A50, H⟩ := H
    replace H : (spec_StepsCode.j0 k l0 a1 (!t348)) = some r := H
    have A5 := zA_ A50
    clear A50
    have H' := zA_ H
    clear H
    go_wp2_with (first | (go_at_call 71; (with_reducible refine (spec_l03Is.calls a1 1 8 t348 _ A5.out).mono ?_); rintro e w' ⟨rfl, ⟨nd, rfl⟩⟩; (try exact βia)))
    repeat (go_quiet (first | (go_at_call 71; (with_reducible refine (spec_l03Is.calls a1 1 8 t348 _ A5.out).mono ?_); rintro e w' ⟨rfl, ⟨nd, rfl⟩⟩; (try exact βia))); try go_wp2_with (first | (go_at_call 71; (with_reducible refine (spec_l03Is.calls a1 1 8 t348 _ A5.out).mono ?_); rintro e w' ⟨rfl, ⟨nd, rfl⟩⟩; (try exact βia))))
    go_meet
    case rel => exact ⟨_, (!t348), βya, H', ⟨βBa⟩, ⟨zh_ HB.out⟩⟩
 case rest =>
  clear HC3
  try clear p2
  try clear c4
  try clear c4b0
  try clear c4b1
  obtain ⟨kq, x17_2, rfl, HA, HJ2, HB⟩ := hcut
  cases kq with
  | zero => exact absurd HA.out (by simp [spec_StepsCode.j0])
  | succ kj2 =>
   have H := HA.out
   clear HA
   simp only [spec_StepsCode.j0] at H
   by_cases c6 : x17_2 = true
   · subst c6
     have H1 : (some 1) = some r := by rw [if_pos rfl] at H; exact H
     clear H
     have H := H1
     clear H1
     obtain rfl := Option.some.inj H
     go_wp2
     repeat (go_quiet (fail); try go_wp2)
     go_ret
     exact ⟨βsa, βoa⟩
   · replace c6 := Bool.eq_false_iff.mpr c6
     subst c6
     have H1 : (spec_StepsCode.l0 kj2 l0 a1 0) = some r := by rw [if_neg (show ¬ (false = true) by decide)] at H; exact H
     clear H
     have H := H1
     clear H1
     have H' := zA_ H
     clear H
     go_wp2
     repeat (go_quiet (fail); try go_wp2)
     go_loopg [5] kj2 (fun kq v5 w' => ∃ (x5_2 : Int), v5 = .int .i64 x5_2 ∧ Aside0 (spec_StepsCode.l0 kq l0 a1 x5_2 = some r) ∧ Aside0 (kq ≤ kj2) ∧ Aside0 (Below w.heap.size w w'))
     case atStart => exact ⟨(0), βya, H', ⟨Nat.le_refl _⟩, ⟨zh_ HB.out⟩⟩
     case round =>
      clear H'
      try clear p2
      try clear c4
      try clear c4b0
      try clear c4b1
      try clear c6
      try clear p2
      obtain ⟨x5_2, rfl, HA, HK2, HB⟩ := hrel
      cases gk with
      | zero => exact absurd HA.out (by simp [spec_StepsCode.l0])
      | succ k2 =>
       have H := HA.out
       clear HA
       simp only [spec_StepsCode.l0] at H
       by_cases c7 : x5_2 < (l0.length : Int)
       · rw [if_pos c7] at H
         have c7b0 : decide (x5_2 < (l0.length : Int)) = true := decide_eq_true c7
         clear c7
         by_cases c8 : 0 ≤ x5_2
         · rw [if_pos c8] at H
           have c8b0 : decide (0 ≤ x5_2) = true := decide_eq_true c8
           clear c8
           replace H := Option.bind_eq_some_iff.mp H
           obtain ⟨t350, A90, H⟩ := H
           replace H : (if t350 = true then (spec_StepsCode.l0 k2 l0 a1 (wrap64 (x5_2 + 1))) else (some 1)) = some r := H
           have A9 := zA_ A90
           clear A90
           by_cases c10 : t350 = true
           · subst c10
             have H1 : (spec_StepsCode.l0 k2 l0 a1 (wrap64 (x5_2 + 1))) = some r := by rw [if_pos rfl] at H; exact H
             clear H
             have H := H1
             clear H1
             have H' := zA_ H
             clear H
             have p349 : 0 ≤ (x5_2 : Int) := of_decide_eq_true βxa
             have q349 : x5_2 < (l0.length : Int) := of_decide_eq_true βxa
             obtain ⟨ad349, e349, hx349_0, hx349_1, hx349_2, hx349_3⟩ := at_T42 HR0.out x5_2 p349 q349
             cases e349
             replace hx349_0 := bc_ HB.out hx349_0
             replace hx349_1 := bc_ HB.out hx349_1
             replace hx349_2 := bc_ HB.out hx349_2
             replace hx349_3 := bc_ HB.out hx349_3
             replace p349 := eq_true p349
             replace q349 := eq_true q349
             go_wp2_with (first | (go_at_call 52; (with_reducible refine (spec_StepRight.calls ((rd_T42 l0 x5_2).f0) ((rd_T42 l0 x5_2).f1) ((rd_T42 l0 x5_2).f2) ((rd_T42 l0 x5_2).f3) a1 true _ A9.out).mono ?_); rintro e w11 ⟨rfl, hb⟩; have n0_ := zA_ (below_step (zh_ HB.out) hb); clear HB; have HB := n0_; clear n0_; (try clear hb); (try clear hb2); (try clear hk); (try clear hi)))
             repeat (go_quiet (first | (go_at_call 52; (with_reducible refine (spec_StepRight.calls ((rd_T42 l0 x5_2).f0) ((rd_T42 l0 x5_2).f1) ((rd_T42 l0 x5_2).f2) ((rd_T42 l0 x5_2).f3) a1 true _ A9.out).mono ?_); rintro e w11 ⟨rfl, hb⟩; have n0_ := zA_ (below_step (zh_ HB.out) hb); clear HB; have HB := n0_; clear n0_; (try clear hb); (try clear hb2); (try clear hk); (try clear hi))); try go_wp2_with (first | (go_at_call 52; (with_reducible refine (spec_StepRight.calls ((rd_T42 l0 x5_2).f0) ((rd_T42 l0 x5_2).f1) ((rd_T42 l0 x5_2).f2) ((rd_T42 l0 x5_2).f3) a1 true _ A9.out).mono ?_); rintro e w11 ⟨rfl, hb⟩; have n0_ := zA_ (below_step (zh_ HB.out) hb); clear HB; have HB := n0_; clear n0_; (try clear hb); (try clear hb2); (try clear hk); (try clear hi))))
             go_roundg k2
             case measure => have := HJ2.out; have := HK2.out; omega
             case rel => exact ⟨(wrap64 (x5_2 + 1)), βya, H', ⟨(by have := HJ2.out; have := HK2.out; omega)⟩, ⟨zh_ HB.out⟩⟩
           · replace c10 := Bool.eq_false_iff.mpr c10
             subst c10
             have H1 : (some 1) = some r := by rw [if_neg (show ¬ (false = true) by decide)] at H; exact H
             clear H
             have H := H1
             clear H1
             obtain rfl := Option.some.inj H
             have p349 : 0 ≤ (x5_2 : Int) := of_decide_eq_true βxa
             have q349 : x5_2 < (l0.length : Int) := of_decide_eq_true βxa
             obtain ⟨ad349, e349, hx349_0, hx349_1, hx349_2, hx349_3⟩ := at_T42 HR0.out x5_2 p349 q349
             cases e349
             replace hx349_0 := bc_ HB.out hx349_0
             replace hx349_1 := bc_ HB.out hx349_1
             replace hx349_2 := bc_ HB.out hx349_2
             replace hx349_3 := bc_ HB.out hx349_3
             replace p349 := eq_true p349
             replace q349 := eq_true q349
             go_wp2_with (first | (go_at_call 52; (with_reducible refine (spec_StepRight.calls ((rd_T42 l0 x5_2).f0) ((rd_T42 l0 x5_2).f1) ((rd_T42 l0 x5_2).f2) ((rd_T42 l0 x5_2).f3) a1 false _ A9.out).mono ?_); rintro e w12 ⟨rfl, hb⟩; have n0_ := zA_ (below_step (zh_ HB.out) hb); clear HB; have HB := n0_; clear n0_; (try clear hb); (try clear hb2); (try clear hk); (try clear hi)))
             repeat (go_quiet (first | (go_at_call 52; (with_reducible refine (spec_StepRight.calls ((rd_T42 l0 x5_2).f0) ((rd_T42 l0 x5_2).f1) ((rd_T42 l0 x5_2).f2) ((rd_T42 l0 x5_2).f3) a1 false _ A9.out).mono ?_); rintro e w12 ⟨rfl, hb⟩; have n0_ := zA_ (below_step (zh_ HB.out) hb); clear HB; have HB := n0_; clear n0_; (try clear hb); (try clear hb2); (try clear hk); (try clear hi))); try go_wp2_with (first | (go_at_call 52; (with_reducible refine (spec_StepRight.calls ((rd_T42 l0 x5_2).f0) ((rd_T42 l0 x5_2).f1) ((rd_T42 l0 x5_2).f2) ((rd_T42 l0 x5_2).f3) a1 false _ A9.out).mono ?_); rintro e w12 ⟨rfl, hb⟩; have n0_ := zA_ (below_step (zh_ HB.out) hb); clear HB; have HB := n0_; clear n0_; (try clear hb); (try clear hb2); (try clear hk); (try clear hi))))
             go_ret
             exact ⟨βsa, βoa⟩
         · rw [if_neg c8] at H
           exact absurd H (by simp)
       · rw [if_neg c7] at H
         have c7b0 : decide (x5_2 < (l0.length : Int)) = false := decide_eq_false c7
         clear c7
         have H' := zA_ H
         clear H
         go_wp2
         repeat (go_quiet (fail); try go_wp2)
         go_loopg [6] k2 (fun kq v6 w' => ∃ (x6_3 : Int), v6 = .int .i64 x6_3 ∧ Aside0 (spec_StepsCode.l1 kq l0 x6_3 = some r) ∧ Aside0 (kq ≤ k2) ∧ Aside0 (Below w.heap.size w w'))
         case atStart => exact ⟨(0), βya, H', ⟨Nat.le_refl _⟩, ⟨zh_ HB.out⟩⟩
         case round =>
          clear H'
          try clear c1
          try clear p2
          try clear p3
          try clear q3
          try clear hx3
          try clear c4
          try clear c4b0
          try clear c4b1
          try clear c6
          try clear p6
          try clear c7
          try clear c7b0
          try clear c8
          try clear c8b0
          try clear c10
          try clear hx349_0
          try clear hx349_1
          try clear hx349_2
          try clear hx349_3
          try clear p2
          try clear p349
          try clear q349
          obtain ⟨x6_3, rfl, HA, HK3, HB⟩ := hrel
          cases gk with
          | zero => exact absurd HA.out (by simp [spec_StepsCode.l1])
          | succ k3 =>
           have H := HA.out
           clear HA
           simp only [spec_StepsCode.l1] at H
           by_cases c13 : x6_3 < (l0.length : Int)
           · rw [if_pos c13] at H
             have c13b0 : decide (x6_3 < (l0.length : Int)) = true := decide_eq_true c13
             clear c13
             have H' := zA_ H
             clear H
             go_wp2
             repeat (go_quiet (fail); try go_wp2)
             go_loopg [7] k3 (fun kq v7 w' => ∃ (x7_4 : Int), v7 = .int .i64 x7_4 ∧ Aside0 (spec_StepsCode.l2 kq l0 x6_3 x7_4 = some r) ∧ Aside0 (kq ≤ k3) ∧ Aside0 (Below w.heap.size w w'))
             case atStart => exact ⟨(0), βya, H', ⟨Nat.le_refl _⟩, ⟨zh_ HB.out⟩⟩
             case round =>
              clear H'
              try clear c1
              try clear p2
              try clear p3
              try clear q3
              try clear hx3
              try clear c4
              try clear c4b0
              try clear c4b1
              try clear c6
              try clear p6
              try clear c7
              try clear c7b0
              try clear c8
              try clear c8b0
              try clear c10
              try clear c13
              try clear c13b0
              try clear hx349_0
              try clear hx349_1
              try clear hx349_2
              try clear hx349_3
              try clear p2
              try clear p3
              try clear p349
              try clear p6
              try clear q3
              try clear q349
              obtain ⟨x7_4, rfl, HA, HK4, HB⟩ := hrel
              cases gk with
              | zero => exact absurd HA.out (by simp [spec_StepsCode.l2])
              | succ k4 =>
               have H := HA.out
               clear HA
               simp only [spec_StepsCode.l2] at H
               by_cases c14 : x7_4 < x6_3
               · rw [if_pos c14] at H
                 have c14b0 : decide (x7_4 < x6_3) = true := decide_eq_true c14
                 clear c14
                 by_cases c15 : 0 ≤ x6_3
                 · rw [if_pos c15] at H
                   have c15b0 : decide (0 ≤ x6_3) = true := decide_eq_true c15
                   clear c15
                   by_cases c16 : x6_3 < (l0.length : Int)
                   · rw [if_pos c16] at H
                     have c16b0 : decide (x6_3 < (l0.length : Int)) = true := decide_eq_true c16
                     clear c16
                     by_cases c17 : ((rd_T42 l0 x6_3).f0) = 5
                     · rw [if_pos c17] at H
                       have c17b0 : (((rd_T42 l0 x6_3).f0) == 5) = true := beq_iff_eq.mpr c17
                       have c17b1 : (((rd_T42 l0 x6_3).f0) != 5) = false := bne_eq_false_iff_eq.mpr c17
                       clear c17
                       have H' := zA_ H
                       clear H
                       have p351 : 0 ≤ (x6_3 : Int) := of_decide_eq_true βxa
                       have q351 : x6_3 < (l0.length : Int) := of_decide_eq_true βxa
                       obtain ⟨ad351, e351, hx351_0, hx351_1, hx351_2, hx351_3⟩ := at_T42 HR0.out x6_3 p351 q351
                       cases e351
                       replace hx351_0 := bc_ HB.out hx351_0
                       replace hx351_1 := bc_ HB.out hx351_1
                       replace hx351_2 := bc_ HB.out hx351_2
                       replace hx351_3 := bc_ HB.out hx351_3
                       replace p351 := eq_true p351
                       replace q351 := eq_true q351
                       go_wp2
                       repeat (go_quiet (fail); try go_wp2)
                       go_roundg k4
                       case measure => have := HJ2.out; have := HK2.out; have := HK3.out; have := HK4.out; omega
                       case rel => exact ⟨(wrap64 (x7_4 + 1)), βya, H', ⟨βva⟩, ⟨zh_ HB.out⟩⟩
                     · rw [if_neg c17] at H
                       have c17b0 : (((rd_T42 l0 x6_3).f0) == 5) = false := beq_eq_false_iff_ne.mpr c17
                       have c17b1 : (((rd_T42 l0 x6_3).f0) != 5) = true := bne_iff_ne.mpr c17
                       by_cases c18 : 0 ≤ x7_4
                       · rw [if_pos c18] at H
                         have c18b0 : decide (0 ≤ x7_4) = true := decide_eq_true c18
                         clear c18
                         by_cases c19 : x7_4 < (l0.length : Int)
                         · rw [if_pos c19] at H
                           have c19b0 : decide (x7_4 < (l0.length : Int)) = true := decide_eq_true c19
                           clear c19
                           by_cases c20 : ((rd_T42 l0 x7_4).f0) = 5
                           · rw [if_pos c20] at H
                             have c20b0 : (((rd_T42 l0 x7_4).f0) == 5) = true := beq_iff_eq.mpr c20
                             have c20b1 : (((rd_T42 l0 x7_4).f0) != 5) = false := bne_eq_false_iff_eq.mpr c20
                             clear c20
                             have H' := zA_ H
                             clear H
                             have p351 : 0 ≤ (x6_3 : Int) := of_decide_eq_true βxa
                             have q351 : x6_3 < (l0.length : Int) := of_decide_eq_true βxa
                             obtain ⟨ad351, e351, hx351_0, hx351_1, hx351_2, hx351_3⟩ := at_T42 HR0.out x6_3 p351 q351
                             cases e351
                             replace hx351_0 := bc_ HB.out hx351_0
                             replace hx351_1 := bc_ HB.out hx351_1
                             replace hx351_2 := bc_ HB.out hx351_2
                             replace hx351_3 := bc_ HB.out hx351_3
                             replace p351 := eq_true p351
                             replace q351 := eq_true q351
                             have p352 : 0 ≤ (x7_4 : Int) := of_decide_eq_true βxa
                             have q352 : x7_4 < (l0.length : Int) := of_decide_eq_true βxa
                             obtain ⟨ad352, e352, hx352_0, hx352_1, hx352_2, hx352_3⟩ := at_T42 HR0.out x7_4 p352 q352
                             obtain rfl : ad351 = ad352 := (by injection e352)
                             replace hx352_0 := bc_ HB.out hx352_0
                             replace hx352_1 := bc_ HB.out hx352_1
                             replace hx352_2 := bc_ HB.out hx352_2
                             replace hx352_3 := bc_ HB.out hx352_3
                             replace p352 := eq_true p352
                             replace q352 := eq_true q352
                             go_wp2
                             repeat (go_quiet (fail); try go_wp2)
                             go_roundg k4
                             case measure => have := HJ2.out; have := HK2.out; have := HK3.out; have := HK4.out; omega
                             case rel => exact ⟨(wrap64 (x7_4 + 1)), βya, H', ⟨βva⟩, ⟨zh_ HB.out⟩⟩
                           · rw [if_neg c20] at H
                             have c20b0 : (((rd_T42 l0 x7_4).f0) == 5) = false := beq_eq_false_iff_ne.mpr c20
                             have c20b1 : (((rd_T42 l0 x7_4).f0) != 5) = true := bne_iff_ne.mpr c20
                             by_cases c21 : ((rd_T42 l0 x6_3).f1) = ((rd_T42 l0 x7_4).f1)
                             · rw [if_pos c21] at H
                               have c21b0 : (((rd_T42 l0 x6_3).f1) == ((rd_T42 l0 x7_4).f1)) = true := beq_iff_eq.mpr c21
                               have c21b1 : (((rd_T42 l0 x6_3).f1) != ((rd_T42 l0 x7_4).f1)) = false := bne_eq_false_iff_eq.mpr c21
                               clear c21
                               obtain rfl := Option.some.inj H
                               have p351 : 0 ≤ (x6_3 : Int) := of_decide_eq_true βxa
                               have q351 : x6_3 < (l0.length : Int) := of_decide_eq_true βxa
                               obtain ⟨ad351, e351, hx351_0, hx351_1, hx351_2, hx351_3⟩ := at_T42 HR0.out x6_3 p351 q351
                               cases e351
                               replace hx351_0 := bc_ HB.out hx351_0
                               replace hx351_1 := bc_ HB.out hx351_1
                               replace hx351_2 := bc_ HB.out hx351_2
                               replace hx351_3 := bc_ HB.out hx351_3
                               replace p351 := eq_true p351
                               replace q351 := eq_true q351
                               have p352 : 0 ≤ (x7_4 : Int) := of_decide_eq_true βxa
                               have q352 : x7_4 < (l0.length : Int) := of_decide_eq_true βxa
                               obtain ⟨ad352, e352, hx352_0, hx352_1, hx352_2, hx352_3⟩ := at_T42 HR0.out x7_4 p352 q352
                               obtain rfl : ad351 = ad352 := (by injection e352)
                               replace hx352_0 := bc_ HB.out hx352_0
                               replace hx352_1 := bc_ HB.out hx352_1
                               replace hx352_2 := bc_ HB.out hx352_2
                               replace hx352_3 := bc_ HB.out hx352_3
                               replace p352 := eq_true p352
                               replace q352 := eq_true q352
                               have p353 : 0 ≤ (x6_3 : Int) := of_decide_eq_true βxa
                               have q353 : x6_3 < (l0.length : Int) := of_decide_eq_true βxa
                               obtain ⟨ad353, e353, hx353_0, hx353_1, hx353_2, hx353_3⟩ := at_T42 HR0.out x6_3 p353 q353
                               obtain rfl : ad351 = ad353 := (by injection e353)
                               replace hx353_0 := bc_ HB.out hx353_0
                               replace hx353_1 := bc_ HB.out hx353_1
                               replace hx353_2 := bc_ HB.out hx353_2
                               replace hx353_3 := bc_ HB.out hx353_3
                               replace p353 := eq_true p353
                               replace q353 := eq_true q353
                               have p354 : 0 ≤ (x7_4 : Int) := of_decide_eq_true βxa
                               have q354 : x7_4 < (l0.length : Int) := of_decide_eq_true βxa
                               obtain ⟨ad354, e354, hx354_0, hx354_1, hx354_2, hx354_3⟩ := at_T42 HR0.out x7_4 p354 q354
                               obtain rfl : ad351 = ad354 := (by injection e354)
                               replace hx354_0 := bc_ HB.out hx354_0
                               replace hx354_1 := bc_ HB.out hx354_1
                               replace hx354_2 := bc_ HB.out hx354_2
                               replace hx354_3 := bc_ HB.out hx354_3
                               replace p354 := eq_true p354
                               replace q354 := eq_true q354
                               go_wp2
                               repeat (go_quiet (fail); try go_wp2)
                               go_ret
                               exact ⟨βsa, βoa⟩
                             · rw [if_neg c21] at H
                               have c21b0 : (((rd_T42 l0 x6_3).f1) == ((rd_T42 l0 x7_4).f1)) = false := beq_eq_false_iff_ne.mpr c21
                               have c21b1 : (((rd_T42 l0 x6_3).f1) != ((rd_T42 l0 x7_4).f1)) = true := bne_iff_ne.mpr c21
                               have H' := zA_ H
                               clear H
                               have p351 : 0 ≤ (x6_3 : Int) := of_decide_eq_true βxa
                               have q351 : x6_3 < (l0.length : Int) := of_decide_eq_true βxa
                               obtain ⟨ad351, e351, hx351_0, hx351_1, hx351_2, hx351_3⟩ := at_T42 HR0.out x6_3 p351 q351
                               cases e351
                               replace hx351_0 := bc_ HB.out hx351_0
                               replace hx351_1 := bc_ HB.out hx351_1
                               replace hx351_2 := bc_ HB.out hx351_2
                               replace hx351_3 := bc_ HB.out hx351_3
                               replace p351 := eq_true p351
                               replace q351 := eq_true q351
                               have p352 : 0 ≤ (x7_4 : Int) := of_decide_eq_true βxa
                               have q352 : x7_4 < (l0.length : Int) := of_decide_eq_true βxa
                               obtain ⟨ad352, e352, hx352_0, hx352_1, hx352_2, hx352_3⟩ := at_T42 HR0.out x7_4 p352 q352
                               obtain rfl : ad351 = ad352 := (by injection e352)
                               replace hx352_0 := bc_ HB.out hx352_0
                               replace hx352_1 := bc_ HB.out hx352_1
                               replace hx352_2 := bc_ HB.out hx352_2
                               replace hx352_3 := bc_ HB.out hx352_3
                               replace p352 := eq_true p352
                               replace q352 := eq_true q352
                               have p353 : 0 ≤ (x6_3 : Int) := of_decide_eq_true βxa
                               have q353 : x6_3 < (l0.length : Int) := of_decide_eq_true βxa
                               obtain ⟨ad353, e353, hx353_0, hx353_1, hx353_2, hx353_3⟩ := at_T42 HR0.out x6_3 p353 q353
                               obtain rfl : ad351 = ad353 := (by injection e353)
                               replace hx353_0 := bc_ HB.out hx353_0
                               replace hx353_1 := bc_ HB.out hx353_1
                               replace hx353_2 := bc_ HB.out hx353_2
                               replace hx353_3 := bc_ HB.out hx353_3
                               replace p353 := eq_true p353
                               replace q353 := eq_true q353
                               have p354 : 0 ≤ (x7_4 : Int) := of_decide_eq_true βxa
                               have q354 : x7_4 < (l0.length : Int) := of_decide_eq_true βxa
                               obtain ⟨ad354, e354, hx354_0, hx354_1, hx354_2, hx354_3⟩ := at_T42 HR0.out x7_4 p354 q354
                               obtain rfl : ad351 = ad354 := (by injection e354)
                               replace hx354_0 := bc_ HB.out hx354_0
                               replace hx354_1 := bc_ HB.out hx354_1
                               replace hx354_2 := bc_ HB.out hx354_2
                               replace hx354_3 := bc_ HB.out hx354_3
                               replace p354 := eq_true p354
                               replace q354 := eq_true q354
                               go_wp2
                               repeat (go_quiet (fail); try go_wp2)
                               go_roundg k4
                               case measure => have := HJ2.out; have := HK2.out; have := HK3.out; have := HK4.out; omega
                               case rel => exact ⟨(wrap64 (x7_4 + 1)), βya, H', ⟨βva⟩, ⟨zh_ HB.out⟩⟩
                         · rw [if_neg c19] at H
                           exact absurd H (by simp)
                       · rw [if_neg c18] at H
                         exact absurd H (by simp)
                   · rw [if_neg c16] at H
                     exact absurd H (by simp)
                 · rw [if_neg c15] at H
                   exact absurd H (by simp)
               · rw [if_neg c14] at H
                 have c14b0 : decide (x7_4 < x6_3) = false := decide_eq_false c14
                 clear c14
                 have H' := zA_ H
                 clear H
                 go_wp2
                 repeat (go_quiet (fail); try go_wp2)
                 go_roundg k4
                 case measure => have := HJ2.out; have := HK2.out; have := HK3.out; have := HK4.out; omega
                 case rel => exact ⟨(wrap64 (x6_3 + 1)), βya, H', ⟨βva⟩, ⟨zh_ HB.out⟩⟩
           · rw [if_neg c13] at H
             have c13b0 : decide (x6_3 < (l0.length : Int)) = false := decide_eq_false c13
             clear c13
             have H' := zA_ H
             clear H
             go_wp2
             repeat (go_quiet (fail); try go_wp2)
             go_loopg [8, 9] k3 (fun kq v8 v9 w' => ∃ (x8_4 : Int) (x9_4 : Int), v8 = .int .i64 x8_4 ∧ v9 = .int .i64 x9_4 ∧ Aside0 (spec_StepsCode.l3 kq l0 x8_4 x9_4 = some r) ∧ Aside0 (kq ≤ k3) ∧ Aside0 (Below w.heap.size w w'))
             case atStart => exact ⟨((-1)), (0), βya, βya, H', ⟨Nat.le_refl _⟩, ⟨zh_ HB.out⟩⟩
             case round =>
              clear H'
              try clear c1
              try clear c2
              try clear p2
              try clear p3
              try clear q3
              try clear hx3
              try clear c4
              try clear c4b0
              try clear c4b1
              try clear c6
              try clear p6
              try clear c7
              try clear c7b0
              try clear c8
              try clear c8b0
              try clear c10
              try clear c13
              try clear c13b0
              try clear c14
              try clear c14b0
              try clear c15
              try clear c15b0
              try clear c16
              try clear c16b0
              try clear c17
              try clear c17b0
              try clear c17b1
              try clear c18
              try clear c18b0
              try clear c19
              try clear c19b0
              try clear c20
              try clear c20b0
              try clear c20b1
              try clear c21
              try clear c21b0
              try clear c21b1
              try clear hx349_0
              try clear hx349_1
              try clear hx349_2
              try clear hx349_3
              try clear hx351_0
              try clear hx351_1
              try clear hx351_2
              try clear hx351_3
              try clear hx352_0
              try clear hx352_1
              try clear hx352_2
              try clear hx352_3
              try clear hx353_0
              try clear hx353_1
              try clear hx353_2
              try clear hx353_3
              try clear hx354_0
              try clear hx354_1
              try clear hx354_2
              try clear hx354_3
              try clear p2
              try clear p3
              try clear p349
              try clear p351
              try clear p352
              try clear p353
              try clear p354
              try clear p6
              try clear q3
              try clear q349
              try clear q351
              try clear q352
              try clear q353
              try clear q354
              obtain ⟨x8_4, x9_4, rfl, rfl, HA, HK4, HB⟩ := hrel
              cases gk with
              | zero => exact absurd HA.out (by simp [spec_StepsCode.l3])
              | succ k4 =>
               have H := HA.out
               clear HA
               simp only [spec_StepsCode.l3] at H
               by_cases c22 : x9_4 < (l0.length : Int)
               · rw [if_pos c22] at H
                 have c22b0 : decide (x9_4 < (l0.length : Int)) = true := decide_eq_true c22
                 clear c22
                 by_cases c23 : 0 ≤ x9_4
                 · rw [if_pos c23] at H
                   have c23b0 : decide (0 ≤ x9_4) = true := decide_eq_true c23
                   clear c23
                   by_cases c24 : ((rd_T42 l0 x9_4).f0) = 5
                   · rw [if_pos c24] at H
                     have c24b0 : (((rd_T42 l0 x9_4).f0) == 5) = true := beq_iff_eq.mpr c24
                     have c24b1 : (((rd_T42 l0 x9_4).f0) != 5) = false := bne_eq_false_iff_eq.mpr c24
                     clear c24
                     by_cases c25 : ((rd_T42 l0 x9_4).f2) ≤ x8_4
                     · rw [if_pos c25] at H
                       have c25b0 : decide (((rd_T42 l0 x9_4).f2) ≤ x8_4) = true := decide_eq_true c25
                       clear c25
                       obtain rfl := Option.some.inj H
                       have p355 : 0 ≤ (x9_4 : Int) := of_decide_eq_true βxa
                       have q355 : x9_4 < (l0.length : Int) := of_decide_eq_true βxa
                       obtain ⟨ad355, e355, hx355_0, hx355_1, hx355_2, hx355_3⟩ := at_T42 HR0.out x9_4 p355 q355
                       cases e355
                       replace hx355_0 := bc_ HB.out hx355_0
                       replace hx355_1 := bc_ HB.out hx355_1
                       replace hx355_2 := bc_ HB.out hx355_2
                       replace hx355_3 := bc_ HB.out hx355_3
                       replace p355 := eq_true p355
                       replace q355 := eq_true q355
                       have p356 : 0 ≤ (x9_4 : Int) := of_decide_eq_true βxa
                       have q356 : x9_4 < (l0.length : Int) := of_decide_eq_true βxa
                       obtain ⟨ad356, e356, hx356_0, hx356_1, hx356_2, hx356_3⟩ := at_T42 HR0.out x9_4 p356 q356
                       obtain rfl : ad355 = ad356 := (by injection e356)
                       replace hx356_0 := bc_ HB.out hx356_0
                       replace hx356_1 := bc_ HB.out hx356_1
                       replace hx356_2 := bc_ HB.out hx356_2
                       replace hx356_3 := bc_ HB.out hx356_3
                       replace p356 := eq_true p356
                       replace q356 := eq_true q356
                       go_wp2
                       repeat (go_quiet (fail); try go_wp2)
                       go_ret
                       exact ⟨βsa, βoa⟩
                     · rw [if_neg c25] at H
                       have c25b0 : decide (((rd_T42 l0 x9_4).f2) ≤ x8_4) = false := decide_eq_false c25
                       clear c25
                       have H' := zA_ H
                       clear H
                       have p355 : 0 ≤ (x9_4 : Int) := of_decide_eq_true βxa
                       have q355 : x9_4 < (l0.length : Int) := of_decide_eq_true βxa
                       obtain ⟨ad355, e355, hx355_0, hx355_1, hx355_2, hx355_3⟩ := at_T42 HR0.out x9_4 p355 q355
                       cases e355
                       replace hx355_0 := bc_ HB.out hx355_0
                       replace hx355_1 := bc_ HB.out hx355_1
                       replace hx355_2 := bc_ HB.out hx355_2
                       replace hx355_3 := bc_ HB.out hx355_3
                       replace p355 := eq_true p355
                       replace q355 := eq_true q355
                       have p356 : 0 ≤ (x9_4 : Int) := of_decide_eq_true βxa
                       have q356 : x9_4 < (l0.length : Int) := of_decide_eq_true βxa
                       obtain ⟨ad356, e356, hx356_0, hx356_1, hx356_2, hx356_3⟩ := at_T42 HR0.out x9_4 p356 q356
                       obtain rfl : ad355 = ad356 := (by injection e356)
                       replace hx356_0 := bc_ HB.out hx356_0
                       replace hx356_1 := bc_ HB.out hx356_1
                       replace hx356_2 := bc_ HB.out hx356_2
                       replace hx356_3 := bc_ HB.out hx356_3
                       replace p356 := eq_true p356
                       replace q356 := eq_true q356
                       have p357 : 0 ≤ (x9_4 : Int) := of_decide_eq_true βxa
                       have q357 : x9_4 < (l0.length : Int) := of_decide_eq_true βxa
                       obtain ⟨ad357, e357, hx357_0, hx357_1, hx357_2, hx357_3⟩ := at_T42 HR0.out x9_4 p357 q357
                       obtain rfl : ad355 = ad357 := (by injection e357)
                       replace hx357_0 := bc_ HB.out hx357_0
                       replace hx357_1 := bc_ HB.out hx357_1
                       replace hx357_2 := bc_ HB.out hx357_2
                       replace hx357_3 := bc_ HB.out hx357_3
                       replace p357 := eq_true p357
                       replace q357 := eq_true q357
                       go_wp2
                       repeat (go_quiet (fail); try go_wp2)
                       go_roundg k4
                       case measure => have := HJ2.out; have := HK2.out; have := HK3.out; have := HK4.out; omega
                       case rel => exact ⟨((rd_T42 l0 x9_4).f2), (wrap64 (x9_4 + 1)), βya, βya, H', ⟨βva⟩, ⟨zh_ HB.out⟩⟩
                   · rw [if_neg c24] at H
                     have c24b0 : (((rd_T42 l0 x9_4).f0) == 5) = false := beq_eq_false_iff_ne.mpr c24
                     have c24b1 : (((rd_T42 l0 x9_4).f0) != 5) = true := bne_iff_ne.mpr c24
                     have H' := zA_ H
                     clear H
                     have p355 : 0 ≤ (x9_4 : Int) := of_decide_eq_true βxa
                     have q355 : x9_4 < (l0.length : Int) := of_decide_eq_true βxa
                     obtain ⟨ad355, e355, hx355_0, hx355_1, hx355_2, hx355_3⟩ := at_T42 HR0.out x9_4 p355 q355
                     cases e355
                     replace hx355_0 := bc_ HB.out hx355_0
                     replace hx355_1 := bc_ HB.out hx355_1
                     replace hx355_2 := bc_ HB.out hx355_2
                     replace hx355_3 := bc_ HB.out hx355_3
                     replace p355 := eq_true p355
                     replace q355 := eq_true q355
                     go_wp2
                     repeat (go_quiet (fail); try go_wp2)
                     go_roundg k4
                     case measure => have := HJ2.out; have := HK2.out; have := HK3.out; have := HK4.out; omega
                     case rel => exact ⟨(x8_4), (wrap64 (x9_4 + 1)), βya, βya, H', ⟨βva⟩, ⟨zh_ HB.out⟩⟩
                 · rw [if_neg c23] at H
                   exact absurd H (by simp)
               · rw [if_neg c22] at H
                 have c22b0 : decide (x9_4 < (l0.length : Int)) = false := decide_eq_false c22
                 clear c22
                 obtain rfl := Option.some.inj H
                 go_wp2
                 repeat (go_quiet (fail); try go_wp2)
                 go_ret
                 exact ⟨βsa, βoa⟩
mutual
def spec_l01Src_l06Steps.l0 : Nat → Int → List (S42) → Int → Int → List Int → Int → Int → Int → Option ((List (S42)) × Int × Int × Int)
 | 0, _, _, _, _, _, _, _, _ => none
 | k + 1, x1, x5, x6, x7, x1000, x1001, x1002, x1003 => if x7 > 0 then ((spec_l01Src_l06Step.f k x1000 x1001 x1002 x1003 x1).bind fun bt365 => ((spec_l01Src_one.f x1000 bt365.2.2.2.2.1 bt365.2.2.2.2.2.1 bt365.2.2.2.2.2.2 5).bind fun bt373 => (if bt373.1 = true then ((spec_l01Src_n.f x1000 bt373.2.1 bt373.2.2.1 bt373.2.2.2 3).bind fun bt377 => (spec_l01Src_l06Steps.j1 k x1 x5 (wrap64 ((wrap64 (x6 + 1)) + bt377.1)) x7 x1000 bt377.2.1 bt377.2.2.1 bt377.2.2.2 5 0 (wrap64 ((wrap64 (x6 + 1)) + bt377.1)) (⟨#[]⟩ : ByteArray))) else (spec_l01Src_l06Steps.j1 k x1 x5 x6 x7 x1000 bt373.2.1 bt373.2.2.1 bt373.2.2.2 bt365.1 bt365.2.1 bt365.2.2.1 bt365.2.2.2.1)))) else (some (x5, x1001, x1002, x1003))
def spec_l01Src_l06Steps.j1 : Nat → Int → List (S42) → Int → Int → List Int → Int → Int → Int → Int → Int → Int → ByteArray → Option ((List (S42)) × Int × Int × Int)
 | 0, _, _, _, _, _, _, _, _, _, _, _, _ => none
 | k + 1, x1, x5, x6, x7, x1000, x1001, x1002, x1003, x373000, x373001, x373002, x373003 => (some (([] : List (S42)) : List (S42))).bind fun y381 => (if y381.length + x5.length < 3518437208883 then ((some (y381 ++ x5 : List (S42))).bind fun y384 => ((some (([(⟨x373000, x373001, x373002, x373003⟩ : S42)] : List (S42)) : List (S42))).bind fun y387 => (if y384.length + y387.length < 3518437208883 then ((spec_StepsCode.f k (y384 ++ y387) x1).bind fun t393 => (if t393 = 0 then ((some (([(⟨x373000, x373001, x373002, x373003⟩ : S42)] : List (S42)) : List (S42))).bind fun y394 => (if x5.length + y394.length < 3518437208883 then (spec_l01Src_l06Steps.l0 k x1 (x5 ++ y394) x6 (wrap64 (x7 - 1)) x1000 x1001 x1002 x1003) else (none))) else (spec_l01Src_l06Steps.l0 k x1 x5 x6 (wrap64 (x7 - 1)) x1000 x1001 x1002 x1003))) else (none)))) else (none))
end
def spec_l01Src_l06Steps.f (k : Nat) (s0_0 : List Int) (s0_1 : Int) (s0_2 : Int) (s0_3 : Int) (a1 : Int) : Option ((List (S42)) × Int × Int × Int) := (spec_l01Src_n.f s0_0 s0_1 s0_2 s0_3 (wrap64 (a1 + 3))).bind fun bt361 => (spec_l01Src_l06Steps.l0 k a1 (([] : List (S42))) 0 bt361.1 s0_0 bt361.2.1 bt361.2.2.1 bt361.2.2.2)
def spec_l01Src_l06Steps.T10 : Bool × List (List Nat × List Nat) := (true, [([], []), ([], []), ([0, 1], [0, 1]), ([], []), ([3], [3]), ([2, 4, 2], [2, 4]), ([], []), ([5, 6, 5], [5, 6]), ([7], [7])])
def spec_l01Src_l06Steps.B10 : List Nat := [0, 0, 3, 0, 8, 31, 0, 127, 255]
theorem spec_l01Src_l06Steps.tab10 : rtab .any (opsOf Tryd.f64 10) = spec_l01Src_l06Steps.T10 := by kernel_rfl
theorem spec_l01Src_l06Steps.bits10 : waitsOk spec_l01Src_l06Steps.T10.2 spec_l01Src_l06Steps.B10 = true := by kernel_rfl
theorem spec_l01Src_l06Steps.calls (k : Nat) (g : Nat) (s0_0 : List Int) (s0_1 : Int) (s0_2 : Int) (s0_3 : Int) (a1 : Int) (r1 : List (S42)) (r2 : Int) (r3 : Int) (r4 : Int) (w0 w : World) (hI : IsS78 w0 w g s0_0 s0_1 s0_2 s0_3) (hB : Below w0.heap.size w0 w) (h : spec_l01Src_l06Steps.f k s0_0 s0_1 s0_2 s0_3 a1 = some (r1, r2, r3, r4)) :
 Calls Tryd.prog 64 #[.pointer (some ⟨g, 0, none⟩), .int .i64 a1] w fun e w' => ∃ v0_ : Value, e = .returned (v0_) ∧ Kd.R k42 42 w' w.heap.size (fun _ => True) v0_ r1 ∧ IsS78 w0 w' g s0_0 r2 r3 r4 ∧ Below w0.heap.size w0 w' ∧ KeepBut w w' g none := by
 have hu42 := Tryd.underlying42
 have HI0 := zA_ hI
 have HK := zA_ (KeepBut.refl w g none)
 have HL := zA_ hB.size
 clear hI
 have HW0 := zA_ hB.size
 have HB := zA_ hB
 clear hB
 have H : ((spec_l01Src_n.f s0_0 s0_1 s0_2 s0_3 (wrap64 (a1 + 3))).bind fun bt361 => (spec_l01Src_l06Steps.l0 k a1 (([] : List (S42))) 0 bt361.1 s0_0 bt361.2.1 bt361.2.2.1 bt361.2.2.2)) = some (r1, r2, r3, r4) := h
 clear h
 obtain ⟨y358, hy358⟩ : ∃ y_ : List (S42), y_ = (([] : List (S42))) := ⟨_, rfl⟩
 replace H : ((spec_l01Src_n.f s0_0 s0_1 s0_2 s0_3 (wrap64 (a1 + 3))).bind fun bt361 => (spec_l01Src_l06Steps.l0 k a1 y358 0 bt361.1 s0_0 bt361.2.1 bt361.2.2.1 bt361.2.2.2)) = some (r1, r2, r3, r4) := by first | (rw [hy358]; with_reducible exact H) | (have H2_ := (Option.bind_some _ _).symm.trans H; rw [hy358]; with_reducible exact H2_) | (have H2_ := (Option.bind_some _ _).symm.trans H; with_reducible exact H2_) | with_reducible exact H | (rw [hy358]; exact H) | exact H
 have Ny358 := zA_ hy358
 clear hy358
 replace H := Option.bind_eq_some_iff.mp H
 obtain ⟨⟨t361, t362, t363, t364⟩, A30, H⟩ := H
 replace H : (spec_l01Src_l06Steps.l0 k a1 y358 0 t361 s0_0 t362 t363 t364) = some (r1, r2, r3, r4) := H
 have A3 := zA_ A30
 clear A30
 have H' := zA_ H
 clear H
 go_enter Tryd.func64, Tryd.ntmps64
 go_wp2_with (first | ((with_reducible refine gate_dst (N := 9) rfl ?_); refine Kd.R_lit k42 _ 42 ?hg (N := 9) ?hd (xs := ([] : List (S42))) (inner := []) (ok := fun _ => True) (okp := fun _ => True) ?hr ?hp (fun _ hk => hk) trivial (Below.refl _ _) (Nat.le_refl _) (by simp) ?_; (case hd => exact (by rfl)); (case hg => exact (by rfl)); (case hr => exact βAa); (case hp => exact (Reps.none _ _)); intro v359 w4 ho5 hb hg_ hnew_; clear hg_ hnew_; (first | rw [← Ny358.out] at ho5 | (simp only [Int.reduceToNat] at ho5; rw [← Ny358.out] at ho5)); have n0_ := zA_ (Kd.R_lower ho5 (keep_size (w := w) (g := g) (row := none) βja)); have n1_ := zA_ (IsS78.below βA hb); have n2_ := zA_ (KeepBut.trans βja (KeepBut.of_below hb g none) (.inl rfl)); have n3_ := zA_ (below_step βH hb); clear HI0 HK HB; have HO360 := n0_; have HI0 := n1_; have HK := n2_; have HB := n3_; clear n0_ n1_ n2_ n3_; clear hb ho5) | ((with_reducible refine gate_callee (f := 32) rfl ?_); refine goesL_ (some 13) rfl rfl Tryd.func32 βDa rfl #[.pointer (some ⟨g, 0, none⟩), .int .i64 (wrap64 (a1 + 3))] rfl zs_ ?_; (with_reducible refine (spec_l01Src_n.calls g s0_0 s0_1 s0_2 s0_3 (wrap64 (a1 + 3)) t361 t362 t363 t364 w0 _ ?side1 ?side2 A3.out).mono ?_); (case side1 => exact βA); (case side2 => exact βH); rintro e w6 ⟨rfl, hi, hb, hk⟩; refine ⟨_, rfl, ?_⟩; have n0_ := zA_ (Kd.R_mono (Kd.R_keep (IsS78.apart (show IsS78 w0 _ g s0_0 s0_1 s0_2 s0_3 from by repeat (first | (with_reducible first | exact HI0.out | apply IsS78.alloc | apply IsS78.drewN | apply IsS78.drew | apply IsS78.set_1 | apply IsS78.set_2 | apply IsS78.set_3) | exact HI0.out)) (zr_ HO360.out) (by decide)) hk (fun _ h => h.2)) (fun _ h => h.1)); have n1_ := zA_ (KeepBut.trans βja hk (.inl rfl)); have n2_ := zA_ (hb); have n3_ := zA_ (hi); clear HO360 HK HB HI0; have HO360 := n0_; have HK := n1_; have HB := n2_; have HI0 := n3_; clear n0_ n1_ n2_ n3_; (try clear hb); (try clear hb2); (try clear hk); (try clear hi)))
 go_loopg [5, 6, 7] k (fun kq v5 v6 v7 w' => ∃ (x5_1 : List (S42)) (x6_1 : Int) (x7_1 : Int) (x1001_1 : Int) (x1002_1 : Int) (x1003_1 : Int), v6 = .int .i64 x6_1 ∧ v7 = .int .i64 x7_1 ∧ Aside0 (spec_l01Src_l06Steps.l0 kq a1 x5_1 x6_1 x7_1 s0_0 x1001_1 x1002_1 x1003_1 = some (r1, r2, r3, r4)) ∧ Aside0 (kq ≤ k) ∧ Aside0 (Kd.R k42 42 w' w.heap.size (fun _ => True) v5 x5_1) ∧ Aside0 (IsS78 w0 w' g s0_0 x1001_1 x1002_1 x1003_1) ∧ Aside0 (KeepBut w w' g none) ∧ Aside0 (Below w0.heap.size w0 w'))
 case atStart => exact ⟨(y358), (0), (t361), (t362), (t363), (t364), βya, βya, H', ⟨Nat.le_refl _⟩, ⟨zr_ HO360.out⟩, ⟨βA⟩, ⟨βja⟩, ⟨βH⟩⟩
 case round =>
  clear H'
  try clear p2
  try clear c3
  try clear c6
  try clear p6
  obtain ⟨x5_1, x6_1, x7_1, x1001_1, x1002_1, x1003_1, rfl, rfl, HA, HK1, HO_5, HI0, HK, HB⟩ := hrel
  cases gk with
  | zero => exact absurd HA.out (by simp [spec_l01Src_l06Steps.l0])
  | succ k1 =>
   have H := HA.out
   clear HA
   simp only [spec_l01Src_l06Steps.l0] at H
   by_cases c7 : x7_1 > 0
   · rw [if_pos c7] at H
     have c7b0 : decide (0 < x7_1) = true := decide_eq_true c7
     clear c7
     replace H := Option.bind_eq_some_iff.mp H
     obtain ⟨⟨t365, t366, t367, t368, t369, t370, t371⟩, A80, H⟩ := H
     replace H : ((spec_l01Src_one.f s0_0 t369 t370 t371 5).bind fun bt373 => (if bt373.1 = true then ((spec_l01Src_n.f s0_0 bt373.2.1 bt373.2.2.1 bt373.2.2.2 3).bind fun bt377 => (spec_l01Src_l06Steps.j1 k1 a1 x5_1 (wrap64 ((wrap64 (x6_1 + 1)) + bt377.1)) x7_1 s0_0 bt377.2.1 bt377.2.2.1 bt377.2.2.2 5 0 (wrap64 ((wrap64 (x6_1 + 1)) + bt377.1)) (⟨#[]⟩ : ByteArray))) else (spec_l01Src_l06Steps.j1 k1 a1 x5_1 x6_1 x7_1 s0_0 bt373.2.1 bt373.2.2.1 bt373.2.2.2 t365 t366 t367 t368))) = some (r1, r2, r3, r4) := H
     have A8 := zA_ A80
     clear A80
     replace H := Option.bind_eq_some_iff.mp H
     obtain ⟨⟨t373, t374, t375, t376⟩, A90, H⟩ := H
     replace H : (if t373 = true then ((spec_l01Src_n.f s0_0 t374 t375 t376 3).bind fun bt377 => (spec_l01Src_l06Steps.j1 k1 a1 x5_1 (wrap64 ((wrap64 (x6_1 + 1)) + bt377.1)) x7_1 s0_0 bt377.2.1 bt377.2.2.1 bt377.2.2.2 5 0 (wrap64 ((wrap64 (x6_1 + 1)) + bt377.1)) (⟨#[]⟩ : ByteArray))) else (spec_l01Src_l06Steps.j1 k1 a1 x5_1 x6_1 x7_1 s0_0 t374 t375 t376 t365 t366 t367 t368)) = some (r1, r2, r3, r4) := H
     have A9 := zA_ A90
     clear A90
     have HC10 := zA_ H
     clear H
     go_upto_if 22 with (first | ((with_reducible refine gate_callee (f := 44) rfl ?_); refine goesL_ (some 20) rfl rfl Tryd.func44 βDa rfl #[.pointer (some ⟨g, 0, none⟩), .int .i64 a1] rfl zs_ ?_; (with_reducible refine (spec_l01Src_l06Step.calls k1 g s0_0 x1001_1 x1002_1 x1003_1 a1 t365 t366 t367 t368 t369 t370 t371 w0 _ ?side1 ?side2 A8.out).mono ?_); (case side1 => exact βA); (case side2 => exact βH); rintro e w11 ⟨rfl, hi, hb, hk⟩; refine ⟨_, rfl, ?_⟩; have n0_ := zA_ (Kd.R_mono (Kd.R_keep (IsS78.apart (show IsS78 w0 _ g s0_0 x1001_1 x1002_1 x1003_1 from by repeat (first | (with_reducible first | exact HI0.out | apply IsS78.alloc | apply IsS78.drewN | apply IsS78.drew | apply IsS78.set_1 | apply IsS78.set_2 | apply IsS78.set_3) | exact HI0.out)) (zr_ HO_5.out) (by decide)) hk (fun _ h => h.2)) (fun _ h => h.1)); have n1_ := zA_ (KeepBut.trans βja hk (.inl rfl)); have n2_ := zA_ (hb); have n3_ := zA_ (hi); clear HO_5 HK HB HI0; have HO_5 := n0_; have HK := n1_; have HB := n2_; have HI0 := n3_; clear n0_ n1_ n2_ n3_; (try clear hb); (try clear hb2); (try clear hk); (try clear hi)) | ((with_reducible refine gate_dst (N := 8) rfl ?_); refine box_event ?hg (N := 8) ?hd (cs := #[.int .i64 0, .int .i64 0, .int .i64 0, .string (⟨#[]⟩ : ByteArray)]) (t := 42) ?hr ?_; (case hd => exact (by rfl)); (case hg => exact (by rfl)); (case hr => exact βAa); intro gb372 hg w12 hbox hb; have n0_ := zA_ (Kd.R_below (Kd.R_elderB (zr_ HO_5.out) gb372 (Nat.le_of_eq hg.symm)) hb); have n1_ := zA_ (IsS78.below βA hb); have n2_ := zA_ (KeepBut.trans βja (KeepBut.of_below hb g none) (.inl rfl)); have n3_ := zA_ (below_step βH hb); have n4_ := zA_ (hbox); have n5_ := zA_ ((by rw [hg]; exact (keep_size (w := w) (g := g) (row := none) βja) : w.heap.size ≤ gb372)); have n6_ := zA_ ((Nat.le_trans HW0.out (by rw [hg]; exact (keep_size (w := w) (g := g) (row := none) βja) : w.heap.size ≤ gb372) : w0.heap.size ≤ gb372)); have n7_ := zA_ ((by rw [hg]; exact Nat.ne_of_lt (IsS78.lt (show IsS78 w0 _ g s0_0 t369 t370 t371 from by repeat (first | (with_reducible first | exact HI0.out | apply IsS78.alloc | apply IsS78.drewN | apply IsS78.drew | apply IsS78.set_1 | apply IsS78.set_2 | apply IsS78.set_3) | exact HI0.out))) : g ≠ gb372)); have n8_ := zA_ ((by rw [hg]; exact Nat.ne_of_gt (IsS78.lt (show IsS78 w0 _ g s0_0 t369 t370 t371 from by repeat (first | (with_reducible first | exact HI0.out | apply IsS78.alloc | apply IsS78.drewN | apply IsS78.drew | apply IsS78.set_1 | apply IsS78.set_2 | apply IsS78.set_3) | exact HI0.out))) : gb372 ≠ g)); clear HO_5 HI0 HK HB; have HO_5 := n0_; have HI0 := n1_; have HK := n2_; have HB := n3_; have BK372 := n4_; have GW372 := n5_; have GE372 := n6_; have NB0_372 := n7_; have NB372_0 := n8_; clear n0_ n1_ n2_ n3_ n4_ n5_ n6_ n7_ n8_; clear hb hbox hg; have hnb13 := NB372_0.out; have hnc13 := NB0_372.out; have hcz14_0 := cz_ BK372.out 0 (.int .i64 0) rfl; have hcz14_1 := cz_ BK372.out 1 (.int .i64 0) rfl; have hcz14_2 := cz_ BK372.out 2 (.int .i64 0) rfl; have hcz14_3 := cz_ BK372.out 3 (.string (⟨#[]⟩ : ByteArray)) rfl; have hfz14_0 := blk_frozen BK372.out 0; have hfz14_1 := blk_frozen BK372.out 1; have hfz14_2 := blk_frozen BK372.out 2; have hfz14_3 := blk_frozen BK372.out 3) | ((with_reducible refine gate_callee (f := 42) rfl ?_); refine goesL_ (some 22) rfl rfl Tryd.func42 βDa rfl #[.pointer (some ⟨g, 0, none⟩), .int .i64 5] rfl zs_ ?_; (with_reducible refine (spec_l01Src_one.calls g s0_0 t369 t370 t371 5 t373 t374 t375 t376 w0 _ ?side1 ?side2 A9.out).mono ?_); (case side1 => exact βp); (case side2 => exact βv); rintro e w15 ⟨rfl, hi, hb, hk⟩; refine ⟨_, rfl, ?_⟩; have n0_ := zA_ (Kd.R_mono (Kd.R_keep (IsS78.apart (show IsS78 w0 _ g s0_0 t369 t370 t371 from by repeat (first | (with_reducible first | exact HI0.out | apply IsS78.alloc | apply IsS78.drewN | apply IsS78.drew | apply IsS78.set_1 | apply IsS78.set_2 | apply IsS78.set_3 | refine IsS78.far ?_ NB0_372.out _) | exact HI0.out)) (by (with_reducible repeat (first | apply Kd.R_alloc | apply Kd.R_drewN | apply Kd.R_drew)); exact (Kd.R_mono (Kd.R_far (p := ⟨gb372, 3, none⟩) (Kd.R_far (p := ⟨gb372, 2, none⟩) (Kd.R_far (p := ⟨gb372, 1, none⟩) (Kd.R_far (p := ⟨gb372, 0, none⟩) (Kd.R_mono HO_5.out (fun k_ hk => (⟨hk, hk.2⟩ : _ ∧ k_ ≠ gb372))) (fun _ hk => hk.2) (.int .i64 t365)) (fun _ hk => hk.2) (.int .i64 t366)) (fun _ hk => hk.2) (.int .i64 t367)) (fun _ hk => hk.2) (.string t368)) (fun _ h_ => h_.1))) (by decide)) hk (fun _ h => h.2)) (fun _ h => h.1)); have n1_ := zA_ (KeepBut.blk hk (g' := gb372) (o := .cells #[.int .i64 t365, .int .i64 t366, .int .i64 t367, .string t368] 42 (0, 0)) (by (with_reducible repeat (first | refine blk_drewN ?_ _ | refine blk_drew ?_ | refine blk_alloc ?_ _)); refine blk_put (cs := #[.int .i64 t365, .int .i64 t366, .int .i64 t367, .string (⟨#[]⟩ : ByteArray)]) ?_ 3 _ rfl; (with_reducible repeat (first | refine blk_drewN ?_ _ | refine blk_drew ?_ | refine blk_alloc ?_ _)); refine blk_put (cs := #[.int .i64 t365, .int .i64 t366, .int .i64 0, .string (⟨#[]⟩ : ByteArray)]) ?_ 2 _ rfl; (with_reducible repeat (first | refine blk_drewN ?_ _ | refine blk_drew ?_ | refine blk_alloc ?_ _)); refine blk_put (cs := #[.int .i64 t365, .int .i64 0, .int .i64 0, .string (⟨#[]⟩ : ByteArray)]) ?_ 1 _ rfl; (with_reducible repeat (first | refine blk_drewN ?_ _ | refine blk_drew ?_ | refine blk_alloc ?_ _)); refine blk_put (cs := #[.int .i64 0, .int .i64 0, .int .i64 0, .string (⟨#[]⟩ : ByteArray)]) ?_ 0 _ rfl; (with_reducible repeat (first | refine blk_drewN ?_ _ | refine blk_drew ?_ | refine blk_alloc ?_ _)); exact BK372.out) NB372_0.out (by simp)); have n2_ := zA_ (KeepBut.trans βD hk (.inl rfl)); have n3_ := zA_ (hb); have n4_ := zA_ (hi); clear HO_5 BK372 HK HB HI0; have HO_5 := n0_; have BK372 := n1_; have HK := n2_; have HB := n3_; have HI0 := n4_; clear n0_ n1_ n2_ n3_ n4_; (try clear hb); (try clear hb2); (try clear hk); (try clear hi)))
     (try simp only [Act.put, List.setIfInBounds_toArray, List.set_cons_zero, List.set_cons_succ])
     go_cut [6] (fun v6 wc => ∃ (kq : Nat) (x6_9 : Int) (x1001_9 : Int) (x1002_9 : Int) (x1003_9 : Int) (x373000_9 : Int) (x373001_9 : Int) (x373002_9 : Int) (x373003_9 : ByteArray), v6 = .int .i64 x6_9 ∧ Aside0 (spec_l01Src_l06Steps.j1 kq a1 x5_1 x6_9 x7_1 s0_0 x1001_9 x1002_9 x1003_9 x373000_9 x373001_9 x373002_9 x373003_9 = some (r1, r2, r3, r4)) ∧ Aside0 (kq ≤ k1) ∧ Aside0 (Kd.R k42 42 wc w.heap.size (fun k_ => k_ ≠ gb372) u5 x5_1) ∧ Aside0 (wc.heap[gb372]? = some (.cells #[.int .i64 x373000_9, .int .i64 x373001_9, .int .i64 x373002_9, .string x373003_9] 42 (0, 0))) ∧ Aside0 (IsS78 w0 wc g s0_0 x1001_9 x1002_9 x1003_9) ∧ Aside0 (KeepBut w wc g none) ∧ Aside0 (Below w0.heap.size w0 wc))
     case first =>
      have H := HC10.out
      clear HC10
      by_cases c16 : t373 = true
      · subst c16
        have H1 : ((spec_l01Src_n.f s0_0 t374 t375 t376 3).bind fun bt377 => (spec_l01Src_l06Steps.j1 k1 a1 x5_1 (wrap64 ((wrap64 (x6_1 + 1)) + bt377.1)) x7_1 s0_0 bt377.2.1 bt377.2.2.1 bt377.2.2.2 5 0 (wrap64 ((wrap64 (x6_1 + 1)) + bt377.1)) (⟨#[]⟩ : ByteArray))) = some (r1, r2, r3, r4) := by rw [if_pos rfl] at H; exact H
        clear H
        have H := H1
        clear H1
        replace H := Option.bind_eq_some_iff.mp H
        obtain ⟨⟨t377, t378, t379, t380⟩, A170, H⟩ := H
        replace H : (spec_l01Src_l06Steps.j1 k1 a1 x5_1 (wrap64 ((wrap64 (x6_1 + 1)) + t377)) x7_1 s0_0 t378 t379 t380 5 0 (wrap64 ((wrap64 (x6_1 + 1)) + t377)) (⟨#[]⟩ : ByteArray)) = some (r1, r2, r3, r4) := H
        have A17 := zA_ A170
        clear A170
        have H' := zA_ H
        clear H
        go_wp2_with (first | ((with_reducible refine gate_callee (f := 32) rfl ?_); refine goesL_ (some 26) rfl rfl Tryd.func32 βDa rfl #[.pointer (some ⟨g, 0, none⟩), .int .i64 3] rfl zs_ ?_; (with_reducible refine (spec_l01Src_n.calls g s0_0 t374 t375 t376 3 t377 t378 t379 t380 w0 _ ?side1 ?side2 A17.out).mono ?_); (case side1 => exact βp); (case side2 => exact βv); rintro e w18 ⟨rfl, hi, hb, hk⟩; refine ⟨_, rfl, ?_⟩; have n0_ := zA_ (Kd.R_mono (Kd.R_keep (IsS78.apart (show IsS78 w0 _ g s0_0 t374 t375 t376 from by repeat (first | (with_reducible first | exact HI0.out | apply IsS78.alloc | apply IsS78.drewN | apply IsS78.drew | apply IsS78.set_1 | apply IsS78.set_2 | apply IsS78.set_3 | refine IsS78.far ?_ NB0_372.out _) | exact HI0.out)) (zr_ HO_5.out) (by decide)) hk (fun _ h => h.2)) (fun _ h => h.1)); have n1_ := zA_ (KeepBut.blk hk (g' := gb372) (o := .cells #[.int .i64 t365, .int .i64 t366, .int .i64 t367, .string t368] 42 (0, 0)) (zb_ BK372.out) NB372_0.out (by simp)); have n2_ := zA_ (KeepBut.trans βD hk (.inl rfl)); have n3_ := zA_ (hb); have n4_ := zA_ (hi); clear HO_5 BK372 HK HB HI0; have HO_5 := n0_; have BK372 := n1_; have HK := n2_; have HB := n3_; have HI0 := n4_; clear n0_ n1_ n2_ n3_ n4_; (try clear hb); (try clear hb2); (try clear hk); (try clear hi); have hnb19 := NB372_0.out; have hnc19 := NB0_372.out; have hcz20_0 := cz_ BK372.out 0 (.int .i64 t365) rfl; have hcz20_1 := cz_ BK372.out 1 (.int .i64 t366) rfl; have hcz20_2 := cz_ BK372.out 2 (.int .i64 t367) rfl; have hcz20_3 := cz_ BK372.out 3 (.string t368) rfl; have hfz20_0 := blk_frozen BK372.out 0; have hfz20_1 := blk_frozen BK372.out 1; have hfz20_2 := blk_frozen BK372.out 2; have hfz20_3 := blk_frozen BK372.out 3))
        go_meet
        case rel => exact ⟨_, (wrap64 ((wrap64 (x6_1 + 1)) + t377)), (t378), (t379), (t380), (5), (0), (wrap64 ((wrap64 (x6_1 + 1)) + t377)), ((⟨#[]⟩ : ByteArray)), βya, H', ⟨(by have := HK1.out; first | omega | exact Nat.le_refl _)⟩, ⟨(by (with_reducible repeat (first | apply Kd.R_alloc | apply Kd.R_drewN | apply Kd.R_drew)); exact Kd.R_mono (Kd.R_far (p := ⟨gb372, 3, none⟩) (Kd.R_far (p := ⟨gb372, 2, none⟩) (Kd.R_far (p := ⟨gb372, 1, none⟩) (Kd.R_far (p := ⟨gb372, 0, none⟩) (Kd.R_mono HO_5.out (fun k_ hk => (⟨hk, hk.2⟩ : _ ∧ k_ ≠ gb372))) (fun _ hk => hk.2) (.int .i64 5)) (fun _ hk => hk.2) (.int .i64 0)) (fun _ hk => hk.2) (.int .i64 (wrap64 ((wrap64 (x6_1 + 1)) + t377)))) (fun _ hk => hk.2) (.string (⟨#[]⟩ : ByteArray))) (fun _ hk => hk.1.2))⟩, ⟨(by (with_reducible repeat (first | refine blk_drewN ?_ _ | refine blk_drew ?_ | refine blk_alloc ?_ _)); refine blk_put (cs := #[.int .i64 5, .int .i64 0, .int .i64 (wrap64 ((wrap64 (x6_1 + 1)) + t377)), .string t368]) ?_ 3 _ rfl; (with_reducible repeat (first | refine blk_drewN ?_ _ | refine blk_drew ?_ | refine blk_alloc ?_ _)); refine blk_put (cs := #[.int .i64 5, .int .i64 0, .int .i64 t367, .string t368]) ?_ 2 _ rfl; (with_reducible repeat (first | refine blk_drewN ?_ _ | refine blk_drew ?_ | refine blk_alloc ?_ _)); refine blk_put (cs := #[.int .i64 5, .int .i64 t366, .int .i64 t367, .string t368]) ?_ 1 _ rfl; (with_reducible repeat (first | refine blk_drewN ?_ _ | refine blk_drew ?_ | refine blk_alloc ?_ _)); refine blk_put (cs := #[.int .i64 t365, .int .i64 t366, .int .i64 t367, .string t368]) ?_ 0 _ rfl; (with_reducible repeat (first | refine blk_drewN ?_ _ | refine blk_drew ?_ | refine blk_alloc ?_ _)); exact BK372.out)⟩, ⟨βp⟩, ⟨βD⟩, ⟨βv⟩⟩
      · replace c16 := Bool.eq_false_iff.mpr c16
        subst c16
        have H1 : (spec_l01Src_l06Steps.j1 k1 a1 x5_1 x6_1 x7_1 s0_0 t374 t375 t376 t365 t366 t367 t368) = some (r1, r2, r3, r4) := by rw [if_neg (show ¬ (false = true) by decide)] at H; exact H
        clear H
        have H := H1
        clear H1
        have H' := zA_ H
        clear H
        go_wp2
        go_meet
        case rel => exact ⟨_, (x6_1), (t374), (t375), (t376), (t365), (t366), (t367), (t368), βya, H', ⟨(by have := HK1.out; first | omega | exact Nat.le_refl _)⟩, ⟨(by (with_reducible repeat (first | apply Kd.R_alloc | apply Kd.R_drewN | apply Kd.R_drew)); exact Kd.R_mono HO_5.out (fun _ hk => hk.2))⟩, ⟨zb_ BK372.out⟩, ⟨βp⟩, ⟨βD⟩, ⟨βv⟩⟩
     case rest =>
      clear HC10
      try clear c1
      try clear p2
      try clear c3
      try clear c4
      try clear c6
      try clear p6
      try clear c7
      try clear c7b0
      try clear c13
      try clear c16
      try clear c19
      try clear hcz14_0
      try clear hcz14_1
      try clear hcz14_2
      try clear hcz14_3
      try clear hcz20_0
      try clear hcz20_1
      try clear hcz20_2
      try clear hcz20_3
      try clear hfz14_0
      try clear hfz14_1
      try clear hfz14_2
      try clear hfz14_3
      try clear hfz20_0
      try clear hfz20_1
      try clear hfz20_2
      try clear hfz20_3
      try clear p2
      try clear p6
      obtain ⟨kq, x6_9, x1001_9, x1002_9, x1003_9, x373000_9, x373001_9, x373002_9, x373003_9, rfl, HA, HJ9, HO_5, BK372, HI0, HK, HB⟩ := hcut
      cases kq with
      | zero => exact absurd HA.out (by simp [spec_l01Src_l06Steps.j1])
      | succ kj9 =>
       have H := HA.out
       clear HA
       simp only [spec_l01Src_l06Steps.j1] at H
       obtain ⟨y381, hy381⟩ : ∃ y_ : List (S42), y_ = (([] : List (S42))) := ⟨_, rfl⟩
       replace H : (if y381.length + x5_1.length < 3518437208883 then ((some (y381 ++ x5_1 : List (S42))).bind fun y384 => ((some (([(⟨x373000_9, x373001_9, x373002_9, x373003_9⟩ : S42)] : List (S42)) : List (S42))).bind fun y387 => (if y384.length + y387.length < 3518437208883 then ((spec_StepsCode.f kj9 (y384 ++ y387) a1).bind fun t393 => (if t393 = 0 then ((some (([(⟨x373000_9, x373001_9, x373002_9, x373003_9⟩ : S42)] : List (S42)) : List (S42))).bind fun y394 => (if x5_1.length + y394.length < 3518437208883 then (spec_l01Src_l06Steps.l0 kj9 a1 (x5_1 ++ y394) x6_9 (wrap64 (x7_1 - 1)) s0_0 x1001_9 x1002_9 x1003_9) else (none))) else (spec_l01Src_l06Steps.l0 kj9 a1 x5_1 x6_9 (wrap64 (x7_1 - 1)) s0_0 x1001_9 x1002_9 x1003_9))) else (none)))) else (none)) = some (r1, r2, r3, r4) := by first | (rw [hy381]; with_reducible exact H) | (have H2_ := (Option.bind_some _ _).symm.trans H; rw [hy381]; with_reducible exact H2_) | (have H2_ := (Option.bind_some _ _).symm.trans H; with_reducible exact H2_) | with_reducible exact H | (rw [hy381]; exact H) | exact H
       have Ny381 := zA_ hy381
       clear hy381
       by_cases c21 : y381.length + x5_1.length < 3518437208883
       · rw [if_pos c21] at H
         have LMc21 := zA_ c21
         clear c21
         obtain ⟨y384, hy384⟩ : ∃ y_ : List (S42), y_ = (y381 ++ x5_1) := ⟨_, rfl⟩
         replace H : ((some (([(⟨x373000_9, x373001_9, x373002_9, x373003_9⟩ : S42)] : List (S42)) : List (S42))).bind fun y387 => (if y384.length + y387.length < 3518437208883 then ((spec_StepsCode.f kj9 (y384 ++ y387) a1).bind fun t393 => (if t393 = 0 then ((some (([(⟨x373000_9, x373001_9, x373002_9, x373003_9⟩ : S42)] : List (S42)) : List (S42))).bind fun y394 => (if x5_1.length + y394.length < 3518437208883 then (spec_l01Src_l06Steps.l0 kj9 a1 (x5_1 ++ y394) x6_9 (wrap64 (x7_1 - 1)) s0_0 x1001_9 x1002_9 x1003_9) else (none))) else (spec_l01Src_l06Steps.l0 kj9 a1 x5_1 x6_9 (wrap64 (x7_1 - 1)) s0_0 x1001_9 x1002_9 x1003_9))) else (none))) = some (r1, r2, r3, r4) := by first | (rw [hy384]; with_reducible exact H) | (have H2_ := (Option.bind_some _ _).symm.trans H; rw [hy384]; with_reducible exact H2_) | (have H2_ := (Option.bind_some _ _).symm.trans H; with_reducible exact H2_) | with_reducible exact H | (rw [hy384]; exact H) | exact H
         have Ny384 := zA_ hy384
         clear hy384
         obtain ⟨y387, hy387⟩ : ∃ y_ : List (S42), y_ = (([(⟨x373000_9, x373001_9, x373002_9, x373003_9⟩ : S42)] : List (S42))) := ⟨_, rfl⟩
         replace H : (if y384.length + y387.length < 3518437208883 then ((spec_StepsCode.f kj9 (y384 ++ y387) a1).bind fun t393 => (if t393 = 0 then ((some (([(⟨x373000_9, x373001_9, x373002_9, x373003_9⟩ : S42)] : List (S42)) : List (S42))).bind fun y394 => (if x5_1.length + y394.length < 3518437208883 then (spec_l01Src_l06Steps.l0 kj9 a1 (x5_1 ++ y394) x6_9 (wrap64 (x7_1 - 1)) s0_0 x1001_9 x1002_9 x1003_9) else (none))) else (spec_l01Src_l06Steps.l0 kj9 a1 x5_1 x6_9 (wrap64 (x7_1 - 1)) s0_0 x1001_9 x1002_9 x1003_9))) else (none)) = some (r1, r2, r3, r4) := by first | (rw [hy387]; with_reducible exact H) | (have H2_ := (Option.bind_some _ _).symm.trans H; rw [hy387]; with_reducible exact H2_) | (have H2_ := (Option.bind_some _ _).symm.trans H; with_reducible exact H2_) | with_reducible exact H | (rw [hy387]; exact H) | exact H
         have Ny387 := zA_ hy387
         clear hy387
         by_cases c22 : y384.length + y387.length < 3518437208883
         · rw [if_pos c22] at H
           have LMc22 := zA_ c22
           clear c22
           obtain ⟨y390, hy390⟩ : ∃ y_ : List (S42), y_ = (y384 ++ y387) := ⟨_, rfl⟩
           replace H : ((spec_StepsCode.f kj9 y390 a1).bind fun t393 => (if t393 = 0 then ((some (([(⟨x373000_9, x373001_9, x373002_9, x373003_9⟩ : S42)] : List (S42)) : List (S42))).bind fun y394 => (if x5_1.length + y394.length < 3518437208883 then (spec_l01Src_l06Steps.l0 kj9 a1 (x5_1 ++ y394) x6_9 (wrap64 (x7_1 - 1)) s0_0 x1001_9 x1002_9 x1003_9) else (none))) else (spec_l01Src_l06Steps.l0 kj9 a1 x5_1 x6_9 (wrap64 (x7_1 - 1)) s0_0 x1001_9 x1002_9 x1003_9))) = some (r1, r2, r3, r4) := by first | (rw [hy390]; with_reducible exact H) | (have H2_ := (Option.bind_some _ _).symm.trans H; rw [hy390]; with_reducible exact H2_) | (have H2_ := (Option.bind_some _ _).symm.trans H; with_reducible exact H2_) | with_reducible exact H | (rw [hy390]; exact H) | exact H
           have Ny390 := zA_ hy390
           clear hy390
           replace H := Option.bind_eq_some_iff.mp H
           obtain ⟨t393, A230, H⟩ := H
           replace H : (if t393 = 0 then ((some (([(⟨x373000_9, x373001_9, x373002_9, x373003_9⟩ : S42)] : List (S42)) : List (S42))).bind fun y394 => (if x5_1.length + y394.length < 3518437208883 then (spec_l01Src_l06Steps.l0 kj9 a1 (x5_1 ++ y394) x6_9 (wrap64 (x7_1 - 1)) s0_0 x1001_9 x1002_9 x1003_9) else (none))) else (spec_l01Src_l06Steps.l0 kj9 a1 x5_1 x6_9 (wrap64 (x7_1 - 1)) s0_0 x1001_9 x1002_9 x1003_9)) = some (r1, r2, r3, r4) := H
           have A23 := zA_ A230
           clear A230
           by_cases c24 : t393 = 0
           · rw [if_pos c24] at H
             have c24b0 : (t393 == 0) = true := beq_iff_eq.mpr c24
             have c24b1 : (t393 != 0) = false := bne_eq_false_iff_eq.mpr c24
             clear c24
             obtain ⟨y394, hy394⟩ : ∃ y_ : List (S42), y_ = (([(⟨x373000_9, x373001_9, x373002_9, x373003_9⟩ : S42)] : List (S42))) := ⟨_, rfl⟩
             replace H : (if x5_1.length + y394.length < 3518437208883 then (spec_l01Src_l06Steps.l0 kj9 a1 (x5_1 ++ y394) x6_9 (wrap64 (x7_1 - 1)) s0_0 x1001_9 x1002_9 x1003_9) else (none)) = some (r1, r2, r3, r4) := by first | (rw [hy394]; with_reducible exact H) | (have H2_ := (Option.bind_some _ _).symm.trans H; rw [hy394]; with_reducible exact H2_) | (have H2_ := (Option.bind_some _ _).symm.trans H; with_reducible exact H2_) | with_reducible exact H | (rw [hy394]; exact H) | exact H
             have Ny394 := zA_ hy394
             clear hy394
             by_cases c25 : x5_1.length + y394.length < 3518437208883
             · rw [if_pos c25] at H
               have LMc25 := zA_ c25
               clear c25
               obtain ⟨y397, hy397⟩ : ∃ y_ : List (S42), y_ = (x5_1 ++ y394) := ⟨_, rfl⟩
               replace H : (spec_l01Src_l06Steps.l0 kj9 a1 y397 x6_9 (wrap64 (x7_1 - 1)) s0_0 x1001_9 x1002_9 x1003_9) = some (r1, r2, r3, r4) := by first | (rw [hy397]; with_reducible exact H) | (have H2_ := (Option.bind_some _ _).symm.trans H; rw [hy397]; with_reducible exact H2_) | (have H2_ := (Option.bind_some _ _).symm.trans H; with_reducible exact H2_) | with_reducible exact H | (rw [hy397]; exact H) | exact H
               have Ny397 := zA_ hy397
               clear hy397
               have H' := zA_ H
               clear H
               obtain ⟨Ao26, co26, eo26⟩ := Kd.R_slice HO_5.out
               subst eo26
               try go_wp2
               have n0_ := zA_ (Kd.R_drew HO_5.out)
               have n1_ := zA_ (blk_drew BK372.out)
               have n2_ := zA_ (IsS78.drew HI0.out)
               have n3_ := zA_ (keep_drew HK.out)
               have n4_ := zA_ (below_drew1 HB.out)
               clear HO_5 BK372 HI0 HK HB
               have HO_5 := n0_
               have BK372 := n1_
               have HI0 := n2_
               have HK := n3_
               have HB := n4_
               clear n0_ n1_ n2_ n3_ n4_
               refine start_ (n := 9) (S := fun w' => w'.cell? ⟨gb372, 0, none⟩ = some (.int .i64 x373000_9) ∧ w'.cell? ⟨gb372, 1, none⟩ = some (.int .i64 x373001_9) ∧ w'.cell? ⟨gb372, 2, none⟩ = some (.int .i64 x373002_9) ∧ w'.cell? ⟨gb372, 3, none⟩ = some (.string x373003_9)) (ds := []) (mr_ [0, 9]) βDa rfl rfl ⟨cy_ BK372.out 0, cy_ BK372.out 1, cy_ BK372.out 2, cy_ BK372.out 3⟩ (fun hHeld => ?_); refine with_tabW spec_l01Src_l06Steps.tab10 spec_l01Src_l06Steps.bits10 (fun HT_ HW_ => ?_)
               generalize wc.drew = w27 at HO_5 BK372 HI0 HK HB hHeld ⊢
               refine pure_ (i := 1) (N := some 31) (v := ?_) (a' := ?_) (mr_ [0, 1, 1, 7]) rfl rfl (any_of HT_.out βDa) (fun _ _ _ h => h) (Or.inl ⟨(by rfl), ?_⟩) ?_ ?_
               rotate_left; exact pv_; rotate_left; exact pp_
               refine pure_ (i := 6) (N := some 36) (v := ?_) (a' := ?_) (mr_ [0, 1, 1, 4, 1, 2]) rfl rfl (any_of HT_.out βDa) (fun _ _ _ h => h) (Or.inl ⟨(by rfl), ?_⟩) ?_ ?_
               rotate_left; exact pv_; rotate_left; exact pp_
               refine take_ (i := 3) (N := some 33) (v := ?_) (a' := ?_) (mr_ [0, 1, 1, 1, 1, 2, 1, 2]) rfl rfl (take_ofW HT_.out HW_.out βDa) (fun _ _ _ h => h) (Or.inl ⟨(by rfl), ?_⟩) hHeld ?_ ?_
               rotate_left
               · rintro w' ⟨s0, s1, s2, s3⟩
                 go_simp
                 with_reducible rfl
               rotate_left
               exact pp_
               refine join_ (σ := Value × Value × Value) 3 (mr_ [5, 1, 1, 2]) (fun s_ => [(30, s_.1), (32, s_.2.1), (34, s_.2.2)]) (fun s_ w' => (w'.cell? ⟨gb372, 0, none⟩ = some (.int .i64 x373000_9) ∧ w'.cell? ⟨gb372, 1, none⟩ = some (.int .i64 x373001_9) ∧ w'.cell? ⟨gb372, 2, none⟩ = some (.int .i64 x373002_9) ∧ w'.cell? ⟨gb372, 3, none⟩ = some (.string x373003_9)) ∧ (Kd.R k42 42 w' w.heap.size (fun k_ => some k_ ≠ (s_.2.2 : Value).ownBlock ∧ some k_ ≠ (.slice Ao26 x5_1.length co26 : Value).ownBlock ∧ k_ ≠ gb372) s_.2.1 y384) ∧ (Kd.R k42 42 w' w.heap.size (fun k_ => some k_ ≠ (s_.2.1 : Value).ownBlock ∧ some k_ ≠ (.slice Ao26 x5_1.length co26 : Value).ownBlock ∧ k_ ≠ gb372) s_.2.2 y387) ∧ (Kd.R k42 42 w' w.heap.size (fun k_ => some k_ ≠ (s_.2.1 : Value).ownBlock ∧ some k_ ≠ (s_.2.2 : Value).ownBlock ∧ k_ ≠ gb372) (.slice Ao26 x5_1.length co26) x5_1) ∧ (w'.heap[gb372]? = some (.cells #[.int .i64 x373000_9, .int .i64 x373001_9, .int .i64 x373002_9, .string x373003_9] 42 (0, 0))) ∧ (IsS78 w0 w' g s0_0 x1001_9 x1002_9 x1003_9) ∧ (KeepBut w w' g none) ∧ (Below w0.heap.size w0 w')) ?_ ?_
               rotate_left
               · intro hCont
                 refine two_ (i := 0) (j := 4) (Ni := some 30) (Nj := some 34) (mr_ [2, 1, 1, 2, 1, 2]) (mr_ [0, 1, 1, 1, 2, 1, 1, 2]) rfl rfl rfl rfl (two_of HT_.out βDa) (by decide) (by decide) (fun K hK => ?_) (fun K hK => ?_)
                 · skip
                   refine Kd.R_lit_step k42 _ 42 ?hg (N := 30) ?hd (xs := ([] : List (S42))) (inner := []) (ok := fun _ => True) (okp := fun _ => True) ?hr ?hp (fun _ hk => hk) trivial (Below.refl _ _) (Nat.le_refl _) (by simp) ?_; (case hd => exact (by rfl)); (case hg => exact (by rfl)); (case hr => exact βAa); (case hp => exact (Reps.none _ _))
                   intro v382 w28 ho29 hb hg_ hnew_
                   clear hg_ hnew_
                   (first | rw [← Ny381.out] at ho29 | (simp only [Int.reduceToNat] at ho29; rw [← Ny381.out] at ho29))
                   have n0_ := zA_ (Kd.R_elder' (zr_ HO_5.out) (Kd.R_base ho29) hb)
                   have n1_ := zA_ (Kd.R_lower (Kd.R_newB (Kd.R_new' ho29 (Kd.R_lt (zr_ HO_5.out))) (g := gb372) (o := .cells #[.int .i64 x373000_9, .int .i64 x373001_9, .int .i64 x373002_9, .string x373003_9] 42 (0, 0)) (zb_ BK372.out)) (keep_size (w := w) (g := g) (row := none) βD))
                   have n2_ := zA_ (blk_below (g := gb372) (o := .cells #[.int .i64 x373000_9, .int .i64 x373001_9, .int .i64 x373002_9, .string x373003_9] 42 (0, 0)) (zb_ BK372.out) hb)
                   have n3_ := zA_ (IsS78.below βp hb)
                   have n4_ := zA_ (KeepBut.trans βD (KeepBut.of_below hb g none) (.inl rfl))
                   have n5_ := zA_ (below_step βv hb)
                   clear HO_5 BK372 HI0 HK HB
                   have HO_5 := n0_
                   have HO383 := n1_
                   have BK372 := n2_
                   have HI0 := n3_
                   have HK := n4_
                   have HB := n5_
                   clear n0_ n1_ n2_ n3_ n4_ n5_
                   clear hb ho29
                   refine hK.out _ _ ⟨cy_ BK372.out 0, cy_ BK372.out 1, cy_ BK372.out 2, cy_ BK372.out 3⟩ (fun hHeld => ?_)
                   clear hK K
                   refine norm_ (a' := ?_) ?_ ?_
                   rotate_left
                   · show Act.put _ (some 30) _ = _
                     simp only [Act.put, List.setIfInBounds_toArray, List.set_cons_zero, List.set_cons_succ, i64_w, i32_w]
                     rfl
                   refine two_ (i := 2) (j := 4) (Ni := some 32) (Nj := some 34) (mr_ [4, 2, 1, 2]) (mr_ [2, 1, 2, 1, 1, 2]) rfl rfl rfl rfl (two_of HT_.out βDa) (by decide) (by decide) (fun K hK => ?_) (fun K hK => ?_)
                   · skip
                     refine Kd.R_append_rows_step k42 w.heap.size (by rfl) (.tmp 30) (.tmp 31) 33 42 (.agg #[(.int .i64 0), (.int .i64 0), (.int .i64 0), (.string ⟨#[]⟩)]) 40 rfl Tryd.underlying33 info42 rfl (by decide) (by omega) v382 y381 x5_1 _ _ _ (fun k_ => some k_ ≠ (.slice Ao26 x5_1.length co26 : Value).ownBlock ∧ k_ ≠ gb372) (fun _ => False) rfl rfl ?aO ?aR (fun _ _ h => h) (fun _ h => h.elim) ?aF (Below.refl _ _) ?aS ?aL ?_
                     (case aR => exact βK)
                     (case aF => exact (fun k_ hk => ⟨Kd.fresh' (Kd.R_lt (zr_ HO_5.out)) k_ hk, Kd.freshB (g := gb372) (o := .cells #[.int .i64 x373000_9, .int .i64 x373001_9, .int .i64 x373002_9, .string x373003_9] 42 (0, 0)) (zb_ BK372.out) k_ hk⟩))
                     (case aO => exact (by (with_reducible repeat (first | apply Kd.R_alloc | apply Kd.R_drewN | apply Kd.R_drew)); exact Kd.R_mono HO383.out (fun _ hk => ⟨hk.1.2, hk.2⟩)))
                     (case aS => exact (keep_size (w := w) (g := g) (row := none) βD))
                     (case aL => exact (by have := LMc21.out; omega))
                     intro v385 w30 ho hb hg hat
                     rw [← Ny384.out] at ho
                     have n0_ := zA_ (Kd.R_after (ok := (fun k_ => k_ ≠ gb372)) (zr_ HO_5.out) hg hat)
                     have n1_ := zA_ (blk_grown (g := gb372) (o := .cells #[.int .i64 x373000_9, .int .i64 x373001_9, .int .i64 x373002_9, .string x373003_9] 42 (0, 0)) (zb_ BK372.out) hg (Kd.R_away HO383.out (fun _ hk => hk.2)))
                     have n2_ := zA_ (IsS78.grown βp hg (IsS78.own_ne HI0.out HO383.out (by decide)))
                     have n3_ := zA_ (below_weaken βv HL.out hb)
                     have n4_ := zA_ (KeepBut.trans βD (KeepBut.of_grown hg g) (Kd.R_base2 HO383.out))
                     have n5_ := zA_ (ho)
                     clear HO_5 BK372 HI0 HB HK HO383
                     have HO_5 := n0_
                     have BK372 := n1_
                     have HI0 := n2_
                     have HB := n3_
                     have HK := n4_
                     have HO386 := n5_
                     clear n0_ n1_ n2_ n3_ n4_ n5_
                     clear ho hb hg hat
                     refine hK.out _ _ ⟨cy_ BK372.out 0, cy_ BK372.out 1, cy_ BK372.out 2, cy_ BK372.out 3⟩ (fun hHeld => ?_)
                     clear hK K
                     refine norm_ (a' := ?_) ?_ ?_
                     rotate_left
                     · show Act.put _ (some 32) _ = _
                       simp only [Act.put, List.setIfInBounds_toArray, List.set_cons_zero, List.set_cons_succ, i64_w, i32_w]
                       rfl
                     refine one_ (i := 4) (N := some 34) (mr_ [5, 1, 1, 2]) rfl rfl (one_of HT_.out βDa) (by decide) (fun K hK => ?_)
                     refine Kd.R_lit_step k42 _ 42 ?hg (N := 34) ?hd (xs := ([(⟨x373000_9, x373001_9, x373002_9, x373003_9⟩ : S42)] : List (S42))) (inner := [.int .i64 x373000_9, .int .i64 x373001_9, .int .i64 x373002_9, .string x373003_9]) (ok := fun _ => True) (okp := fun _ => True) ?hr ?hp (fun _ hk => hk) trivial (Below.refl _ _) (Nat.le_refl _) (by simp) ?_; (case hd => exact (by rfl)); (case hg => exact (by rfl)); (case hr => exact βAa); (case hp => exact (Reps.c4 (show Kd.M k42 _ _ _ (⟨x373000_9, x373001_9, x373002_9, x373003_9⟩ : S42) [.int .i64 x373000_9, .int .i64 x373001_9, .int .i64 x373002_9, .string x373003_9] from (k42_mkM _ _ _ (⟨x373000_9, x373001_9, x373002_9, x373003_9⟩ : S42) )) (Reps.none _ _)))
                     intro v388 w31 ho32 hb hg_ hnew_
                     clear hg_ hnew_
                     (first | rw [← Ny387.out] at ho32 | (simp only [Int.reduceToNat] at ho32; rw [← Ny387.out] at ho32))
                     have n0_ := zA_ (Kd.R_elder' (zr_ HO_5.out) (Kd.R_base ho32) hb)
                     have n1_ := zA_ (Kd.R_elder' (zr_ HO386.out) (Kd.R_base ho32) hb)
                     have n2_ := zA_ (Kd.R_lower (Kd.R_newB (Kd.R_new' (Kd.R_new' ho32 (Kd.R_lt (zr_ HO_5.out))) (Kd.R_lt (zr_ HO386.out))) (g := gb372) (o := .cells #[.int .i64 x373000_9, .int .i64 x373001_9, .int .i64 x373002_9, .string x373003_9] 42 (0, 0)) (zb_ BK372.out)) (keep_size (w := w) (g := g) (row := none) βD))
                     have n3_ := zA_ (blk_below (g := gb372) (o := .cells #[.int .i64 x373000_9, .int .i64 x373001_9, .int .i64 x373002_9, .string x373003_9] 42 (0, 0)) (zb_ BK372.out) hb)
                     have n4_ := zA_ (IsS78.below βp hb)
                     have n5_ := zA_ (KeepBut.trans βD (KeepBut.of_below hb g none) (.inl rfl))
                     have n6_ := zA_ (below_step βv hb)
                     clear HO_5 HO386 BK372 HI0 HK HB
                     have HO_5 := n0_
                     have HO386 := n1_
                     have HO389 := n2_
                     have BK372 := n3_
                     have HI0 := n4_
                     have HK := n5_
                     have HB := n6_
                     clear n0_ n1_ n2_ n3_ n4_ n5_ n6_
                     clear hb ho32
                     refine hK.out _ _ ⟨cy_ BK372.out 0, cy_ BK372.out 1, cy_ BK372.out 2, cy_ BK372.out 3⟩ (fun hHeld => ?_)
                     clear hK K
                     refine norm_ (a' := ?_) ?_ ?_
                     rotate_left
                     · show Act.put _ (some 34) _ = _
                       simp only [Act.put, List.setIfInBounds_toArray, List.set_cons_zero, List.set_cons_succ, i64_w, i32_w]
                       rfl
                     exact norm_ βra (hCont (v382, v385, v388) _ ⟨hHeld, βca, βX, (by (with_reducible repeat (first | apply Kd.R_alloc | apply Kd.R_drewN | apply Kd.R_drew)); exact Kd.R_mono HO_5.out (fun _ hk => ⟨hk.1.2, ⟨hk.2, hk.1.1⟩⟩)), (zb_ BK372.out), βp, βD, βv⟩)
                   · skip
                     refine Kd.R_lit_step k42 _ 42 ?hg (N := 34) ?hd (xs := ([(⟨x373000_9, x373001_9, x373002_9, x373003_9⟩ : S42)] : List (S42))) (inner := [.int .i64 x373000_9, .int .i64 x373001_9, .int .i64 x373002_9, .string x373003_9]) (ok := fun _ => True) (okp := fun _ => True) ?hr ?hp (fun _ hk => hk) trivial (Below.refl _ _) (Nat.le_refl _) (by simp) ?_; (case hd => exact (by rfl)); (case hg => exact (by rfl)); (case hr => exact βAa); (case hp => exact (Reps.c4 (show Kd.M k42 _ _ _ (⟨x373000_9, x373001_9, x373002_9, x373003_9⟩ : S42) [.int .i64 x373000_9, .int .i64 x373001_9, .int .i64 x373002_9, .string x373003_9] from (k42_mkM _ _ _ (⟨x373000_9, x373001_9, x373002_9, x373003_9⟩ : S42) )) (Reps.none _ _)))
                     intro v388 w30 ho31 hb hg_ hnew_
                     clear hg_ hnew_
                     (first | rw [← Ny387.out] at ho31 | (simp only [Int.reduceToNat] at ho31; rw [← Ny387.out] at ho31))
                     have n0_ := zA_ (Kd.R_elder' (zr_ HO_5.out) (Kd.R_base ho31) hb)
                     have n1_ := zA_ (Kd.R_elder' (zr_ HO383.out) (Kd.R_base ho31) hb)
                     have n2_ := zA_ (Kd.R_lower (Kd.R_newB (Kd.R_new' (Kd.R_new' ho31 (Kd.R_lt (zr_ HO_5.out))) (Kd.R_lt (zr_ HO383.out))) (g := gb372) (o := .cells #[.int .i64 x373000_9, .int .i64 x373001_9, .int .i64 x373002_9, .string x373003_9] 42 (0, 0)) (zb_ BK372.out)) (keep_size (w := w) (g := g) (row := none) βD))
                     have n3_ := zA_ (blk_below (g := gb372) (o := .cells #[.int .i64 x373000_9, .int .i64 x373001_9, .int .i64 x373002_9, .string x373003_9] 42 (0, 0)) (zb_ BK372.out) hb)
                     have n4_ := zA_ (IsS78.below βp hb)
                     have n5_ := zA_ (KeepBut.trans βD (KeepBut.of_below hb g none) (.inl rfl))
                     have n6_ := zA_ (below_step βv hb)
                     clear HO_5 HO383 BK372 HI0 HK HB
                     have HO_5 := n0_
                     have HO383 := n1_
                     have HO389 := n2_
                     have BK372 := n3_
                     have HI0 := n4_
                     have HK := n5_
                     have HB := n6_
                     clear n0_ n1_ n2_ n3_ n4_ n5_ n6_
                     clear hb ho31
                     refine hK.out _ _ ⟨cy_ BK372.out 0, cy_ BK372.out 1, cy_ BK372.out 2, cy_ BK372.out 3⟩ (fun hHeld => ?_)
                     clear hK K
                     refine norm_ (a' := ?_) ?_ ?_
                     rotate_left
                     · show Act.put _ (some 34) _ = _
                       simp only [Act.put, List.setIfInBounds_toArray, List.set_cons_zero, List.set_cons_succ, i64_w, i32_w]
                       rfl
                     refine one_ (i := 2) (N := some 32) (mr_ [5, 1, 1, 2]) rfl rfl (one_of HT_.out βDa) (by decide) (fun K hK => ?_)
                     refine Kd.R_append_rows_step k42 w.heap.size (by rfl) (.tmp 30) (.tmp 31) 33 42 (.agg #[(.int .i64 0), (.int .i64 0), (.int .i64 0), (.string ⟨#[]⟩)]) 40 rfl Tryd.underlying33 info42 rfl (by decide) (by omega) v382 y381 x5_1 _ _ _ (fun k_ => some k_ ≠ (.slice Ao26 x5_1.length co26 : Value).ownBlock ∧ some k_ ≠ (v388 : Value).ownBlock ∧ k_ ≠ gb372) (fun _ => False) rfl rfl ?aO ?aR (fun _ _ h => h) (fun _ h => h.elim) ?aF (Below.refl _ _) ?aS ?aL ?_
                     (case aR => exact βK)
                     (case aF => exact (fun k_ hk => ⟨Kd.fresh' (Kd.R_lt (zr_ HO_5.out)) k_ hk, Kd.fresh' (Kd.R_lt (zr_ HO389.out)) k_ hk, Kd.freshB (g := gb372) (o := .cells #[.int .i64 x373000_9, .int .i64 x373001_9, .int .i64 x373002_9, .string x373003_9] 42 (0, 0)) (zb_ BK372.out) k_ hk⟩))
                     (case aO => exact βY)
                     (case aS => exact (keep_size (w := w) (g := g) (row := none) βD))
                     (case aL => exact (by have := LMc21.out; omega))
                     intro v385 w32 ho hb hg hat
                     rw [← Ny384.out] at ho
                     have n0_ := zA_ (Kd.R_after (ok := (fun k_ => some k_ ≠ (v388 : Value).ownBlock ∧ k_ ≠ gb372)) (by (with_reducible repeat (first | apply Kd.R_alloc | apply Kd.R_drewN | apply Kd.R_drew)); exact Kd.R_mono HO_5.out (fun _ hk => ⟨⟨hk.2, hk.1.1⟩, hk.1.2⟩)) hg hat)
                     have n1_ := zA_ (blk_grown (g := gb372) (o := .cells #[.int .i64 x373000_9, .int .i64 x373001_9, .int .i64 x373002_9, .string x373003_9] 42 (0, 0)) (zb_ BK372.out) hg (Kd.R_away HO383.out (fun _ hk => hk.1.2)))
                     have n2_ := zA_ (IsS78.grown βp hg (IsS78.own_ne HI0.out HO383.out (by decide)))
                     have n3_ := zA_ (Kd.R_after (ok := (fun k_ => some k_ ≠ (.slice Ao26 x5_1.length co26 : Value).ownBlock ∧ k_ ≠ gb372)) βZ hg hat)
                     have n4_ := zA_ (below_weaken βv HL.out hb)
                     have n5_ := zA_ (KeepBut.trans βD (KeepBut.of_grown hg g) (Kd.R_base2 HO383.out))
                     have n6_ := zA_ (ho)
                     clear HO_5 BK372 HI0 HO389 HB HK HO383
                     have HO_5 := n0_
                     have BK372 := n1_
                     have HI0 := n2_
                     have HO389 := n3_
                     have HB := n4_
                     have HK := n5_
                     have HO386 := n6_
                     clear n0_ n1_ n2_ n3_ n4_ n5_ n6_
                     clear ho hb hg hat
                     refine hK.out _ _ ⟨cy_ BK372.out 0, cy_ BK372.out 1, cy_ BK372.out 2, cy_ BK372.out 3⟩ (fun hHeld => ?_)
                     clear hK K
                     refine norm_ (a' := ?_) ?_ ?_
                     rotate_left
                     · show Act.put _ (some 32) _ = _
                       simp only [Act.put, List.setIfInBounds_toArray, List.set_cons_zero, List.set_cons_succ, i64_w, i32_w]
                       rfl
                     exact norm_ βra (hCont (v382, v385, v388) _ ⟨hHeld, βda, βea, βha, (zb_ BK372.out), βp, βD, βv⟩)
                 · skip
                   refine Kd.R_lit_step k42 _ 42 ?hg (N := 34) ?hd (xs := ([(⟨x373000_9, x373001_9, x373002_9, x373003_9⟩ : S42)] : List (S42))) (inner := [.int .i64 x373000_9, .int .i64 x373001_9, .int .i64 x373002_9, .string x373003_9]) (ok := fun _ => True) (okp := fun _ => True) ?hr ?hp (fun _ hk => hk) trivial (Below.refl _ _) (Nat.le_refl _) (by simp) ?_; (case hd => exact (by rfl)); (case hg => exact (by rfl)); (case hr => exact βAa); (case hp => exact (Reps.c4 (show Kd.M k42 _ _ _ (⟨x373000_9, x373001_9, x373002_9, x373003_9⟩ : S42) [.int .i64 x373000_9, .int .i64 x373001_9, .int .i64 x373002_9, .string x373003_9] from (k42_mkM _ _ _ (⟨x373000_9, x373001_9, x373002_9, x373003_9⟩ : S42) )) (Reps.none _ _)))
                   intro v388 w28 ho29 hb hg_ hnew_
                   clear hg_ hnew_
                   (first | rw [← Ny387.out] at ho29 | (simp only [Int.reduceToNat] at ho29; rw [← Ny387.out] at ho29))
                   have n0_ := zA_ (Kd.R_elder' (zr_ HO_5.out) (Kd.R_base ho29) hb)
                   have n1_ := zA_ (Kd.R_lower (Kd.R_newB (Kd.R_new' ho29 (Kd.R_lt (zr_ HO_5.out))) (g := gb372) (o := .cells #[.int .i64 x373000_9, .int .i64 x373001_9, .int .i64 x373002_9, .string x373003_9] 42 (0, 0)) (zb_ BK372.out)) (keep_size (w := w) (g := g) (row := none) βD))
                   have n2_ := zA_ (blk_below (g := gb372) (o := .cells #[.int .i64 x373000_9, .int .i64 x373001_9, .int .i64 x373002_9, .string x373003_9] 42 (0, 0)) (zb_ BK372.out) hb)
                   have n3_ := zA_ (IsS78.below βp hb)
                   have n4_ := zA_ (KeepBut.trans βD (KeepBut.of_below hb g none) (.inl rfl))
                   have n5_ := zA_ (below_step βv hb)
                   clear HO_5 BK372 HI0 HK HB
                   have HO_5 := n0_
                   have HO389 := n1_
                   have BK372 := n2_
                   have HI0 := n3_
                   have HK := n4_
                   have HB := n5_
                   clear n0_ n1_ n2_ n3_ n4_ n5_
                   clear hb ho29
                   refine hK.out _ _ ⟨cy_ BK372.out 0, cy_ BK372.out 1, cy_ BK372.out 2, cy_ BK372.out 3⟩ (fun hHeld => ?_)
                   clear hK K
                   refine norm_ (a' := ?_) ?_ ?_
                   rotate_left
                   · show Act.put _ (some 34) _ = _
                     simp only [Act.put, List.setIfInBounds_toArray, List.set_cons_zero, List.set_cons_succ, i64_w, i32_w]
                     rfl
                   refine one_ (i := 0) (N := some 30) (mr_ [2, 1, 2, 1, 1, 2]) rfl rfl (one_of HT_.out βDa) (by decide) (fun K hK => ?_)
                   refine Kd.R_lit_step k42 _ 42 ?hg (N := 30) ?hd (xs := ([] : List (S42))) (inner := []) (ok := fun _ => True) (okp := fun _ => True) ?hr ?hp (fun _ hk => hk) trivial (Below.refl _ _) (Nat.le_refl _) (by simp) ?_; (case hd => exact (by rfl)); (case hg => exact (by rfl)); (case hr => exact βAa); (case hp => exact (Reps.none _ _))
                   intro v382 w30 ho31 hb hg_ hnew_
                   clear hg_ hnew_
                   (first | rw [← Ny381.out] at ho31 | (simp only [Int.reduceToNat] at ho31; rw [← Ny381.out] at ho31))
                   have n0_ := zA_ (Kd.R_elder' (zr_ HO_5.out) (Kd.R_base ho31) hb)
                   have n1_ := zA_ (Kd.R_elder' (zr_ HO389.out) (Kd.R_base ho31) hb)
                   have n2_ := zA_ (Kd.R_lower (Kd.R_newB (Kd.R_new' (Kd.R_new' ho31 (Kd.R_lt (zr_ HO_5.out))) (Kd.R_lt (zr_ HO389.out))) (g := gb372) (o := .cells #[.int .i64 x373000_9, .int .i64 x373001_9, .int .i64 x373002_9, .string x373003_9] 42 (0, 0)) (zb_ BK372.out)) (keep_size (w := w) (g := g) (row := none) βD))
                   have n3_ := zA_ (blk_below (g := gb372) (o := .cells #[.int .i64 x373000_9, .int .i64 x373001_9, .int .i64 x373002_9, .string x373003_9] 42 (0, 0)) (zb_ BK372.out) hb)
                   have n4_ := zA_ (IsS78.below βp hb)
                   have n5_ := zA_ (KeepBut.trans βD (KeepBut.of_below hb g none) (.inl rfl))
                   have n6_ := zA_ (below_step βv hb)
                   clear HO_5 HO389 BK372 HI0 HK HB
                   have HO_5 := n0_
                   have HO389 := n1_
                   have HO383 := n2_
                   have BK372 := n3_
                   have HI0 := n4_
                   have HK := n5_
                   have HB := n6_
                   clear n0_ n1_ n2_ n3_ n4_ n5_ n6_
                   clear hb ho31
                   refine hK.out _ _ ⟨cy_ BK372.out 0, cy_ BK372.out 1, cy_ BK372.out 2, cy_ BK372.out 3⟩ (fun hHeld => ?_)
                   clear hK K
                   refine norm_ (a' := ?_) ?_ ?_
                   rotate_left
                   · show Act.put _ (some 30) _ = _
                     simp only [Act.put, List.setIfInBounds_toArray, List.set_cons_zero, List.set_cons_succ, i64_w, i32_w]
                     rfl
                   refine one_ (i := 2) (N := some 32) (mr_ [5, 1, 1, 2]) rfl rfl (one_of HT_.out βDa) (by decide) (fun K hK => ?_)
                   refine Kd.R_append_rows_step k42 w.heap.size (by rfl) (.tmp 30) (.tmp 31) 33 42 (.agg #[(.int .i64 0), (.int .i64 0), (.int .i64 0), (.string ⟨#[]⟩)]) 40 rfl Tryd.underlying33 info42 rfl (by decide) (by omega) v382 y381 x5_1 _ _ _ (fun k_ => some k_ ≠ (.slice Ao26 x5_1.length co26 : Value).ownBlock ∧ some k_ ≠ (v388 : Value).ownBlock ∧ k_ ≠ gb372) (fun _ => False) rfl rfl ?aO ?aR (fun _ _ h => h) (fun _ h => h.elim) ?aF (Below.refl _ _) ?aS ?aL ?_
                   (case aR => exact βK)
                   (case aF => exact (fun k_ hk => ⟨Kd.fresh' (Kd.R_lt (zr_ HO_5.out)) k_ hk, Kd.fresh' (Kd.R_lt (zr_ HO389.out)) k_ hk, Kd.freshB (g := gb372) (o := .cells #[.int .i64 x373000_9, .int .i64 x373001_9, .int .i64 x373002_9, .string x373003_9] 42 (0, 0)) (zb_ BK372.out) k_ hk⟩))
                   (case aO => exact βaa)
                   (case aS => exact (keep_size (w := w) (g := g) (row := none) βD))
                   (case aL => exact (by have := LMc21.out; omega))
                   intro v385 w32 ho hb hg hat
                   rw [← Ny384.out] at ho
                   have n0_ := zA_ (Kd.R_after (ok := (fun k_ => some k_ ≠ (v388 : Value).ownBlock ∧ k_ ≠ gb372)) (by (with_reducible repeat (first | apply Kd.R_alloc | apply Kd.R_drewN | apply Kd.R_drew)); exact Kd.R_mono HO_5.out (fun _ hk => ⟨⟨hk.1.2, hk.1.1⟩, hk.2⟩)) hg hat)
                   have n1_ := zA_ (blk_grown (g := gb372) (o := .cells #[.int .i64 x373000_9, .int .i64 x373001_9, .int .i64 x373002_9, .string x373003_9] 42 (0, 0)) (zb_ BK372.out) hg (Kd.R_away HO383.out (fun _ hk => hk.2)))
                   have n2_ := zA_ (IsS78.grown βp hg (IsS78.own_ne HI0.out HO383.out (by decide)))
                   have n3_ := zA_ (Kd.R_after (ok := (fun k_ => some k_ ≠ (.slice Ao26 x5_1.length co26 : Value).ownBlock ∧ k_ ≠ gb372)) βba hg hat)
                   have n4_ := zA_ (below_weaken βv HL.out hb)
                   have n5_ := zA_ (KeepBut.trans βD (KeepBut.of_grown hg g) (Kd.R_base2 HO383.out))
                   have n6_ := zA_ (ho)
                   clear HO_5 BK372 HI0 HO389 HB HK HO383
                   have HO_5 := n0_
                   have BK372 := n1_
                   have HI0 := n2_
                   have HO389 := n3_
                   have HB := n4_
                   have HK := n5_
                   have HO386 := n6_
                   clear n0_ n1_ n2_ n3_ n4_ n5_ n6_
                   clear ho hb hg hat
                   refine hK.out _ _ ⟨cy_ BK372.out 0, cy_ BK372.out 1, cy_ BK372.out 2, cy_ BK372.out 3⟩ (fun hHeld => ?_)
                   clear hK K
                   refine norm_ (a' := ?_) ?_ ?_
                   rotate_left
                   · show Act.put _ (some 32) _ = _
                     simp only [Act.put, List.setIfInBounds_toArray, List.set_cons_zero, List.set_cons_succ, i64_w, i32_w]
                     rfl
                   exact norm_ βra (hCont (v382, v385, v388) _ ⟨hHeld, βda, βea, βha, (zb_ BK372.out), βp, βD, βv⟩)
               rintro ⟨v382, v385, v388⟩ w33 ⟨hS_, h0_, h1_, h2_, h3_, h4_, h5_, h6_⟩
               have n0_ : Aside0 (Kd.R k42 42 w33 w.heap.size (fun k_ => some k_ ≠ (v388 : Value).ownBlock ∧ some k_ ≠ (.slice Ao26 x5_1.length co26 : Value).ownBlock ∧ k_ ≠ gb372) v385 y384) := ⟨h0_⟩
               have n1_ : Aside0 (Kd.R k42 42 w33 w.heap.size (fun k_ => some k_ ≠ (v385 : Value).ownBlock ∧ some k_ ≠ (.slice Ao26 x5_1.length co26 : Value).ownBlock ∧ k_ ≠ gb372) v388 y387) := ⟨h1_⟩
               have n2_ : Aside0 (Kd.R k42 42 w33 w.heap.size (fun k_ => some k_ ≠ (v385 : Value).ownBlock ∧ some k_ ≠ (v388 : Value).ownBlock ∧ k_ ≠ gb372) (.slice Ao26 x5_1.length co26) x5_1) := ⟨h2_⟩
               have n3_ : Aside0 (w33.heap[gb372]? = some (.cells #[.int .i64 x373000_9, .int .i64 x373001_9, .int .i64 x373002_9, .string x373003_9] 42 (0, 0))) := ⟨h3_⟩
               have n4_ : Aside0 (IsS78 w0 w33 g s0_0 x1001_9 x1002_9 x1003_9) := ⟨h4_⟩
               have n5_ : Aside0 (KeepBut w w33 g none) := ⟨h5_⟩
               have n6_ : Aside0 (Below w0.heap.size w0 w33) := ⟨h6_⟩
               clear HO_5 BK372 HI0 HK HB
               clear h0_ h1_ h2_ h3_ h4_ h5_ h6_
               have HO386 := n0_
               have HO389 := n1_
               have HO_5 := n2_
               have BK372 := n3_
               have HI0 := n4_
               have HK := n5_
               have HB := n6_
               clear n0_ n1_ n2_ n3_ n4_ n5_ n6_
               have hHeld : w33.cell? ⟨gb372, 0, none⟩ = some (.int .i64 x373000_9) ∧ w33.cell? ⟨gb372, 1, none⟩ = some (.int .i64 x373001_9) ∧ w33.cell? ⟨gb372, 2, none⟩ = some (.int .i64 x373002_9) ∧ w33.cell? ⟨gb372, 3, none⟩ = some (.string x373003_9) := hS_
               obtain ⟨Ao35, co35, eo35⟩ := Kd.R_slice HO389.out
               (first | subst eo35 | (injection eo35 with f1_ f2_ f3_; have f4_ := f1_.symm; have f5_ := f3_.symm; clear f1_ f2_ f3_; subst f4_; subst f5_))
               refine norm_ (a' := ?_) ?_ ?_
               rotate_left
               · simp only [putAll, Act.put, List.setIfInBounds_toArray, List.set_cons_zero, List.set_cons_succ]
                 rfl
               refine one_ (i := 5) (N := some 35) (mr_ [7, 2]) rfl rfl (one_of HT_.out βDa) (by decide) (fun K hK => ?_)
               refine Kd.R_append_rows_step k42 w.heap.size (by rfl) (.tmp 32) (.tmp 34) 33 42 (.agg #[(.int .i64 0), (.int .i64 0), (.int .i64 0), (.string ⟨#[]⟩)]) 40 rfl Tryd.underlying33 info42 rfl (by decide) (by omega) v385 y384 y387 _ _ _ (fun k_ => some k_ ≠ (.slice Ao26 x5_1.length co26 : Value).ownBlock ∧ some k_ ≠ (.slice Ao35 y387.length co35 : Value).ownBlock ∧ k_ ≠ gb372) (fun _ => False) rfl rfl ?aO ?aR (fun _ _ h => h) (fun _ h => h.elim) ?aF (Below.refl _ _) ?aS ?aL ?_
               (case aR => exact βI)
               (case aF => exact (fun k_ hk => ⟨Kd.fresh' (Kd.R_lt (zr_ HO_5.out)) k_ hk, Kd.fresh' (Kd.R_lt (zr_ HO389.out)) k_ hk, Kd.freshB (g := gb372) (o := .cells #[.int .i64 x373000_9, .int .i64 x373001_9, .int .i64 x373002_9, .string x373003_9] 42 (0, 0)) (zb_ BK372.out) k_ hk⟩))
               (case aO => exact βda)
               (case aS => exact (keep_size (w := w) (g := g) (row := none) βD))
               (case aL => exact (by have := LMc22.out; omega))
               intro v391 w34 ho hb hg hat
               rw [← Ny390.out] at ho
               have n0_ := zA_ (Kd.R_after (ok := (fun k_ => some k_ ≠ (.slice Ao35 y387.length co35 : Value).ownBlock ∧ k_ ≠ gb372)) (by (with_reducible repeat (first | apply Kd.R_alloc | apply Kd.R_drewN | apply Kd.R_drew)); exact Kd.R_mono HO_5.out (fun _ hk => ⟨⟨hk.2.1, hk.2.2⟩, hk.1⟩)) hg hat)
               have n1_ := zA_ (blk_grown (g := gb372) (o := .cells #[.int .i64 x373000_9, .int .i64 x373001_9, .int .i64 x373002_9, .string x373003_9] 42 (0, 0)) (zb_ BK372.out) hg (Kd.R_away HO386.out (fun _ hk => hk.2.2)))
               have n2_ := zA_ (IsS78.grown βp hg (IsS78.own_ne HI0.out HO386.out (by decide)))
               have n3_ := zA_ (Kd.R_after (ok := (fun k_ => some k_ ≠ (.slice Ao26 x5_1.length co26 : Value).ownBlock ∧ k_ ≠ gb372)) βfa hg hat)
               have n4_ := zA_ (below_weaken βv HL.out hb)
               have n5_ := zA_ (KeepBut.trans βD (KeepBut.of_grown hg g) (Kd.R_base2 HO386.out))
               have n6_ := zA_ (ho)
               clear HO_5 BK372 HI0 HO389 HB HK HO386
               have HO_5 := n0_
               have BK372 := n1_
               have HI0 := n2_
               have HO389 := n3_
               have HB := n4_
               have HK := n5_
               have HO392 := n6_
               clear n0_ n1_ n2_ n3_ n4_ n5_ n6_
               clear ho hb hg hat
               obtain ⟨Ao36, co36, eo36⟩ := Kd.R_slice HO392.out
               (first | subst eo36 | (injection eo36 with f1_ f2_ f3_; have f4_ := f1_.symm; have f5_ := f3_.symm; clear f1_ f2_ f3_; subst f4_; subst f5_))
               refine hK.out _ _ ⟨cy_ BK372.out 0, cy_ BK372.out 1, cy_ BK372.out 2, cy_ BK372.out 3⟩ (fun hHeld => ?_)
               clear hK K
               refine norm_ (a' := ?_) ?_ ?_
               rotate_left
               · show Act.put _ (some 35) _ = _
                 simp only [Act.put, List.setIfInBounds_toArray, List.set_cons_zero, List.set_cons_succ, i64_w, i32_w]
                 rfl
               refine one_ (i := 7) (N := some 37) (mr_ [8, 1]) rfl rfl (one_of HT_.out βDa) (by decide) (fun K hK => ?_)
               refine goes_ Tryd.func47 βDa rfl #[.slice Ao36 y390.length co36, .int .i64 a1] (by rfl) rfl rfl zs_ ?_
               with_reducible refine (spec_StepsCode.calls kj9 _ _ y390 a1 t393 _ ?side1 ?side2 A23.out).mono ?_
               (case side1 => exact zc_ (Kd.R_reads' HO392.out).2.2)
               (case side2 => exact (Kd.R_reads' HO392.out).2.1)
               rintro e w37 ⟨rfl, hb⟩
               refine ⟨_, rfl, ?_⟩
               have n0_ := zA_ (Kd.R_below (zr_ HO_5.out) hb)
               have n1_ := zA_ (Kd.R_below (zr_ HO389.out) hb)
               have n2_ := zA_ (Kd.R_below (zr_ HO392.out) hb)
               have n3_ := zA_ (blk_below (g := gb372) (o := .cells #[.int .i64 x373000_9, .int .i64 x373001_9, .int .i64 x373002_9, .string x373003_9] 42 (0, 0)) (zb_ BK372.out) hb)
               have n4_ := zA_ (IsS78.below βp hb)
               have n5_ := zA_ (KeepBut.trans βD (KeepBut.of_below hb g none) (.inl rfl))
               have n6_ := zA_ (below_step βv hb)
               clear HO_5 HO389 HO392 BK372 HI0 HK HB
               have HO_5 := n0_
               have HO389 := n1_
               have HO392 := n2_
               have BK372 := n3_
               have HI0 := n4_
               have HK := n5_
               have HB := n6_
               clear n0_ n1_ n2_ n3_ n4_ n5_ n6_
               (try clear hb)
               (try clear hb2)
               (try clear hk)
               (try clear hi)
               refine hK.out _ _ ⟨cy_ BK372.out 0, cy_ BK372.out 1, cy_ BK372.out 2, cy_ BK372.out 3⟩ (fun hHeld => ?_)
               clear hK K
               refine norm_ (a' := ?_) ?_ ?_
               rotate_left
               · show Act.put _ (some 37) _ = _
                 simp only [Act.put, List.setIfInBounds_toArray, List.set_cons_zero, List.set_cons_succ, i64_w, i32_w]
                 rfl
               refine pure_ (i := 8) (N := some 38) (v := ?_) (a' := ?_) (mr_ [9]) rfl rfl (any_of HT_.out βDa) (fun _ _ _ h => h) (Or.inl ⟨(by rfl), ?_⟩) ?_ ?_
               rotate_left; exact pv_; rotate_left; exact pp_
               refine done_ (done_of HT_.out βDa) ?_
               have hnb38 := NB372_0.out
               have hnc38 := NB0_372.out
               have hcz39_0 := cz_ BK372.out 0 (.int .i64 x373000_9) rfl
               have hcz39_1 := cz_ BK372.out 1 (.int .i64 x373001_9) rfl
               have hcz39_2 := cz_ BK372.out 2 (.int .i64 x373002_9) rfl
               have hcz39_3 := cz_ BK372.out 3 (.string x373003_9) rfl
               have hfz39_0 := blk_frozen BK372.out 0
               have hfz39_1 := blk_frozen BK372.out 1
               have hfz39_2 := blk_frozen BK372.out 2
               have hfz39_3 := blk_frozen BK372.out 3
               try go_wp2_with (first | ((with_reducible refine gate_dst (N := 41) rfl ?_); refine Kd.R_lit k42 _ 42 ?hg (N := 41) ?hd (xs := ([(⟨x373000_9, x373001_9, x373002_9, x373003_9⟩ : S42)] : List (S42))) (inner := [.int .i64 x373000_9, .int .i64 x373001_9, .int .i64 x373002_9, .string x373003_9]) (ok := fun _ => True) (okp := fun _ => True) ?hr ?hp (fun _ hk => hk) trivial (Below.refl _ _) (Nat.le_refl _) (by simp) ?_; (case hd => exact (by rfl)); (case hg => exact (by rfl)); (case hr => exact βAa); (case hp => exact (Reps.c4 (show Kd.M k42 _ _ _ (⟨x373000_9, x373001_9, x373002_9, x373003_9⟩ : S42) [.int .i64 x373000_9, .int .i64 x373001_9, .int .i64 x373002_9, .string x373003_9] from (k42_mkM _ _ _ (⟨x373000_9, x373001_9, x373002_9, x373003_9⟩ : S42) )) (Reps.none _ _))); intro v395 w40 ho41 hb hg_ hnew_; clear hg_ hnew_; (first | rw [← Ny394.out] at ho41 | (simp only [Int.reduceToNat] at ho41; rw [← Ny394.out] at ho41)); have n0_ := zA_ (Kd.R_elder' (zr_ HO_5.out) (Kd.R_base ho41) hb); have n1_ := zA_ (Kd.R_elder' (zr_ HO389.out) (Kd.R_base ho41) hb); have n2_ := zA_ (Kd.R_elder' (zr_ HO392.out) (Kd.R_base ho41) hb); have n3_ := zA_ (Kd.R_lower (Kd.R_newB (Kd.R_new' (Kd.R_new' (Kd.R_new' ho41 (Kd.R_lt (zr_ HO_5.out))) (Kd.R_lt (zr_ HO389.out))) (Kd.R_lt (zr_ HO392.out))) (g := gb372) (o := .cells #[.int .i64 x373000_9, .int .i64 x373001_9, .int .i64 x373002_9, .string x373003_9] 42 (0, 0)) (zb_ BK372.out)) (keep_size (w := w) (g := g) (row := none) βD)); have n4_ := zA_ (blk_below (g := gb372) (o := .cells #[.int .i64 x373000_9, .int .i64 x373001_9, .int .i64 x373002_9, .string x373003_9] 42 (0, 0)) (zb_ BK372.out) hb); have n5_ := zA_ (IsS78.below βp hb); have n6_ := zA_ (KeepBut.trans βD (KeepBut.of_below hb g none) (.inl rfl)); have n7_ := zA_ (below_step βv hb); clear HO_5 HO389 HO392 BK372 HI0 HK HB; have HO_5 := n0_; have HO389 := n1_; have HO392 := n2_; have HO396 := n3_; have BK372 := n4_; have HI0 := n5_; have HK := n6_; have HB := n7_; clear n0_ n1_ n2_ n3_ n4_ n5_ n6_ n7_; clear hb ho41; obtain ⟨Ao43, co43, eo43⟩ := Kd.R_slice HO396.out; subst eo43) | ((with_reducible refine gate_builtin (b := .append) (xs := #[.tmp 39, .tmp 41]) rfl ?_); at_builtin; refine Kd.R_append_rows k42 w.heap.size rfl (.tmp 39) (.tmp 41) 33 42 (.agg #[(.int .i64 0), (.int .i64 0), (.int .i64 0), (.string ⟨#[]⟩)]) 40 rfl Tryd.underlying33 info42 rfl (by decide) (by omega) (.slice Ao26 x5_1.length co26) x5_1 y394 _ _ _ (fun k_ => some k_ ≠ (.slice Ao35 y387.length co35 : Value).ownBlock ∧ some k_ ≠ (.slice Ao36 y390.length co36 : Value).ownBlock ∧ some k_ ≠ (.slice Ao43 y394.length co43 : Value).ownBlock ∧ k_ ≠ gb372) (fun _ => False) rfl rfl ?aO ?aR (fun _ _ h => h) (fun _ h => h.elim) ?aF (Below.refl _ _) ?aS ?aL ?_; (case aR => exact (by repeat (first | exact (Kd.R_reads' HO396.out).2.2 | (with_reducible refine Kd.C_alloc ?_ _) | (with_reducible refine Kd.C_drewN ?_ _) | (with_reducible refine Kd.C_drew ?_)))); (case aF => exact (fun k_ hk => ⟨Kd.fresh' (Kd.R_lt (zr_ HO389.out)) k_ hk, Kd.fresh' (Kd.R_lt (zr_ HO392.out)) k_ hk, Kd.fresh' (Kd.R_lt (zr_ HO396.out)) k_ hk, Kd.freshB (g := gb372) (o := .cells #[.int .i64 x373000_9, .int .i64 x373001_9, .int .i64 x373002_9, .string x373003_9] 42 (0, 0)) (zb_ BK372.out) k_ hk⟩)); (case aO => exact (by (with_reducible repeat (first | apply Kd.R_alloc | apply Kd.R_drewN | apply Kd.R_drew)); exact Kd.R_mono HO_5.out (fun _ hk => ⟨hk.1.1.1, ⟨hk.1.2, ⟨hk.2, hk.1.1.2⟩⟩⟩))); (case aS => exact (keep_size (w := w) (g := g) (row := none) βD)); (case aL => exact (by have := LMc25.out; omega)); intro v398 w42 ho hb hg hat; rw [← Ny397.out] at ho; have n0_ := zA_ (blk_grown (g := gb372) (o := .cells #[.int .i64 x373000_9, .int .i64 x373001_9, .int .i64 x373002_9, .string x373003_9] 42 (0, 0)) (zb_ BK372.out) hg (Kd.R_away HO_5.out (fun _ hk => hk.1.1.2))); have n1_ := zA_ (IsS78.grown βp hg (IsS78.own_ne HI0.out HO_5.out (by decide))); have n2_ := zA_ (Kd.R_after (ok := (fun k_ => some k_ ≠ (.slice Ao36 y390.length co36 : Value).ownBlock ∧ some k_ ≠ (.slice Ao43 y394.length co43 : Value).ownBlock ∧ k_ ≠ gb372)) (by (with_reducible repeat (first | apply Kd.R_alloc | apply Kd.R_drewN | apply Kd.R_drew)); exact Kd.R_mono HO389.out (fun _ hk => ⟨⟨hk.1.2, ⟨hk.2, hk.1.1.2⟩⟩, hk.1.1.1⟩)) hg hat); have n3_ := zA_ (Kd.R_after (ok := (fun k_ => some k_ ≠ (.slice Ao35 y387.length co35 : Value).ownBlock ∧ some k_ ≠ (.slice Ao43 y394.length co43 : Value).ownBlock ∧ k_ ≠ gb372)) (by (with_reducible repeat (first | apply Kd.R_alloc | apply Kd.R_drewN | apply Kd.R_drew)); exact Kd.R_mono HO392.out (fun _ hk => ⟨⟨hk.1.2.1, ⟨hk.2, hk.1.2.2⟩⟩, hk.1.1⟩)) hg hat); have n4_ := zA_ (Kd.R_after (ok := (fun k_ => some k_ ≠ (.slice Ao35 y387.length co35 : Value).ownBlock ∧ some k_ ≠ (.slice Ao36 y390.length co36 : Value).ownBlock ∧ k_ ≠ gb372)) (by (with_reducible repeat (first | apply Kd.R_alloc | apply Kd.R_drewN | apply Kd.R_drew)); exact Kd.R_mono HO396.out (fun _ hk => ⟨⟨hk.1.1.2, ⟨hk.1.2, hk.2⟩⟩, hk.1.1.1.2⟩)) hg hat); have n5_ := zA_ (below_weaken βv HL.out hb); have n6_ := zA_ (KeepBut.trans βD (KeepBut.of_grown hg g) (Kd.R_base2 HO_5.out)); have n7_ := zA_ (ho); clear BK372 HI0 HO389 HO392 HO396 HB HK HO_5; have BK372 := n0_; have HI0 := n1_; have HO389 := n2_; have HO392 := n3_; have HO396 := n4_; have HB := n5_; have HK := n6_; have HO399 := n7_; clear n0_ n1_ n2_ n3_ n4_ n5_ n6_ n7_; clear ho hb hg hat))
               go_roundg kj9
               case measure => have := HK1.out; have := HJ9.out; omega
               case rel => exact ⟨(y397), (x6_9), (wrap64 (x7_1 - 1)), (x1001_9), (x1002_9), (x1003_9), βya, βya, H', ⟨(by have := HK1.out; have := HJ9.out; omega)⟩, ⟨(by (with_reducible repeat (first | apply Kd.R_alloc | apply Kd.R_drewN | apply Kd.R_drew)); exact Kd.R_mono HO399.out (fun _ hk => trivial))⟩, ⟨βp⟩, ⟨βD⟩, ⟨βv⟩⟩
             · rw [if_neg c25] at H
               exact absurd H (by simp)
           · rw [if_neg c24] at H
             have c24b0 : (t393 == 0) = false := beq_eq_false_iff_ne.mpr c24
             have c24b1 : (t393 != 0) = true := bne_iff_ne.mpr c24
             have H' := zA_ H
             clear H
             obtain ⟨Ao44, co44, eo44⟩ := Kd.R_slice HO_5.out
             subst eo44
             try go_wp2
             have n0_ := zA_ (Kd.R_drew HO_5.out)
             have n1_ := zA_ (blk_drew BK372.out)
             have n2_ := zA_ (IsS78.drew HI0.out)
             have n3_ := zA_ (keep_drew HK.out)
             have n4_ := zA_ (below_drew1 HB.out)
             clear HO_5 BK372 HI0 HK HB
             have HO_5 := n0_
             have BK372 := n1_
             have HI0 := n2_
             have HK := n3_
             have HB := n4_
             clear n0_ n1_ n2_ n3_ n4_
             refine start_ (n := 9) (S := fun w' => w'.cell? ⟨gb372, 0, none⟩ = some (.int .i64 x373000_9) ∧ w'.cell? ⟨gb372, 1, none⟩ = some (.int .i64 x373001_9) ∧ w'.cell? ⟨gb372, 2, none⟩ = some (.int .i64 x373002_9) ∧ w'.cell? ⟨gb372, 3, none⟩ = some (.string x373003_9)) (ds := []) (mr_ [0, 9]) βDa rfl rfl ⟨cy_ BK372.out 0, cy_ BK372.out 1, cy_ BK372.out 2, cy_ BK372.out 3⟩ (fun hHeld => ?_); refine with_tabW spec_l01Src_l06Steps.tab10 spec_l01Src_l06Steps.bits10 (fun HT_ HW_ => ?_)
             generalize wc.drew = w45 at HO_5 BK372 HI0 HK HB hHeld ⊢
             refine pure_ (i := 1) (N := some 31) (v := ?_) (a' := ?_) (mr_ [0, 1, 1, 7]) rfl rfl (any_of HT_.out βDa) (fun _ _ _ h => h) (Or.inl ⟨(by rfl), ?_⟩) ?_ ?_
             rotate_left; exact pv_; rotate_left; exact pp_
             refine pure_ (i := 6) (N := some 36) (v := ?_) (a' := ?_) (mr_ [0, 1, 1, 4, 1, 2]) rfl rfl (any_of HT_.out βDa) (fun _ _ _ h => h) (Or.inl ⟨(by rfl), ?_⟩) ?_ ?_
             rotate_left; exact pv_; rotate_left; exact pp_
             refine take_ (i := 3) (N := some 33) (v := ?_) (a' := ?_) (mr_ [0, 1, 1, 1, 1, 2, 1, 2]) rfl rfl (take_ofW HT_.out HW_.out βDa) (fun _ _ _ h => h) (Or.inl ⟨(by rfl), ?_⟩) hHeld ?_ ?_
             rotate_left
             · rintro w' ⟨s0, s1, s2, s3⟩
               go_simp
               with_reducible rfl
             rotate_left
             exact pp_
             refine join_ (σ := Value × Value × Value) 3 (mr_ [5, 1, 1, 2]) (fun s_ => [(30, s_.1), (32, s_.2.1), (34, s_.2.2)]) (fun s_ w' => (w'.cell? ⟨gb372, 0, none⟩ = some (.int .i64 x373000_9) ∧ w'.cell? ⟨gb372, 1, none⟩ = some (.int .i64 x373001_9) ∧ w'.cell? ⟨gb372, 2, none⟩ = some (.int .i64 x373002_9) ∧ w'.cell? ⟨gb372, 3, none⟩ = some (.string x373003_9)) ∧ (Kd.R k42 42 w' w.heap.size (fun k_ => some k_ ≠ (s_.2.2 : Value).ownBlock ∧ some k_ ≠ (.slice Ao44 x5_1.length co44 : Value).ownBlock ∧ k_ ≠ gb372) s_.2.1 y384) ∧ (Kd.R k42 42 w' w.heap.size (fun k_ => some k_ ≠ (s_.2.1 : Value).ownBlock ∧ some k_ ≠ (.slice Ao44 x5_1.length co44 : Value).ownBlock ∧ k_ ≠ gb372) s_.2.2 y387) ∧ (Kd.R k42 42 w' w.heap.size (fun k_ => some k_ ≠ (s_.2.1 : Value).ownBlock ∧ some k_ ≠ (s_.2.2 : Value).ownBlock ∧ k_ ≠ gb372) (.slice Ao44 x5_1.length co44) x5_1) ∧ (w'.heap[gb372]? = some (.cells #[.int .i64 x373000_9, .int .i64 x373001_9, .int .i64 x373002_9, .string x373003_9] 42 (0, 0))) ∧ (IsS78 w0 w' g s0_0 x1001_9 x1002_9 x1003_9) ∧ (KeepBut w w' g none) ∧ (Below w0.heap.size w0 w')) ?_ ?_
             rotate_left
             · intro hCont
               refine two_ (i := 0) (j := 4) (Ni := some 30) (Nj := some 34) (mr_ [2, 1, 1, 2, 1, 2]) (mr_ [0, 1, 1, 1, 2, 1, 1, 2]) rfl rfl rfl rfl (two_of HT_.out βDa) (by decide) (by decide) (fun K hK => ?_) (fun K hK => ?_)
               · skip
                 refine Kd.R_lit_step k42 _ 42 ?hg (N := 30) ?hd (xs := ([] : List (S42))) (inner := []) (ok := fun _ => True) (okp := fun _ => True) ?hr ?hp (fun _ hk => hk) trivial (Below.refl _ _) (Nat.le_refl _) (by simp) ?_; (case hd => exact (by rfl)); (case hg => exact (by rfl)); (case hr => exact βAa); (case hp => exact (Reps.none _ _))
                 intro v382 w46 ho47 hb hg_ hnew_
                 clear hg_ hnew_
                 (first | rw [← Ny381.out] at ho47 | (simp only [Int.reduceToNat] at ho47; rw [← Ny381.out] at ho47))
                 have n0_ := zA_ (Kd.R_elder' (zr_ HO_5.out) (Kd.R_base ho47) hb)
                 have n1_ := zA_ (Kd.R_lower (Kd.R_newB (Kd.R_new' ho47 (Kd.R_lt (zr_ HO_5.out))) (g := gb372) (o := .cells #[.int .i64 x373000_9, .int .i64 x373001_9, .int .i64 x373002_9, .string x373003_9] 42 (0, 0)) (zb_ BK372.out)) (keep_size (w := w) (g := g) (row := none) βD))
                 have n2_ := zA_ (blk_below (g := gb372) (o := .cells #[.int .i64 x373000_9, .int .i64 x373001_9, .int .i64 x373002_9, .string x373003_9] 42 (0, 0)) (zb_ BK372.out) hb)
                 have n3_ := zA_ (IsS78.below βp hb)
                 have n4_ := zA_ (KeepBut.trans βD (KeepBut.of_below hb g none) (.inl rfl))
                 have n5_ := zA_ (below_step βv hb)
                 clear HO_5 BK372 HI0 HK HB
                 have HO_5 := n0_
                 have HO383 := n1_
                 have BK372 := n2_
                 have HI0 := n3_
                 have HK := n4_
                 have HB := n5_
                 clear n0_ n1_ n2_ n3_ n4_ n5_
                 clear hb ho47
                 refine hK.out _ _ ⟨cy_ BK372.out 0, cy_ BK372.out 1, cy_ BK372.out 2, cy_ BK372.out 3⟩ (fun hHeld => ?_)
                 clear hK K
                 refine norm_ (a' := ?_) ?_ ?_
                 rotate_left
                 · show Act.put _ (some 30) _ = _
                   simp only [Act.put, List.setIfInBounds_toArray, List.set_cons_zero, List.set_cons_succ, i64_w, i32_w]
                   rfl
                 refine two_ (i := 2) (j := 4) (Ni := some 32) (Nj := some 34) (mr_ [4, 2, 1, 2]) (mr_ [2, 1, 2, 1, 1, 2]) rfl rfl rfl rfl (two_of HT_.out βDa) (by decide) (by decide) (fun K hK => ?_) (fun K hK => ?_)
                 · skip
                   refine Kd.R_append_rows_step k42 w.heap.size (by rfl) (.tmp 30) (.tmp 31) 33 42 (.agg #[(.int .i64 0), (.int .i64 0), (.int .i64 0), (.string ⟨#[]⟩)]) 40 rfl Tryd.underlying33 info42 rfl (by decide) (by omega) v382 y381 x5_1 _ _ _ (fun k_ => some k_ ≠ (.slice Ao44 x5_1.length co44 : Value).ownBlock ∧ k_ ≠ gb372) (fun _ => False) rfl rfl ?aO ?aR (fun _ _ h => h) (fun _ h => h.elim) ?aF (Below.refl _ _) ?aS ?aL ?_
                   (case aR => exact βK)
                   (case aF => exact (fun k_ hk => ⟨Kd.fresh' (Kd.R_lt (zr_ HO_5.out)) k_ hk, Kd.freshB (g := gb372) (o := .cells #[.int .i64 x373000_9, .int .i64 x373001_9, .int .i64 x373002_9, .string x373003_9] 42 (0, 0)) (zb_ BK372.out) k_ hk⟩))
                   (case aO => exact (by (with_reducible repeat (first | apply Kd.R_alloc | apply Kd.R_drewN | apply Kd.R_drew)); exact Kd.R_mono HO383.out (fun _ hk => ⟨hk.1.2, hk.2⟩)))
                   (case aS => exact (keep_size (w := w) (g := g) (row := none) βD))
                   (case aL => exact (by have := LMc21.out; omega))
                   intro v385 w48 ho hb hg hat
                   rw [← Ny384.out] at ho
                   have n0_ := zA_ (Kd.R_after (ok := (fun k_ => k_ ≠ gb372)) (zr_ HO_5.out) hg hat)
                   have n1_ := zA_ (blk_grown (g := gb372) (o := .cells #[.int .i64 x373000_9, .int .i64 x373001_9, .int .i64 x373002_9, .string x373003_9] 42 (0, 0)) (zb_ BK372.out) hg (Kd.R_away HO383.out (fun _ hk => hk.2)))
                   have n2_ := zA_ (IsS78.grown βp hg (IsS78.own_ne HI0.out HO383.out (by decide)))
                   have n3_ := zA_ (below_weaken βv HL.out hb)
                   have n4_ := zA_ (KeepBut.trans βD (KeepBut.of_grown hg g) (Kd.R_base2 HO383.out))
                   have n5_ := zA_ (ho)
                   clear HO_5 BK372 HI0 HB HK HO383
                   have HO_5 := n0_
                   have BK372 := n1_
                   have HI0 := n2_
                   have HB := n3_
                   have HK := n4_
                   have HO386 := n5_
                   clear n0_ n1_ n2_ n3_ n4_ n5_
                   clear ho hb hg hat
                   refine hK.out _ _ ⟨cy_ BK372.out 0, cy_ BK372.out 1, cy_ BK372.out 2, cy_ BK372.out 3⟩ (fun hHeld => ?_)
                   clear hK K
                   refine norm_ (a' := ?_) ?_ ?_
                   rotate_left
                   · show Act.put _ (some 32) _ = _
                     simp only [Act.put, List.setIfInBounds_toArray, List.set_cons_zero, List.set_cons_succ, i64_w, i32_w]
                     rfl
                   refine one_ (i := 4) (N := some 34) (mr_ [5, 1, 1, 2]) rfl rfl (one_of HT_.out βDa) (by decide) (fun K hK => ?_)
                   refine Kd.R_lit_step k42 _ 42 ?hg (N := 34) ?hd (xs := ([(⟨x373000_9, x373001_9, x373002_9, x373003_9⟩ : S42)] : List (S42))) (inner := [.int .i64 x373000_9, .int .i64 x373001_9, .int .i64 x373002_9, .string x373003_9]) (ok := fun _ => True) (okp := fun _ => True) ?hr ?hp (fun _ hk => hk) trivial (Below.refl _ _) (Nat.le_refl _) (by simp) ?_; (case hd => exact (by rfl)); (case hg => exact (by rfl)); (case hr => exact βAa); (case hp => exact (Reps.c4 (show Kd.M k42 _ _ _ (⟨x373000_9, x373001_9, x373002_9, x373003_9⟩ : S42) [.int .i64 x373000_9, .int .i64 x373001_9, .int .i64 x373002_9, .string x373003_9] from (k42_mkM _ _ _ (⟨x373000_9, x373001_9, x373002_9, x373003_9⟩ : S42) )) (Reps.none _ _)))
                   intro v388 w49 ho50 hb hg_ hnew_
                   clear hg_ hnew_
                   (first | rw [← Ny387.out] at ho50 | (simp only [Int.reduceToNat] at ho50; rw [← Ny387.out] at ho50))
                   have n0_ := zA_ (Kd.R_elder' (zr_ HO_5.out) (Kd.R_base ho50) hb)
                   have n1_ := zA_ (Kd.R_elder' (zr_ HO386.out) (Kd.R_base ho50) hb)
                   have n2_ := zA_ (Kd.R_lower (Kd.R_newB (Kd.R_new' (Kd.R_new' ho50 (Kd.R_lt (zr_ HO_5.out))) (Kd.R_lt (zr_ HO386.out))) (g := gb372) (o := .cells #[.int .i64 x373000_9, .int .i64 x373001_9, .int .i64 x373002_9, .string x373003_9] 42 (0, 0)) (zb_ BK372.out)) (keep_size (w := w) (g := g) (row := none) βD))
                   have n3_ := zA_ (blk_below (g := gb372) (o := .cells #[.int .i64 x373000_9, .int .i64 x373001_9, .int .i64 x373002_9, .string x373003_9] 42 (0, 0)) (zb_ BK372.out) hb)
                   have n4_ := zA_ (IsS78.below βp hb)
                   have n5_ := zA_ (KeepBut.trans βD (KeepBut.of_below hb g none) (.inl rfl))
                   have n6_ := zA_ (below_step βv hb)
                   clear HO_5 HO386 BK372 HI0 HK HB
                   have HO_5 := n0_
                   have HO386 := n1_
                   have HO389 := n2_
                   have BK372 := n3_
                   have HI0 := n4_
                   have HK := n5_
                   have HB := n6_
                   clear n0_ n1_ n2_ n3_ n4_ n5_ n6_
                   clear hb ho50
                   refine hK.out _ _ ⟨cy_ BK372.out 0, cy_ BK372.out 1, cy_ BK372.out 2, cy_ BK372.out 3⟩ (fun hHeld => ?_)
                   clear hK K
                   refine norm_ (a' := ?_) ?_ ?_
                   rotate_left
                   · show Act.put _ (some 34) _ = _
                     simp only [Act.put, List.setIfInBounds_toArray, List.set_cons_zero, List.set_cons_succ, i64_w, i32_w]
                     rfl
                   exact norm_ βra (hCont (v382, v385, v388) _ ⟨hHeld, βca, βX, (by (with_reducible repeat (first | apply Kd.R_alloc | apply Kd.R_drewN | apply Kd.R_drew)); exact Kd.R_mono HO_5.out (fun _ hk => ⟨hk.1.2, ⟨hk.2, hk.1.1⟩⟩)), (zb_ BK372.out), βp, βD, βv⟩)
                 · skip
                   refine Kd.R_lit_step k42 _ 42 ?hg (N := 34) ?hd (xs := ([(⟨x373000_9, x373001_9, x373002_9, x373003_9⟩ : S42)] : List (S42))) (inner := [.int .i64 x373000_9, .int .i64 x373001_9, .int .i64 x373002_9, .string x373003_9]) (ok := fun _ => True) (okp := fun _ => True) ?hr ?hp (fun _ hk => hk) trivial (Below.refl _ _) (Nat.le_refl _) (by simp) ?_; (case hd => exact (by rfl)); (case hg => exact (by rfl)); (case hr => exact βAa); (case hp => exact (Reps.c4 (show Kd.M k42 _ _ _ (⟨x373000_9, x373001_9, x373002_9, x373003_9⟩ : S42) [.int .i64 x373000_9, .int .i64 x373001_9, .int .i64 x373002_9, .string x373003_9] from (k42_mkM _ _ _ (⟨x373000_9, x373001_9, x373002_9, x373003_9⟩ : S42) )) (Reps.none _ _)))
                   intro v388 w48 ho49 hb hg_ hnew_
                   clear hg_ hnew_
                   (first | rw [← Ny387.out] at ho49 | (simp only [Int.reduceToNat] at ho49; rw [← Ny387.out] at ho49))
                   have n0_ := zA_ (Kd.R_elder' (zr_ HO_5.out) (Kd.R_base ho49) hb)
                   have n1_ := zA_ (Kd.R_elder' (zr_ HO383.out) (Kd.R_base ho49) hb)
                   have n2_ := zA_ (Kd.R_lower (Kd.R_newB (Kd.R_new' (Kd.R_new' ho49 (Kd.R_lt (zr_ HO_5.out))) (Kd.R_lt (zr_ HO383.out))) (g := gb372) (o := .cells #[.int .i64 x373000_9, .int .i64 x373001_9, .int .i64 x373002_9, .string x373003_9] 42 (0, 0)) (zb_ BK372.out)) (keep_size (w := w) (g := g) (row := none) βD))
                   have n3_ := zA_ (blk_below (g := gb372) (o := .cells #[.int .i64 x373000_9, .int .i64 x373001_9, .int .i64 x373002_9, .string x373003_9] 42 (0, 0)) (zb_ BK372.out) hb)
                   have n4_ := zA_ (IsS78.below βp hb)
                   have n5_ := zA_ (KeepBut.trans βD (KeepBut.of_below hb g none) (.inl rfl))
                   have n6_ := zA_ (below_step βv hb)
                   clear HO_5 HO383 BK372 HI0 HK HB
                   have HO_5 := n0_
                   have HO383 := n1_
                   have HO389 := n2_
                   have BK372 := n3_
                   have HI0 := n4_
                   have HK := n5_
                   have HB := n6_
                   clear n0_ n1_ n2_ n3_ n4_ n5_ n6_
                   clear hb ho49
                   refine hK.out _ _ ⟨cy_ BK372.out 0, cy_ BK372.out 1, cy_ BK372.out 2, cy_ BK372.out 3⟩ (fun hHeld => ?_)
                   clear hK K
                   refine norm_ (a' := ?_) ?_ ?_
                   rotate_left
                   · show Act.put _ (some 34) _ = _
                     simp only [Act.put, List.setIfInBounds_toArray, List.set_cons_zero, List.set_cons_succ, i64_w, i32_w]
                     rfl
                   refine one_ (i := 2) (N := some 32) (mr_ [5, 1, 1, 2]) rfl rfl (one_of HT_.out βDa) (by decide) (fun K hK => ?_)
                   refine Kd.R_append_rows_step k42 w.heap.size (by rfl) (.tmp 30) (.tmp 31) 33 42 (.agg #[(.int .i64 0), (.int .i64 0), (.int .i64 0), (.string ⟨#[]⟩)]) 40 rfl Tryd.underlying33 info42 rfl (by decide) (by omega) v382 y381 x5_1 _ _ _ (fun k_ => some k_ ≠ (.slice Ao44 x5_1.length co44 : Value).ownBlock ∧ some k_ ≠ (v388 : Value).ownBlock ∧ k_ ≠ gb372) (fun _ => False) rfl rfl ?aO ?aR (fun _ _ h => h) (fun _ h => h.elim) ?aF (Below.refl _ _) ?aS ?aL ?_
                   (case aR => exact βK)
                   (case aF => exact (fun k_ hk => ⟨Kd.fresh' (Kd.R_lt (zr_ HO_5.out)) k_ hk, Kd.fresh' (Kd.R_lt (zr_ HO389.out)) k_ hk, Kd.freshB (g := gb372) (o := .cells #[.int .i64 x373000_9, .int .i64 x373001_9, .int .i64 x373002_9, .string x373003_9] 42 (0, 0)) (zb_ BK372.out) k_ hk⟩))
                   (case aO => exact βY)
                   (case aS => exact (keep_size (w := w) (g := g) (row := none) βD))
                   (case aL => exact (by have := LMc21.out; omega))
                   intro v385 w50 ho hb hg hat
                   rw [← Ny384.out] at ho
                   have n0_ := zA_ (Kd.R_after (ok := (fun k_ => some k_ ≠ (v388 : Value).ownBlock ∧ k_ ≠ gb372)) (by (with_reducible repeat (first | apply Kd.R_alloc | apply Kd.R_drewN | apply Kd.R_drew)); exact Kd.R_mono HO_5.out (fun _ hk => ⟨⟨hk.2, hk.1.1⟩, hk.1.2⟩)) hg hat)
                   have n1_ := zA_ (blk_grown (g := gb372) (o := .cells #[.int .i64 x373000_9, .int .i64 x373001_9, .int .i64 x373002_9, .string x373003_9] 42 (0, 0)) (zb_ BK372.out) hg (Kd.R_away HO383.out (fun _ hk => hk.1.2)))
                   have n2_ := zA_ (IsS78.grown βp hg (IsS78.own_ne HI0.out HO383.out (by decide)))
                   have n3_ := zA_ (Kd.R_after (ok := (fun k_ => some k_ ≠ (.slice Ao44 x5_1.length co44 : Value).ownBlock ∧ k_ ≠ gb372)) βZ hg hat)
                   have n4_ := zA_ (below_weaken βv HL.out hb)
                   have n5_ := zA_ (KeepBut.trans βD (KeepBut.of_grown hg g) (Kd.R_base2 HO383.out))
                   have n6_ := zA_ (ho)
                   clear HO_5 BK372 HI0 HO389 HB HK HO383
                   have HO_5 := n0_
                   have BK372 := n1_
                   have HI0 := n2_
                   have HO389 := n3_
                   have HB := n4_
                   have HK := n5_
                   have HO386 := n6_
                   clear n0_ n1_ n2_ n3_ n4_ n5_ n6_
                   clear ho hb hg hat
                   refine hK.out _ _ ⟨cy_ BK372.out 0, cy_ BK372.out 1, cy_ BK372.out 2, cy_ BK372.out 3⟩ (fun hHeld => ?_)
                   clear hK K
                   refine norm_ (a' := ?_) ?_ ?_
                   rotate_left
                   · show Act.put _ (some 32) _ = _
                     simp only [Act.put, List.setIfInBounds_toArray, List.set_cons_zero, List.set_cons_succ, i64_w, i32_w]
                     rfl
                   exact norm_ βra (hCont (v382, v385, v388) _ ⟨hHeld, βda, βea, βha, (zb_ BK372.out), βp, βD, βv⟩)
               · skip
                 refine Kd.R_lit_step k42 _ 42 ?hg (N := 34) ?hd (xs := ([(⟨x373000_9, x373001_9, x373002_9, x373003_9⟩ : S42)] : List (S42))) (inner := [.int .i64 x373000_9, .int .i64 x373001_9, .int .i64 x373002_9, .string x373003_9]) (ok := fun _ => True) (okp := fun _ => True) ?hr ?hp (fun _ hk => hk) trivial (Below.refl _ _) (Nat.le_refl _) (by simp) ?_; (case hd => exact (by rfl)); (case hg => exact (by rfl)); (case hr => exact βAa); (case hp => exact (Reps.c4 (show Kd.M k42 _ _ _ (⟨x373000_9, x373001_9, x373002_9, x373003_9⟩ : S42) [.int .i64 x373000_9, .int .i64 x373001_9, .int .i64 x373002_9, .string x373003_9] from (k42_mkM _ _ _ (⟨x373000_9, x373001_9, x373002_9, x373003_9⟩ : S42) )) (Reps.none _ _)))
                 intro v388 w46 ho47 hb hg_ hnew_
                 clear hg_ hnew_
                 (first | rw [← Ny387.out] at ho47 | (simp only [Int.reduceToNat] at ho47; rw [← Ny387.out] at ho47))
                 have n0_ := zA_ (Kd.R_elder' (zr_ HO_5.out) (Kd.R_base ho47) hb)
                 have n1_ := zA_ (Kd.R_lower (Kd.R_newB (Kd.R_new' ho47 (Kd.R_lt (zr_ HO_5.out))) (g := gb372) (o := .cells #[.int .i64 x373000_9, .int .i64 x373001_9, .int .i64 x373002_9, .string x373003_9] 42 (0, 0)) (zb_ BK372.out)) (keep_size (w := w) (g := g) (row := none) βD))
                 have n2_ := zA_ (blk_below (g := gb372) (o := .cells #[.int .i64 x373000_9, .int .i64 x373001_9, .int .i64 x373002_9, .string x373003_9] 42 (0, 0)) (zb_ BK372.out) hb)
                 have n3_ := zA_ (IsS78.below βp hb)
                 have n4_ := zA_ (KeepBut.trans βD (KeepBut.of_below hb g none) (.inl rfl))
                 have n5_ := zA_ (below_step βv hb)
                 clear HO_5 BK372 HI0 HK HB
                 have HO_5 := n0_
                 have HO389 := n1_
                 have BK372 := n2_
                 have HI0 := n3_
                 have HK := n4_
                 have HB := n5_
                 clear n0_ n1_ n2_ n3_ n4_ n5_
                 clear hb ho47
                 refine hK.out _ _ ⟨cy_ BK372.out 0, cy_ BK372.out 1, cy_ BK372.out 2, cy_ BK372.out 3⟩ (fun hHeld => ?_)
                 clear hK K
                 refine norm_ (a' := ?_) ?_ ?_
                 rotate_left
                 · show Act.put _ (some 34) _ = _
                   simp only [Act.put, List.setIfInBounds_toArray, List.set_cons_zero, List.set_cons_succ, i64_w, i32_w]
                   rfl
                 refine one_ (i := 0) (N := some 30) (mr_ [2, 1, 2, 1, 1, 2]) rfl rfl (one_of HT_.out βDa) (by decide) (fun K hK => ?_)
                 refine Kd.R_lit_step k42 _ 42 ?hg (N := 30) ?hd (xs := ([] : List (S42))) (inner := []) (ok := fun _ => True) (okp := fun _ => True) ?hr ?hp (fun _ hk => hk) trivial (Below.refl _ _) (Nat.le_refl _) (by simp) ?_; (case hd => exact (by rfl)); (case hg => exact (by rfl)); (case hr => exact βAa); (case hp => exact (Reps.none _ _))
                 intro v382 w48 ho49 hb hg_ hnew_
                 clear hg_ hnew_
                 (first | rw [← Ny381.out] at ho49 | (simp only [Int.reduceToNat] at ho49; rw [← Ny381.out] at ho49))
                 have n0_ := zA_ (Kd.R_elder' (zr_ HO_5.out) (Kd.R_base ho49) hb)
                 have n1_ := zA_ (Kd.R_elder' (zr_ HO389.out) (Kd.R_base ho49) hb)
                 have n2_ := zA_ (Kd.R_lower (Kd.R_newB (Kd.R_new' (Kd.R_new' ho49 (Kd.R_lt (zr_ HO_5.out))) (Kd.R_lt (zr_ HO389.out))) (g := gb372) (o := .cells #[.int .i64 x373000_9, .int .i64 x373001_9, .int .i64 x373002_9, .string x373003_9] 42 (0, 0)) (zb_ BK372.out)) (keep_size (w := w) (g := g) (row := none) βD))
                 have n3_ := zA_ (blk_below (g := gb372) (o := .cells #[.int .i64 x373000_9, .int .i64 x373001_9, .int .i64 x373002_9, .string x373003_9] 42 (0, 0)) (zb_ BK372.out) hb)
                 have n4_ := zA_ (IsS78.below βp hb)
                 have n5_ := zA_ (KeepBut.trans βD (KeepBut.of_below hb g none) (.inl rfl))
                 have n6_ := zA_ (below_step βv hb)
                 clear HO_5 HO389 BK372 HI0 HK HB
                 have HO_5 := n0_
                 have HO389 := n1_
                 have HO383 := n2_
                 have BK372 := n3_
                 have HI0 := n4_
                 have HK := n5_
                 have HB := n6_
                 clear n0_ n1_ n2_ n3_ n4_ n5_ n6_
                 clear hb ho49
                 refine hK.out _ _ ⟨cy_ BK372.out 0, cy_ BK372.out 1, cy_ BK372.out 2, cy_ BK372.out 3⟩ (fun hHeld => ?_)
                 clear hK K
                 refine norm_ (a' := ?_) ?_ ?_
                 rotate_left
                 · show Act.put _ (some 30) _ = _
                   simp only [Act.put, List.setIfInBounds_toArray, List.set_cons_zero, List.set_cons_succ, i64_w, i32_w]
                   rfl
                 refine one_ (i := 2) (N := some 32) (mr_ [5, 1, 1, 2]) rfl rfl (one_of HT_.out βDa) (by decide) (fun K hK => ?_)
                 refine Kd.R_append_rows_step k42 w.heap.size (by rfl) (.tmp 30) (.tmp 31) 33 42 (.agg #[(.int .i64 0), (.int .i64 0), (.int .i64 0), (.string ⟨#[]⟩)]) 40 rfl Tryd.underlying33 info42 rfl (by decide) (by omega) v382 y381 x5_1 _ _ _ (fun k_ => some k_ ≠ (.slice Ao44 x5_1.length co44 : Value).ownBlock ∧ some k_ ≠ (v388 : Value).ownBlock ∧ k_ ≠ gb372) (fun _ => False) rfl rfl ?aO ?aR (fun _ _ h => h) (fun _ h => h.elim) ?aF (Below.refl _ _) ?aS ?aL ?_
                 (case aR => exact βK)
                 (case aF => exact (fun k_ hk => ⟨Kd.fresh' (Kd.R_lt (zr_ HO_5.out)) k_ hk, Kd.fresh' (Kd.R_lt (zr_ HO389.out)) k_ hk, Kd.freshB (g := gb372) (o := .cells #[.int .i64 x373000_9, .int .i64 x373001_9, .int .i64 x373002_9, .string x373003_9] 42 (0, 0)) (zb_ BK372.out) k_ hk⟩))
                 (case aO => exact βaa)
                 (case aS => exact (keep_size (w := w) (g := g) (row := none) βD))
                 (case aL => exact (by have := LMc21.out; omega))
                 intro v385 w50 ho hb hg hat
                 rw [← Ny384.out] at ho
                 have n0_ := zA_ (Kd.R_after (ok := (fun k_ => some k_ ≠ (v388 : Value).ownBlock ∧ k_ ≠ gb372)) (by (with_reducible repeat (first | apply Kd.R_alloc | apply Kd.R_drewN | apply Kd.R_drew)); exact Kd.R_mono HO_5.out (fun _ hk => ⟨⟨hk.1.2, hk.1.1⟩, hk.2⟩)) hg hat)
                 have n1_ := zA_ (blk_grown (g := gb372) (o := .cells #[.int .i64 x373000_9, .int .i64 x373001_9, .int .i64 x373002_9, .string x373003_9] 42 (0, 0)) (zb_ BK372.out) hg (Kd.R_away HO383.out (fun _ hk => hk.2)))
                 have n2_ := zA_ (IsS78.grown βp hg (IsS78.own_ne HI0.out HO383.out (by decide)))
                 have n3_ := zA_ (Kd.R_after (ok := (fun k_ => some k_ ≠ (.slice Ao44 x5_1.length co44 : Value).ownBlock ∧ k_ ≠ gb372)) βba hg hat)
                 have n4_ := zA_ (below_weaken βv HL.out hb)
                 have n5_ := zA_ (KeepBut.trans βD (KeepBut.of_grown hg g) (Kd.R_base2 HO383.out))
                 have n6_ := zA_ (ho)
                 clear HO_5 BK372 HI0 HO389 HB HK HO383
                 have HO_5 := n0_
                 have BK372 := n1_
                 have HI0 := n2_
                 have HO389 := n3_
                 have HB := n4_
                 have HK := n5_
                 have HO386 := n6_
                 clear n0_ n1_ n2_ n3_ n4_ n5_ n6_
                 clear ho hb hg hat
                 refine hK.out _ _ ⟨cy_ BK372.out 0, cy_ BK372.out 1, cy_ BK372.out 2, cy_ BK372.out 3⟩ (fun hHeld => ?_)
                 clear hK K
                 refine norm_ (a' := ?_) ?_ ?_
                 rotate_left
                 · show Act.put _ (some 32) _ = _
                   simp only [Act.put, List.setIfInBounds_toArray, List.set_cons_zero, List.set_cons_succ, i64_w, i32_w]
                   rfl
                 exact norm_ βra (hCont (v382, v385, v388) _ ⟨hHeld, βda, βea, βha, (zb_ BK372.out), βp, βD, βv⟩)
             rintro ⟨v382, v385, v388⟩ w51 ⟨hS_, h0_, h1_, h2_, h3_, h4_, h5_, h6_⟩
             have n0_ : Aside0 (Kd.R k42 42 w51 w.heap.size (fun k_ => some k_ ≠ (v388 : Value).ownBlock ∧ some k_ ≠ (.slice Ao44 x5_1.length co44 : Value).ownBlock ∧ k_ ≠ gb372) v385 y384) := ⟨h0_⟩
             have n1_ : Aside0 (Kd.R k42 42 w51 w.heap.size (fun k_ => some k_ ≠ (v385 : Value).ownBlock ∧ some k_ ≠ (.slice Ao44 x5_1.length co44 : Value).ownBlock ∧ k_ ≠ gb372) v388 y387) := ⟨h1_⟩
             have n2_ : Aside0 (Kd.R k42 42 w51 w.heap.size (fun k_ => some k_ ≠ (v385 : Value).ownBlock ∧ some k_ ≠ (v388 : Value).ownBlock ∧ k_ ≠ gb372) (.slice Ao44 x5_1.length co44) x5_1) := ⟨h2_⟩
             have n3_ : Aside0 (w51.heap[gb372]? = some (.cells #[.int .i64 x373000_9, .int .i64 x373001_9, .int .i64 x373002_9, .string x373003_9] 42 (0, 0))) := ⟨h3_⟩
             have n4_ : Aside0 (IsS78 w0 w51 g s0_0 x1001_9 x1002_9 x1003_9) := ⟨h4_⟩
             have n5_ : Aside0 (KeepBut w w51 g none) := ⟨h5_⟩
             have n6_ : Aside0 (Below w0.heap.size w0 w51) := ⟨h6_⟩
             clear HO_5 BK372 HI0 HK HB
             clear h0_ h1_ h2_ h3_ h4_ h5_ h6_
             have HO386 := n0_
             have HO389 := n1_
             have HO_5 := n2_
             have BK372 := n3_
             have HI0 := n4_
             have HK := n5_
             have HB := n6_
             clear n0_ n1_ n2_ n3_ n4_ n5_ n6_
             have hHeld : w51.cell? ⟨gb372, 0, none⟩ = some (.int .i64 x373000_9) ∧ w51.cell? ⟨gb372, 1, none⟩ = some (.int .i64 x373001_9) ∧ w51.cell? ⟨gb372, 2, none⟩ = some (.int .i64 x373002_9) ∧ w51.cell? ⟨gb372, 3, none⟩ = some (.string x373003_9) := hS_
             obtain ⟨Ao53, co53, eo53⟩ := Kd.R_slice HO389.out
             (first | subst eo53 | (injection eo53 with f1_ f2_ f3_; have f4_ := f1_.symm; have f5_ := f3_.symm; clear f1_ f2_ f3_; subst f4_; subst f5_))
             refine norm_ (a' := ?_) ?_ ?_
             rotate_left
             · simp only [putAll, Act.put, List.setIfInBounds_toArray, List.set_cons_zero, List.set_cons_succ]
               rfl
             refine one_ (i := 5) (N := some 35) (mr_ [7, 2]) rfl rfl (one_of HT_.out βDa) (by decide) (fun K hK => ?_)
             refine Kd.R_append_rows_step k42 w.heap.size (by rfl) (.tmp 32) (.tmp 34) 33 42 (.agg #[(.int .i64 0), (.int .i64 0), (.int .i64 0), (.string ⟨#[]⟩)]) 40 rfl Tryd.underlying33 info42 rfl (by decide) (by omega) v385 y384 y387 _ _ _ (fun k_ => some k_ ≠ (.slice Ao44 x5_1.length co44 : Value).ownBlock ∧ some k_ ≠ (.slice Ao53 y387.length co53 : Value).ownBlock ∧ k_ ≠ gb372) (fun _ => False) rfl rfl ?aO ?aR (fun _ _ h => h) (fun _ h => h.elim) ?aF (Below.refl _ _) ?aS ?aL ?_
             (case aR => exact βI)
             (case aF => exact (fun k_ hk => ⟨Kd.fresh' (Kd.R_lt (zr_ HO_5.out)) k_ hk, Kd.fresh' (Kd.R_lt (zr_ HO389.out)) k_ hk, Kd.freshB (g := gb372) (o := .cells #[.int .i64 x373000_9, .int .i64 x373001_9, .int .i64 x373002_9, .string x373003_9] 42 (0, 0)) (zb_ BK372.out) k_ hk⟩))
             (case aO => exact βda)
             (case aS => exact (keep_size (w := w) (g := g) (row := none) βD))
             (case aL => exact (by have := LMc22.out; omega))
             intro v391 w52 ho hb hg hat
             rw [← Ny390.out] at ho
             have n0_ := zA_ (Kd.R_after (ok := (fun k_ => some k_ ≠ (.slice Ao53 y387.length co53 : Value).ownBlock ∧ k_ ≠ gb372)) (by (with_reducible repeat (first | apply Kd.R_alloc | apply Kd.R_drewN | apply Kd.R_drew)); exact Kd.R_mono HO_5.out (fun _ hk => ⟨⟨hk.2.1, hk.2.2⟩, hk.1⟩)) hg hat)
             have n1_ := zA_ (blk_grown (g := gb372) (o := .cells #[.int .i64 x373000_9, .int .i64 x373001_9, .int .i64 x373002_9, .string x373003_9] 42 (0, 0)) (zb_ BK372.out) hg (Kd.R_away HO386.out (fun _ hk => hk.2.2)))
             have n2_ := zA_ (IsS78.grown βp hg (IsS78.own_ne HI0.out HO386.out (by decide)))
             have n3_ := zA_ (Kd.R_after (ok := (fun k_ => some k_ ≠ (.slice Ao44 x5_1.length co44 : Value).ownBlock ∧ k_ ≠ gb372)) βfa hg hat)
             have n4_ := zA_ (below_weaken βv HL.out hb)
             have n5_ := zA_ (KeepBut.trans βD (KeepBut.of_grown hg g) (Kd.R_base2 HO386.out))
             have n6_ := zA_ (ho)
             clear HO_5 BK372 HI0 HO389 HB HK HO386
             have HO_5 := n0_
             have BK372 := n1_
             have HI0 := n2_
             have HO389 := n3_
             have HB := n4_
             have HK := n5_
             have HO392 := n6_
             clear n0_ n1_ n2_ n3_ n4_ n5_ n6_
             clear ho hb hg hat
             obtain ⟨Ao54, co54, eo54⟩ := Kd.R_slice HO392.out
             (first | subst eo54 | (injection eo54 with f1_ f2_ f3_; have f4_ := f1_.symm; have f5_ := f3_.symm; clear f1_ f2_ f3_; subst f4_; subst f5_))
             refine hK.out _ _ ⟨cy_ BK372.out 0, cy_ BK372.out 1, cy_ BK372.out 2, cy_ BK372.out 3⟩ (fun hHeld => ?_)
             clear hK K
             refine norm_ (a' := ?_) ?_ ?_
             rotate_left
             · show Act.put _ (some 35) _ = _
               simp only [Act.put, List.setIfInBounds_toArray, List.set_cons_zero, List.set_cons_succ, i64_w, i32_w]
               rfl
             refine one_ (i := 7) (N := some 37) (mr_ [8, 1]) rfl rfl (one_of HT_.out βDa) (by decide) (fun K hK => ?_)
             refine goes_ Tryd.func47 βDa rfl #[.slice Ao54 y390.length co54, .int .i64 a1] (by rfl) rfl rfl zs_ ?_
             with_reducible refine (spec_StepsCode.calls kj9 _ _ y390 a1 t393 _ ?side1 ?side2 A23.out).mono ?_
             (case side1 => exact zc_ (Kd.R_reads' HO392.out).2.2)
             (case side2 => exact (Kd.R_reads' HO392.out).2.1)
             rintro e w55 ⟨rfl, hb⟩
             refine ⟨_, rfl, ?_⟩
             have n0_ := zA_ (Kd.R_below (zr_ HO_5.out) hb)
             have n1_ := zA_ (Kd.R_below (zr_ HO389.out) hb)
             have n2_ := zA_ (Kd.R_below (zr_ HO392.out) hb)
             have n3_ := zA_ (blk_below (g := gb372) (o := .cells #[.int .i64 x373000_9, .int .i64 x373001_9, .int .i64 x373002_9, .string x373003_9] 42 (0, 0)) (zb_ BK372.out) hb)
             have n4_ := zA_ (IsS78.below βp hb)
             have n5_ := zA_ (KeepBut.trans βD (KeepBut.of_below hb g none) (.inl rfl))
             have n6_ := zA_ (below_step βv hb)
             clear HO_5 HO389 HO392 BK372 HI0 HK HB
             have HO_5 := n0_
             have HO389 := n1_
             have HO392 := n2_
             have BK372 := n3_
             have HI0 := n4_
             have HK := n5_
             have HB := n6_
             clear n0_ n1_ n2_ n3_ n4_ n5_ n6_
             (try clear hb)
             (try clear hb2)
             (try clear hk)
             (try clear hi)
             refine hK.out _ _ ⟨cy_ BK372.out 0, cy_ BK372.out 1, cy_ BK372.out 2, cy_ BK372.out 3⟩ (fun hHeld => ?_)
             clear hK K
             refine norm_ (a' := ?_) ?_ ?_
             rotate_left
             · show Act.put _ (some 37) _ = _
               simp only [Act.put, List.setIfInBounds_toArray, List.set_cons_zero, List.set_cons_succ, i64_w, i32_w]
               rfl
             refine pure_ (i := 8) (N := some 38) (v := ?_) (a' := ?_) (mr_ [9]) rfl rfl (any_of HT_.out βDa) (fun _ _ _ h => h) (Or.inl ⟨(by rfl), ?_⟩) ?_ ?_
             rotate_left; exact pv_; rotate_left; exact pp_
             refine done_ (done_of HT_.out βDa) ?_
             try go_wp2
             go_roundg kj9
             case measure => have := HK1.out; have := HJ9.out; omega
             case rel => exact ⟨(x5_1), (x6_9), (wrap64 (x7_1 - 1)), (x1001_9), (x1002_9), (x1003_9), βya, βya, H', ⟨(by have := HK1.out; have := HJ9.out; omega)⟩, ⟨(by (with_reducible repeat (first | apply Kd.R_alloc | apply Kd.R_drewN | apply Kd.R_drew)); exact Kd.R_mono HO_5.out (fun _ hk => trivial))⟩, ⟨βp⟩, ⟨βD⟩, ⟨βv⟩⟩
         · rw [if_neg c22] at H
           exact absurd H (by simp)
       · rw [if_neg c21] at H
         exact absurd H (by simp)
   · rw [if_neg c7] at H
     have c7b0 : decide (0 < x7_1) = false := decide_eq_false c7
     clear c7
     simp only [Option.some.injEq, Prod.mk.injEq] at H
     obtain ⟨rfl, rfl, rfl, rfl⟩ := H
     go_wp2
     go_ret
     exact ⟨_, βsa, βpa, βA, βH, βja⟩
mutual
def spec_l01Src_l06Odd.j0 : Nat → List (S42) → List Int → Int → Int → Int → Option ((List (S42)) × Int × Int × Int)
 | 0, _, _, _, _, _ => none
 | k + 1, x5, x1000, x1001, x1002, x1003 => (spec_l01Src_one.f x1000 x1001 x1002 x1003 30).bind fun bt428 => (if bt428.1 = true then (spec_l01Src_l06Odd.l0 k ([] : List (S42)) 0 x1000 bt428.2.1 bt428.2.2.1 bt428.2.2.2) else (some (x5, bt428.2.1, bt428.2.2.1, bt428.2.2.2)))
def spec_l01Src_l06Odd.l0 : Nat → List (S42) → Int → List Int → Int → Int → Int → Option ((List (S42)) × Int × Int × Int)
 | 0, _, _, _, _, _, _ => none
 | k + 1, x5, x6, x1000, x1001, x1002, x1003 => (spec_l01Src_n.f x1000 x1001 x1002 x1003 2).bind fun bt432 => (if x6 < (wrap64 (20 + bt432.1)) then (if x5.length < 3518437208883 then (spec_l01Src_l06Odd.l0 k (x5 ++ [(⟨5, 0, x6, (⟨#[]⟩ : ByteArray)⟩ : S42)]) (wrap64 (x6 + 1)) x1000 bt432.2.1 bt432.2.2.1 bt432.2.2.2) else (none)) else (some (x5, bt432.2.1, bt432.2.2.1, bt432.2.2.2)))
end
def spec_l01Src_l06Odd.f (k : Nat) (s0_0 : List Int) (s0_1 : Int) (s0_2 : Int) (s0_3 : Int) (a1 : Int) : Option ((List (S42)) × Int × Int × Int) := (spec_l01Src_l06Steps.f k s0_0 s0_1 s0_2 s0_3 a1).bind fun bt400 => ((spec_l01Src_n.f s0_0 bt400.2.1 bt400.2.2.1 bt400.2.2.2 8).bind fun bt406 => (if bt406.1 = 0 then ((spec_l01Src_l06Any.f k s0_0 bt406.2.1 bt406.2.2.1 bt406.2.2.2).bind fun bt410 => (if bt400.1.length < 3518437208883 then (spec_l01Src_l06Odd.j0 k (bt400.1 ++ [(⟨bt410.1, bt410.2.1, bt410.2.2.1, bt410.2.2.2.1⟩ : S42)]) s0_0 bt410.2.2.2.2.1 bt410.2.2.2.2.2.1 bt410.2.2.2.2.2.2) else (none))) else (if bt406.1 = 1 then (if (bt400.1.length : Int) > 0 then ((spec_l01Src_n.f s0_0 bt406.2.1 bt406.2.2.1 bt406.2.2.2 (bt400.1.length : Int)).bind fun bt420 => (if 0 ≤ bt420.1 then (if bt420.1 < (bt400.1.length : Int) then (if bt400.1.length < 3518437208883 then (spec_l01Src_l06Odd.j0 k (bt400.1 ++ [(⟨(rd_T42 bt400.1 bt420.1).f0, (rd_T42 bt400.1 bt420.1).f1, (rd_T42 bt400.1 bt420.1).f2, (rd_T42 bt400.1 bt420.1).f3⟩ : S42)]) s0_0 bt420.2.1 bt420.2.2.1 bt420.2.2.2) else (none)) else (none)) else (none))) else (spec_l01Src_l06Odd.j0 k bt400.1 s0_0 bt406.2.1 bt406.2.2.1 bt406.2.2.2)) else (spec_l01Src_l06Odd.j0 k bt400.1 s0_0 bt406.2.1 bt406.2.2.1 bt406.2.2.2))))
theorem spec_l01Src_l06Odd.calls (k : Nat) (g : Nat) (s0_0 : List Int) (s0_1 : Int) (s0_2 : Int) (s0_3 : Int) (a1 : Int) (r1 : List (S42)) (r2 : Int) (r3 : Int) (r4 : Int) (w0 w : World) (hI : IsS78 w0 w g s0_0 s0_1 s0_2 s0_3) (hB : Below w0.heap.size w0 w) (h : spec_l01Src_l06Odd.f k s0_0 s0_1 s0_2 s0_3 a1 = some (r1, r2, r3, r4)) :
 Calls Tryd.prog 37 #[.pointer (some ⟨g, 0, none⟩), .int .i64 a1] w fun e w' => ∃ v0_ : Value, e = .returned (v0_) ∧ Kd.R k42 42 w' w.heap.size (fun _ => True) v0_ r1 ∧ IsS78 w0 w' g s0_0 r2 r3 r4 ∧ Below w0.heap.size w0 w' ∧ KeepBut w w' g none := by
 have hu42 := Tryd.underlying42
 have HI0 := zA_ hI
 have HK := zA_ (KeepBut.refl w g none)
 have HL := zA_ hB.size
 clear hI
 have HW0 := zA_ hB.size
 have HB := zA_ hB
 clear hB
 have H : ((spec_l01Src_l06Steps.f k s0_0 s0_1 s0_2 s0_3 a1).bind fun bt400 => ((spec_l01Src_n.f s0_0 bt400.2.1 bt400.2.2.1 bt400.2.2.2 8).bind fun bt406 => (if bt406.1 = 0 then ((spec_l01Src_l06Any.f k s0_0 bt406.2.1 bt406.2.2.1 bt406.2.2.2).bind fun bt410 => (if bt400.1.length < 3518437208883 then (spec_l01Src_l06Odd.j0 k (bt400.1 ++ [(⟨bt410.1, bt410.2.1, bt410.2.2.1, bt410.2.2.2.1⟩ : S42)]) s0_0 bt410.2.2.2.2.1 bt410.2.2.2.2.2.1 bt410.2.2.2.2.2.2) else (none))) else (if bt406.1 = 1 then (if (bt400.1.length : Int) > 0 then ((spec_l01Src_n.f s0_0 bt406.2.1 bt406.2.2.1 bt406.2.2.2 (bt400.1.length : Int)).bind fun bt420 => (if 0 ≤ bt420.1 then (if bt420.1 < (bt400.1.length : Int) then (if bt400.1.length < 3518437208883 then (spec_l01Src_l06Odd.j0 k (bt400.1 ++ [(⟨(rd_T42 bt400.1 bt420.1).f0, (rd_T42 bt400.1 bt420.1).f1, (rd_T42 bt400.1 bt420.1).f2, (rd_T42 bt400.1 bt420.1).f3⟩ : S42)]) s0_0 bt420.2.1 bt420.2.2.1 bt420.2.2.2) else (none)) else (none)) else (none))) else (spec_l01Src_l06Odd.j0 k bt400.1 s0_0 bt406.2.1 bt406.2.2.1 bt406.2.2.2)) else (spec_l01Src_l06Odd.j0 k bt400.1 s0_0 bt406.2.1 bt406.2.2.1 bt406.2.2.2))))) = some (r1, r2, r3, r4) := h
 clear h
 replace H := Option.bind_eq_some_iff.mp H
 obtain ⟨⟨t400, t403, t404, t405⟩, A30, H⟩ := H
 replace H : ((spec_l01Src_n.f s0_0 t403 t404 t405 8).bind fun bt406 => (if bt406.1 = 0 then ((spec_l01Src_l06Any.f k s0_0 bt406.2.1 bt406.2.2.1 bt406.2.2.2).bind fun bt410 => (if t400.length < 3518437208883 then (spec_l01Src_l06Odd.j0 k (t400 ++ [(⟨bt410.1, bt410.2.1, bt410.2.2.1, bt410.2.2.2.1⟩ : S42)]) s0_0 bt410.2.2.2.2.1 bt410.2.2.2.2.2.1 bt410.2.2.2.2.2.2) else (none))) else (if bt406.1 = 1 then (if (t400.length : Int) > 0 then ((spec_l01Src_n.f s0_0 bt406.2.1 bt406.2.2.1 bt406.2.2.2 (t400.length : Int)).bind fun bt420 => (if 0 ≤ bt420.1 then (if bt420.1 < (t400.length : Int) then (if t400.length < 3518437208883 then (spec_l01Src_l06Odd.j0 k (t400 ++ [(⟨(rd_T42 t400 bt420.1).f0, (rd_T42 t400 bt420.1).f1, (rd_T42 t400 bt420.1).f2, (rd_T42 t400 bt420.1).f3⟩ : S42)]) s0_0 bt420.2.1 bt420.2.2.1 bt420.2.2.2) else (none)) else (none)) else (none))) else (spec_l01Src_l06Odd.j0 k t400 s0_0 bt406.2.1 bt406.2.2.1 bt406.2.2.2)) else (spec_l01Src_l06Odd.j0 k t400 s0_0 bt406.2.1 bt406.2.2.1 bt406.2.2.2)))) = some (r1, r2, r3, r4) := H
 have A3 := zA_ A30
 clear A30
 replace H := Option.bind_eq_some_iff.mp H
 obtain ⟨⟨t406, t407, t408, t409⟩, A40, H⟩ := H
 replace H : (if t406 = 0 then ((spec_l01Src_l06Any.f k s0_0 t407 t408 t409).bind fun bt410 => (if t400.length < 3518437208883 then (spec_l01Src_l06Odd.j0 k (t400 ++ [(⟨bt410.1, bt410.2.1, bt410.2.2.1, bt410.2.2.2.1⟩ : S42)]) s0_0 bt410.2.2.2.2.1 bt410.2.2.2.2.2.1 bt410.2.2.2.2.2.2) else (none))) else (if t406 = 1 then (if (t400.length : Int) > 0 then ((spec_l01Src_n.f s0_0 t407 t408 t409 (t400.length : Int)).bind fun bt420 => (if 0 ≤ bt420.1 then (if bt420.1 < (t400.length : Int) then (if t400.length < 3518437208883 then (spec_l01Src_l06Odd.j0 k (t400 ++ [(⟨(rd_T42 t400 bt420.1).f0, (rd_T42 t400 bt420.1).f1, (rd_T42 t400 bt420.1).f2, (rd_T42 t400 bt420.1).f3⟩ : S42)]) s0_0 bt420.2.1 bt420.2.2.1 bt420.2.2.2) else (none)) else (none)) else (none))) else (spec_l01Src_l06Odd.j0 k t400 s0_0 t407 t408 t409)) else (spec_l01Src_l06Odd.j0 k t400 s0_0 t407 t408 t409))) = some (r1, r2, r3, r4) := H
 have A4 := zA_ A40
 clear A40
 have HC5 := zA_ H
 clear H
 go_enter Tryd.func37, Tryd.ntmps37
 go_upto_block 0 with (first | ((with_reducible refine gate_callee (f := 64) rfl ?_); refine goesL_ (some 9) rfl rfl Tryd.func64 βDa rfl #[.pointer (some ⟨g, 0, none⟩), .int .i64 a1] rfl zs_ ?_; (with_reducible refine (spec_l01Src_l06Steps.calls k g s0_0 s0_1 s0_2 s0_3 a1 t400 t403 t404 t405 w0 _ ?side1 ?side2 A3.out).mono ?_); (case side1 => exact βA); (case side2 => exact βH); rintro e w6 ⟨v401, rfl, ho0, hi, hb, hk⟩; refine ⟨_, rfl, ?_⟩; have n0_ := zA_ (Kd.R_lower ho0 (keep_size (w := w) (g := g) (row := none) βja)); have n1_ := zA_ (KeepBut.trans βja hk (.inl rfl)); have n2_ := zA_ (hb); have n3_ := zA_ (hi); clear HK HB HI0; have HO402 := n0_; have HK := n1_; have HB := n2_; have HI0 := n3_; clear n0_ n1_ n2_ n3_; (try clear hb); (try clear hb2); (try clear hk); (try clear hi); (try clear ho0)) | ((with_reducible refine gate_callee (f := 32) rfl ?_); refine goesL_ (some 11) rfl rfl Tryd.func32 βDa rfl #[.pointer (some ⟨g, 0, none⟩), .int .i64 8] rfl zs_ ?_; (with_reducible refine (spec_l01Src_n.calls g s0_0 t403 t404 t405 8 t406 t407 t408 t409 w0 _ ?side1 ?side2 A4.out).mono ?_); (case side1 => exact βA); (case side2 => exact βH); rintro e w7 ⟨rfl, hi, hb, hk⟩; refine ⟨_, rfl, ?_⟩; have n0_ := zA_ (Kd.R_mono (Kd.R_keep (IsS78.apart (show IsS78 w0 _ g s0_0 t403 t404 t405 from by repeat (first | (with_reducible first | exact HI0.out | apply IsS78.alloc | apply IsS78.drewN | apply IsS78.drew | apply IsS78.set_1 | apply IsS78.set_2 | apply IsS78.set_3) | exact HI0.out)) (zr_ HO402.out) (by decide)) hk (fun _ h => h.2)) (fun _ h => h.1)); have n1_ := zA_ (KeepBut.trans βja hk (.inl rfl)); have n2_ := zA_ (hb); have n3_ := zA_ (hi); clear HO402 HK HB HI0; have HO402 := n0_; have HK := n1_; have HB := n2_; have HI0 := n3_; clear n0_ n1_ n2_ n3_; (try clear hb); (try clear hb2); (try clear hk); (try clear hi)))
 (try simp only [Act.put, List.setIfInBounds_toArray, List.set_cons_zero, List.set_cons_succ])
 go_cut [5] (fun v5 wc => ∃ (kq : Nat) (x5_4 : List (S42)) (x1001_4 : Int) (x1002_4 : Int) (x1003_4 : Int), Aside0 (spec_l01Src_l06Odd.j0 kq x5_4 s0_0 x1001_4 x1002_4 x1003_4 = some (r1, r2, r3, r4)) ∧ Aside0 (kq ≤ k) ∧ Aside0 (Kd.R k42 42 wc w.heap.size (fun _ => True) v5 x5_4) ∧ Aside0 (IsS78 w0 wc g s0_0 x1001_4 x1002_4 x1003_4) ∧ Aside0 (KeepBut w wc g none) ∧ Aside0 (Below w0.heap.size w0 wc))
 case first =>
  have H := HC5.out
  clear HC5
  by_cases c8 : t406 = 0
  · rw [if_pos c8] at H
    have c8b0 : (t406 == 0) = true := beq_iff_eq.mpr c8
    have c8b1 : (t406 != 0) = false := bne_eq_false_iff_eq.mpr c8
    clear c8
    (first | rw [c8b0] | (simp only [i64_w, i32_w]; rw [c8b0]) | skip)
    replace H := Option.bind_eq_some_iff.mp H
    obtain ⟨⟨t410, t411, t412, t413, t414, t415, t416⟩, A90, H⟩ := H
    replace H : (if t400.length < 3518437208883 then (spec_l01Src_l06Odd.j0 k (t400 ++ [(⟨t410, t411, t412, t413⟩ : S42)]) s0_0 t414 t415 t416) else (none)) = some (r1, r2, r3, r4) := H
    have A9 := zA_ A90
    clear A90
    by_cases c10 : t400.length < 3518437208883
    · rw [if_pos c10] at H
      have LMc10 := zA_ c10
      clear c10
      obtain ⟨y417, hy417⟩ : ∃ y_ : List (S42), y_ = (t400 ++ [(⟨t410, t411, t412, t413⟩ : S42)]) := ⟨_, rfl⟩
      replace H : (spec_l01Src_l06Odd.j0 k y417 s0_0 t414 t415 t416) = some (r1, r2, r3, r4) := by first | (rw [hy417]; with_reducible exact H) | (have H2_ := (Option.bind_some _ _).symm.trans H; rw [hy417]; with_reducible exact H2_) | (have H2_ := (Option.bind_some _ _).symm.trans H; with_reducible exact H2_) | with_reducible exact H | (rw [hy417]; exact H) | exact H
      have Ny417 := zA_ hy417
      clear hy417
      have H' := zA_ H
      clear H
      go_wp2_with (first | ((with_reducible refine gate_callee (f := 43) rfl ?_); refine goesL_ (some 16) rfl rfl Tryd.func43 βDa rfl #[.pointer (some ⟨g, 0, none⟩)] rfl zs_ ?_; (with_reducible refine (spec_l01Src_l06Any.calls k g s0_0 t407 t408 t409 t410 t411 t412 t413 t414 t415 t416 w0 _ ?side1 ?side2 A9.out).mono ?_); (case side1 => exact βA); (case side2 => exact βH); rintro e w11 ⟨rfl, hi, hb, hk⟩; refine ⟨_, rfl, ?_⟩; have n0_ := zA_ (Kd.R_mono (Kd.R_keep (IsS78.apart (show IsS78 w0 _ g s0_0 t407 t408 t409 from by repeat (first | (with_reducible first | exact HI0.out | apply IsS78.alloc | apply IsS78.drewN | apply IsS78.drew | apply IsS78.set_1 | apply IsS78.set_2 | apply IsS78.set_3) | exact HI0.out)) (zr_ HO402.out) (by decide)) hk (fun _ h => h.2)) (fun _ h => h.1)); have n1_ := zA_ (KeepBut.trans βja hk (.inl rfl)); have n2_ := zA_ (hb); have n3_ := zA_ (hi); clear HO402 HK HB HI0; have HO402 := n0_; have HK := n1_; have HB := n2_; have HI0 := n3_; clear n0_ n1_ n2_ n3_; (try clear hb); (try clear hb2); (try clear hk); (try clear hi)) | ((with_reducible refine gate_builtin (b := .append) (xs := #[.tmp 14, .tmp 17]) rfl ?_); at_builtin; refine Kd.R_append k42 w.heap.size rfl (.tmp 14) (.tmp 17) 33 42 (.agg #[(.int .i64 0), (.int .i64 0), (.int .i64 0), (.string ⟨#[]⟩)]) 40 rfl Tryd.underlying33 info42 rfl (by decide) (by omega) v401 t400 (⟨t410, t411, t412, t413⟩ : S42) [.int .i64 t410, .int .i64 t411, .int .i64 t412, .string t413] (fun _ => True) (fun _ => False) rfl rfl ?aP (fun _ hk => hk.elim) ?aF ?aO (Below.refl _ _) ?aS ?aL ?_; (case aP => exact k42_mkM _ _ _ (⟨t410, t411, t412, t413⟩ : S42)); (case aF => exact (fun _ _ => trivial)); (case aO => exact (zr_ HO402.out)); (case aS => exact (keep_size (w := w) (g := g) (row := none) βja)); (case aL => exact (by have := LMc10.out; omega)); intro v418 w12 ho hb hg hat; rw [← Ny417.out] at ho; have n0_ := zA_ (IsS78.grown βA hg (IsS78.own_ne HI0.out HO402.out (by decide))); have n1_ := zA_ (below_weaken βH HL.out hb); have n2_ := zA_ (KeepBut.trans βja (KeepBut.of_grown hg g) (Kd.R_base2 HO402.out)); have n3_ := zA_ (ho); clear HI0 HB HK HO402; have HI0 := n0_; have HB := n1_; have HK := n2_; have HO419 := n3_; clear n0_ n1_ n2_ n3_; clear ho hb hg hat))
      go_meet
      case rel => exact ⟨_, (y417), (t414), (t415), (t416), H', ⟨βBa⟩, ⟨zr_ HO419.out⟩, ⟨βA⟩, ⟨βja⟩, ⟨βH⟩⟩
    · rw [if_neg c10] at H
      exact absurd H (by simp)
  · rw [if_neg c8] at H
    have c8b0 : (t406 == 0) = false := beq_eq_false_iff_ne.mpr c8
    have c8b1 : (t406 != 0) = true := bne_iff_ne.mpr c8
    (first | rw [c8b0] | (simp only [i64_w, i32_w]; rw [c8b0]) | skip)
    by_cases c13 : t406 = 1
    · rw [if_pos c13] at H
      have c13b0 : (t406 == 1) = true := beq_iff_eq.mpr c13
      have c13b1 : (t406 != 1) = false := bne_eq_false_iff_eq.mpr c13
      clear c13
      by_cases c14 : (t400.length : Int) > 0
      · rw [if_pos c14] at H
        have c14b0 : decide (0 < (t400.length : Int)) = true := decide_eq_true c14
        have c14b1 : decide (0 < t400.length) = true := decide_eq_true (by omega)
        clear c14
        replace H := Option.bind_eq_some_iff.mp H
        obtain ⟨⟨t420, t421, t422, t423⟩, A150, H⟩ := H
        replace H : (if 0 ≤ t420 then (if t420 < (t400.length : Int) then (if t400.length < 3518437208883 then (spec_l01Src_l06Odd.j0 k (t400 ++ [(⟨(rd_T42 t400 t420).f0, (rd_T42 t400 t420).f1, (rd_T42 t400 t420).f2, (rd_T42 t400 t420).f3⟩ : S42)]) s0_0 t421 t422 t423) else (none)) else (none)) else (none)) = some (r1, r2, r3, r4) := H
        have A15 := zA_ A150
        clear A150
        by_cases c16 : 0 ≤ t420
        · rw [if_pos c16] at H
          have c16b0 : decide (0 ≤ t420) = true := decide_eq_true c16
          clear c16
          by_cases c17 : t420 < (t400.length : Int)
          · rw [if_pos c17] at H
            have c17b0 : decide (t420 < (t400.length : Int)) = true := decide_eq_true c17
            clear c17
            by_cases c18 : t400.length < 3518437208883
            · rw [if_pos c18] at H
              have LMc18 := zA_ c18
              clear c18
              obtain ⟨y425, hy425⟩ : ∃ y_ : List (S42), y_ = (t400 ++ [(⟨(rd_T42 t400 t420).f0, (rd_T42 t400 t420).f1, (rd_T42 t400 t420).f2, (rd_T42 t400 t420).f3⟩ : S42)]) := ⟨_, rfl⟩
              replace H : (spec_l01Src_l06Odd.j0 k y425 s0_0 t421 t422 t423) = some (r1, r2, r3, r4) := by first | (rw [hy425]; with_reducible exact H) | (have H2_ := (Option.bind_some _ _).symm.trans H; rw [hy425]; with_reducible exact H2_) | (have H2_ := (Option.bind_some _ _).symm.trans H; with_reducible exact H2_) | with_reducible exact H | (rw [hy425]; exact H) | exact H
              have Ny425 := zA_ hy425
              clear hy425
              have H' := zA_ H
              clear H
              obtain ⟨Ao19, co19, eo19⟩ := Kd.R_slice HO402.out
              subst eo19
              go_wp2_with (first | ((with_reducible refine gate_callee (f := 32) rfl ?_); refine goesL_ (some 29) rfl rfl Tryd.func32 βDa rfl #[.pointer (some ⟨g, 0, none⟩), .int .i64 (t400.length : Int)] rfl zs_ ?_; (with_reducible refine (spec_l01Src_n.calls g s0_0 t407 t408 t409 (t400.length : Int) t420 t421 t422 t423 w0 _ ?side1 ?side2 A15.out).mono ?_); (case side1 => exact βA); (case side2 => exact βH); rintro e w20 ⟨rfl, hi, hb, hk⟩; refine ⟨_, rfl, ?_⟩; have n0_ := zA_ (Kd.R_mono (Kd.R_keep (IsS78.apart (show IsS78 w0 _ g s0_0 t407 t408 t409 from by repeat (first | (with_reducible first | exact HI0.out | apply IsS78.alloc | apply IsS78.drewN | apply IsS78.drew | apply IsS78.set_1 | apply IsS78.set_2 | apply IsS78.set_3) | exact HI0.out)) (zr_ HO402.out) (by decide)) hk (fun _ h => h.2)) (fun _ h => h.1)); have n1_ := zA_ (KeepBut.trans βja hk (.inl rfl)); have n2_ := zA_ (hb); have n3_ := zA_ (hi); clear HO402 HK HB HI0; have HO402 := n0_; have HK := n1_; have HB := n2_; have HI0 := n3_; clear n0_ n1_ n2_ n3_; (try clear hb); (try clear hb2); (try clear hk); (try clear hi); have p424 : 0 ≤ (t420 : Int) := of_decide_eq_true βxa; have q424 : t420 < (t400.length : Int) := of_decide_eq_true βxa; obtain ⟨ad424, e424, hx424_0, hx424_1, hx424_2, hx424_3⟩ := at_T42 (Kd.R_reads' HO402.out).2.2 t420 p424 q424; cases e424; replace p424 := eq_true p424; replace q424 := eq_true q424) | ((with_reducible refine gate_builtin (b := .append) (xs := #[.tmp 24, .tmp 32]) rfl ?_); at_builtin; refine Kd.R_append k42 w.heap.size rfl (.tmp 24) (.tmp 32) 33 42 (.agg #[(.int .i64 0), (.int .i64 0), (.int .i64 0), (.string ⟨#[]⟩)]) 40 rfl Tryd.underlying33 info42 rfl (by decide) (by omega) (.slice (some ad424) t400.length co19) t400 (⟨(rd_T42 t400 t420).f0, (rd_T42 t400 t420).f1, (rd_T42 t400 t420).f2, (rd_T42 t400 t420).f3⟩ : S42) [.int .i64 ((rd_T42 t400 t420).f0), .int .i64 ((rd_T42 t400 t420).f1), .int .i64 ((rd_T42 t400 t420).f2), .string ((rd_T42 t400 t420).f3)] (fun _ => True) (fun _ => False) rfl rfl ?aP (fun _ hk => hk.elim) ?aF ?aO (Below.refl _ _) ?aS ?aL ?_; (case aP => exact k42_mkM _ _ _ (⟨(rd_T42 t400 t420).f0, (rd_T42 t400 t420).f1, (rd_T42 t400 t420).f2, (rd_T42 t400 t420).f3⟩ : S42)); (case aF => exact (fun _ _ => trivial)); (case aO => exact (zr_ HO402.out)); (case aS => exact (keep_size (w := w) (g := g) (row := none) βja)); (case aL => exact (by have := LMc18.out; omega)); intro v426 w21 ho hb hg hat; rw [← Ny425.out] at ho; have n0_ := zA_ (IsS78.grown βA hg (IsS78.own_ne HI0.out HO402.out (by decide))); have n1_ := zA_ (below_weaken βH HL.out hb); have n2_ := zA_ (KeepBut.trans βja (KeepBut.of_grown hg g) (Kd.R_base2 HO402.out)); have n3_ := zA_ (ho); clear HI0 HB HK HO402; have HI0 := n0_; have HB := n1_; have HK := n2_; have HO427 := n3_; clear n0_ n1_ n2_ n3_; clear ho hb hg hat))
              go_meet
              case rel => exact ⟨_, (y425), (t421), (t422), (t423), H', ⟨βBa⟩, ⟨zr_ HO427.out⟩, ⟨βA⟩, ⟨βja⟩, ⟨βH⟩⟩
            · rw [if_neg c18] at H
              exact absurd H (by simp)
          · rw [if_neg c17] at H
            exact absurd H (by simp)
        · rw [if_neg c16] at H
          exact absurd H (by simp)
      · rw [if_neg c14] at H
        have c14b0 : decide (0 < (t400.length : Int)) = false := decide_eq_false c14
        have c14b1 : decide (0 < t400.length) = false := decide_eq_false (by omega)
        clear c14
        have H' := zA_ H
        clear H
        obtain ⟨Ao22, co22, eo22⟩ := Kd.R_slice HO402.out
        subst eo22
        go_wp2
        go_meet
        case rel => exact ⟨_, (t400), (t407), (t408), (t409), H', ⟨βBa⟩, ⟨zr_ HO402.out⟩, ⟨βA⟩, ⟨βja⟩, ⟨βH⟩⟩
    · rw [if_neg c13] at H
      have c13b0 : (t406 == 1) = false := beq_eq_false_iff_ne.mpr c13
      have c13b1 : (t406 != 1) = true := bne_iff_ne.mpr c13
      have H' := zA_ H
      clear H
      go_wp2
      go_meet
      case rel => exact ⟨_, (t400), (t407), (t408), (t409), H', ⟨βBa⟩, ⟨zr_ HO402.out⟩, ⟨βA⟩, ⟨βja⟩, ⟨βH⟩⟩
 case rest =>
  clear HC5
  try clear c1
  try clear p2
  try clear c3
  try clear c4
  try clear p4
  try clear q4
  try clear hx4
  try clear c6
  try clear c8
  try clear c8b0
  try clear c8b1
  try clear c10
  try clear c13
  try clear c13b0
  try clear c13b1
  try clear c14
  try clear c14b0
  try clear c14b1
  try clear c16
  try clear c16b0
  try clear c17
  try clear c17b0
  try clear c18
  try clear hx424_0
  try clear hx424_1
  try clear hx424_2
  try clear hx424_3
  try clear p424
  try clear q424
  obtain ⟨kq, x5_4, x1001_4, x1002_4, x1003_4, HA, HJ4, HO_5, HI0, HK, HB⟩ := hcut
  cases kq with
  | zero => exact absurd HA.out (by simp [spec_l01Src_l06Odd.j0])
  | succ kj4 =>
   have H := HA.out
   clear HA
   simp only [spec_l01Src_l06Odd.j0] at H
   replace H := Option.bind_eq_some_iff.mp H
   obtain ⟨⟨t428, t429, t430, t431⟩, A230, H⟩ := H
   replace H : (if t428 = true then (spec_l01Src_l06Odd.l0 kj4 ([] : List (S42)) 0 s0_0 t429 t430 t431) else (some (x5_4, t429, t430, t431))) = some (r1, r2, r3, r4) := H
   have A23 := zA_ A230
   clear A230
   by_cases c24 : t428 = true
   · subst c24
     have H1 : (spec_l01Src_l06Odd.l0 kj4 ([] : List (S42)) 0 s0_0 t429 t430 t431) = some (r1, r2, r3, r4) := by rw [if_pos rfl] at H; exact H
     clear H
     have H := H1
     clear H1
     have H' := zA_ H
     clear H
     go_wp2_with (first | ((with_reducible refine gate_callee (f := 42) rfl ?_); refine goesL_ (some 35) rfl rfl Tryd.func42 βDa rfl #[.pointer (some ⟨g, 0, none⟩), .int .i64 30] rfl zs_ ?_; (with_reducible refine (spec_l01Src_one.calls g s0_0 x1001_4 x1002_4 x1003_4 30 true t429 t430 t431 w0 _ ?side1 ?side2 A23.out).mono ?_); (case side1 => exact βA); (case side2 => exact βH); rintro e w25 ⟨rfl, hi, hb, hk⟩; refine ⟨_, rfl, ?_⟩; have n0_ := zA_ (Kd.R_mono (Kd.R_keep (IsS78.apart (show IsS78 w0 _ g s0_0 x1001_4 x1002_4 x1003_4 from by repeat (first | (with_reducible first | exact HI0.out | apply IsS78.alloc | apply IsS78.drewN | apply IsS78.drew | apply IsS78.set_1 | apply IsS78.set_2 | apply IsS78.set_3) | exact HI0.out)) (zr_ HO_5.out) (by decide)) hk (fun _ h => h.2)) (fun _ h => h.1)); have n1_ := zA_ (KeepBut.trans βja hk (.inl rfl)); have n2_ := zA_ (hb); have n3_ := zA_ (hi); clear HO_5 HK HB HI0; have HO_5 := n0_; have HK := n1_; have HB := n2_; have HI0 := n3_; clear n0_ n1_ n2_ n3_; (try clear hb); (try clear hb2); (try clear hk); (try clear hi)))
     go_loopg [5, 6] kj4 (fun kq v5 v6 w' => ∃ (x5_2 : List (S42)) (x6_2 : Int) (x1001_2 : Int) (x1002_2 : Int) (x1003_2 : Int), v6 = .int .i64 x6_2 ∧ Aside0 (spec_l01Src_l06Odd.l0 kq x5_2 x6_2 s0_0 x1001_2 x1002_2 x1003_2 = some (r1, r2, r3, r4)) ∧ Aside0 (kq ≤ kj4) ∧ Aside0 (Kd.R k42 42 w' w.heap.size (fun _ => True) v5 x5_2) ∧ Aside0 (IsS78 w0 w' g s0_0 x1001_2 x1002_2 x1003_2) ∧ Aside0 (KeepBut w w' g none) ∧ Aside0 (Below w0.heap.size w0 w'))
     case atStart => exact ⟨(([] : List (S42))), (0), (t429), (t430), (t431), βya, H', ⟨Nat.le_refl _⟩, ⟨βka⟩, ⟨βA⟩, ⟨βja⟩, ⟨βH⟩⟩
     case round =>
      clear H'
      try clear c1
      try clear c2
      try clear p2
      try clear c3
      try clear c4
      try clear p4
      try clear q4
      try clear hx4
      try clear c6
      try clear c8
      try clear c8b0
      try clear c8b1
      try clear c10
      try clear c13
      try clear c13b0
      try clear c13b1
      try clear c14
      try clear c14b0
      try clear c14b1
      try clear c16
      try clear c16b0
      try clear c17
      try clear c17b0
      try clear c18
      try clear c24
      try clear hx424_0
      try clear hx424_1
      try clear hx424_2
      try clear hx424_3
      try clear p2
      try clear p4
      try clear p424
      try clear q4
      try clear q424
      obtain ⟨x5_2, x6_2, x1001_2, x1002_2, x1003_2, rfl, HA, HK2, HO_5, HI0, HK, HB⟩ := hrel
      cases gk with
      | zero => exact absurd HA.out (by simp [spec_l01Src_l06Odd.l0])
      | succ k2 =>
       have H := HA.out
       clear HA
       simp only [spec_l01Src_l06Odd.l0] at H
       replace H := Option.bind_eq_some_iff.mp H
       obtain ⟨⟨t432, t433, t434, t435⟩, A260, H⟩ := H
       replace H : (if x6_2 < (wrap64 (20 + t432)) then (if x5_2.length < 3518437208883 then (spec_l01Src_l06Odd.l0 k2 (x5_2 ++ [(⟨5, 0, x6_2, (⟨#[]⟩ : ByteArray)⟩ : S42)]) (wrap64 (x6_2 + 1)) s0_0 t433 t434 t435) else (none)) else (some (x5_2, t433, t434, t435))) = some (r1, r2, r3, r4) := H
       have A26 := zA_ A260
       clear A260
       by_cases c27 : x6_2 < (wrap64 (20 + t432))
       · rw [if_pos c27] at H
         have c27b0 : decide (x6_2 < (wrap64 (20 + t432))) = true := decide_eq_true c27
         clear c27
         by_cases c28 : x5_2.length < 3518437208883
         · rw [if_pos c28] at H
           have LMc28 := zA_ c28
           clear c28
           obtain ⟨y436, hy436⟩ : ∃ y_ : List (S42), y_ = (x5_2 ++ [(⟨5, 0, x6_2, (⟨#[]⟩ : ByteArray)⟩ : S42)]) := ⟨_, rfl⟩
           replace H : (spec_l01Src_l06Odd.l0 k2 y436 (wrap64 (x6_2 + 1)) s0_0 t433 t434 t435) = some (r1, r2, r3, r4) := by first | (rw [hy436]; with_reducible exact H) | (have H2_ := (Option.bind_some _ _).symm.trans H; rw [hy436]; with_reducible exact H2_) | (have H2_ := (Option.bind_some _ _).symm.trans H; with_reducible exact H2_) | with_reducible exact H | (rw [hy436]; exact H) | exact H
           have Ny436 := zA_ hy436
           clear hy436
           have H' := zA_ H
           clear H
           go_wp2_with (first | ((with_reducible refine gate_callee (f := 32) rfl ?_); refine goesL_ (some 38) rfl rfl Tryd.func32 βDa rfl #[.pointer (some ⟨g, 0, none⟩), .int .i64 2] rfl zs_ ?_; (with_reducible refine (spec_l01Src_n.calls g s0_0 x1001_2 x1002_2 x1003_2 2 t432 t433 t434 t435 w0 _ ?side1 ?side2 A26.out).mono ?_); (case side1 => exact βA); (case side2 => exact βH); rintro e w29 ⟨rfl, hi, hb, hk⟩; refine ⟨_, rfl, ?_⟩; have n0_ := zA_ (Kd.R_mono (Kd.R_keep (IsS78.apart (show IsS78 w0 _ g s0_0 x1001_2 x1002_2 x1003_2 from by repeat (first | (with_reducible first | exact HI0.out | apply IsS78.alloc | apply IsS78.drewN | apply IsS78.drew | apply IsS78.set_1 | apply IsS78.set_2 | apply IsS78.set_3) | exact HI0.out)) (zr_ HO_5.out) (by decide)) hk (fun _ h => h.2)) (fun _ h => h.1)); have n1_ := zA_ (KeepBut.trans βja hk (.inl rfl)); have n2_ := zA_ (hb); have n3_ := zA_ (hi); clear HO_5 HK HB HI0; have HO_5 := n0_; have HK := n1_; have HB := n2_; have HI0 := n3_; clear n0_ n1_ n2_ n3_; (try clear hb); (try clear hb2); (try clear hk); (try clear hi)) | ((with_reducible refine gate_builtin (b := .append) (xs := #[.tmp 43, .tmp 46]) rfl ?_); at_builtin; refine Kd.R_append k42 w.heap.size rfl (.tmp 43) (.tmp 46) 33 42 (.agg #[(.int .i64 0), (.int .i64 0), (.int .i64 0), (.string ⟨#[]⟩)]) 40 rfl Tryd.underlying33 info42 rfl (by decide) (by omega) u5 x5_2 (⟨5, 0, x6_2, (⟨#[]⟩ : ByteArray)⟩ : S42) [.int .i64 5, .int .i64 0, .int .i64 x6_2, .string (⟨#[]⟩ : ByteArray)] (fun _ => True) (fun _ => False) rfl rfl ?aP (fun _ hk => hk.elim) ?aF ?aO (Below.refl _ _) ?aS ?aL ?_; (case aP => exact k42_mkM _ _ _ (⟨5, 0, x6_2, (⟨#[]⟩ : ByteArray)⟩ : S42)); (case aF => exact (fun _ _ => trivial)); (case aO => exact (zr_ HO_5.out)); (case aS => exact (keep_size (w := w) (g := g) (row := none) βja)); (case aL => exact (by have := LMc28.out; omega)); intro v437 w30 ho hb hg hat; rw [← Ny436.out] at ho; have n0_ := zA_ (IsS78.grown βA hg (IsS78.own_ne HI0.out HO_5.out (by decide))); have n1_ := zA_ (below_weaken βH HL.out hb); have n2_ := zA_ (KeepBut.trans βja (KeepBut.of_grown hg g) (Kd.R_base2 HO_5.out)); have n3_ := zA_ (ho); clear HI0 HB HK HO_5; have HI0 := n0_; have HB := n1_; have HK := n2_; have HO438 := n3_; clear n0_ n1_ n2_ n3_; clear ho hb hg hat))
           go_roundg k2
           case measure => have := HJ4.out; have := HK2.out; omega
           case rel => exact ⟨(y436), (wrap64 (x6_2 + 1)), (t433), (t434), (t435), βya, H', ⟨(by have := HJ4.out; have := HK2.out; omega)⟩, ⟨zr_ HO438.out⟩, ⟨βA⟩, ⟨βja⟩, ⟨βH⟩⟩
         · rw [if_neg c28] at H
           exact absurd H (by simp)
       · rw [if_neg c27] at H
         have c27b0 : decide (x6_2 < (wrap64 (20 + t432))) = false := decide_eq_false c27
         clear c27
         simp only [Option.some.injEq, Prod.mk.injEq] at H
         obtain ⟨rfl, rfl, rfl, rfl⟩ := H
         go_wp2_with (first | ((with_reducible refine gate_callee (f := 32) rfl ?_); refine goesL_ (some 38) rfl rfl Tryd.func32 βDa rfl #[.pointer (some ⟨g, 0, none⟩), .int .i64 2] rfl zs_ ?_; (with_reducible refine (spec_l01Src_n.calls g s0_0 x1001_2 x1002_2 x1003_2 2 t432 t433 t434 t435 w0 _ ?side1 ?side2 A26.out).mono ?_); (case side1 => exact βA); (case side2 => exact βH); rintro e w31 ⟨rfl, hi, hb, hk⟩; refine ⟨_, rfl, ?_⟩; have n0_ := zA_ (Kd.R_mono (Kd.R_keep (IsS78.apart (show IsS78 w0 _ g s0_0 x1001_2 x1002_2 x1003_2 from by repeat (first | (with_reducible first | exact HI0.out | apply IsS78.alloc | apply IsS78.drewN | apply IsS78.drew | apply IsS78.set_1 | apply IsS78.set_2 | apply IsS78.set_3) | exact HI0.out)) (zr_ HO_5.out) (by decide)) hk (fun _ h => h.2)) (fun _ h => h.1)); have n1_ := zA_ (KeepBut.trans βja hk (.inl rfl)); have n2_ := zA_ (hb); have n3_ := zA_ (hi); clear HO_5 HK HB HI0; have HO_5 := n0_; have HK := n1_; have HB := n2_; have HI0 := n3_; clear n0_ n1_ n2_ n3_; (try clear hb); (try clear hb2); (try clear hk); (try clear hi)))
         go_ret
         exact ⟨_, βsa, βpa, βA, βH, βja⟩
   · replace c24 := Bool.eq_false_iff.mpr c24
     subst c24
     have H1 : (some (x5_4, t429, t430, t431)) = some (r1, r2, r3, r4) := by rw [if_neg (show ¬ (false = true) by decide)] at H; exact H
     clear H
     have H := H1
     clear H1
     simp only [Option.some.injEq, Prod.mk.injEq] at H
     obtain ⟨rfl, rfl, rfl, rfl⟩ := H
     go_wp2_with (first | ((with_reducible refine gate_callee (f := 42) rfl ?_); refine goesL_ (some 35) rfl rfl Tryd.func42 βDa rfl #[.pointer (some ⟨g, 0, none⟩), .int .i64 30] rfl zs_ ?_; (with_reducible refine (spec_l01Src_one.calls g s0_0 x1001_4 x1002_4 x1003_4 30 false t429 t430 t431 w0 _ ?side1 ?side2 A23.out).mono ?_); (case side1 => exact βA); (case side2 => exact βH); rintro e w32 ⟨rfl, hi, hb, hk⟩; refine ⟨_, rfl, ?_⟩; have n0_ := zA_ (Kd.R_mono (Kd.R_keep (IsS78.apart (show IsS78 w0 _ g s0_0 x1001_4 x1002_4 x1003_4 from by repeat (first | (with_reducible first | exact HI0.out | apply IsS78.alloc | apply IsS78.drewN | apply IsS78.drew | apply IsS78.set_1 | apply IsS78.set_2 | apply IsS78.set_3) | exact HI0.out)) (zr_ HO_5.out) (by decide)) hk (fun _ h => h.2)) (fun _ h => h.1)); have n1_ := zA_ (KeepBut.trans βja hk (.inl rfl)); have n2_ := zA_ (hb); have n3_ := zA_ (hi); clear HO_5 HK HB HI0; have HO_5 := n0_; have HK := n1_; have HB := n2_; have HI0 := n3_; clear n0_ n1_ n2_ n3_; (try clear hb); (try clear hb2); (try clear hk); (try clear hi)))
     go_ret
     exact ⟨_, βsa, βpa, βA, βH, βja⟩
def spec_DrawImageApply.f (k : Nat) (l0 : List Int) : Option (List ByteArray × (List (S42))) := (spec_l01Source.f k l0).bind fun bt439 => ((spec_l01Src_l07Odd.f k bt439.1 bt439.2.1 bt439.2.2.1 bt439.2.2.2).bind fun bt444 => (if (bt444.1.length : Int) = 0 then (some (bt444.1, ([] : List (S42)))) else ((spec_l01Src_l06Odd.f k bt439.1 bt444.2.1 bt444.2.2.1 bt444.2.2.2 (bt444.1.length : Int)).bind fun bt450 => (some (bt444.1, bt450.1)))))
theorem spec_DrawImageApply.calls (k : Nat) (A0 : Option Addr) (c0 : Nat) (l0 : List Int) (r1 : List ByteArray) (r2 : List (S42)) (w : World) (hr0 : Kd.C (Kd.int .u8) w A0 l0.length l0) (hc0 : l0.length ≤ c0) (h : spec_DrawImageApply.f k l0 = some (r1, r2)) :
 Calls Tryd.prog 15 #[.slice A0 l0.length c0] w fun e w' => ∃ v0_ v1_ : Value, e = .returned (.tuple #[v0_, v1_]) ∧ Kd.R Kd.string 9 w' w.heap.size (fun _ => True) v0_ r1 ∧ Kd.R k42 42 w' w.heap.size (fun _ => True) v1_ r2 ∧ Below w.heap.size w w' := by
 have HR0 := zA_ hr0
 have HC0 := zA_ hc0
 clear hr0 hc0
 have HB := zA_ (Below.refl w.heap.size w)
 have H : ((spec_l01Source.f k l0).bind fun bt439 => ((spec_l01Src_l07Odd.f k bt439.1 bt439.2.1 bt439.2.2.1 bt439.2.2.2).bind fun bt444 => (if (bt444.1.length : Int) = 0 then (some (bt444.1, ([] : List (S42)))) else ((spec_l01Src_l06Odd.f k bt439.1 bt444.2.1 bt444.2.2.1 bt444.2.2.2 (bt444.1.length : Int)).bind fun bt450 => (some (bt444.1, bt450.1)))))) = some (r1, r2) := h
 clear h
 replace H := Option.bind_eq_some_iff.mp H
 obtain ⟨⟨t439, t440, t441, t442⟩, A20, H⟩ := H
 replace H : ((spec_l01Src_l07Odd.f k t439 t440 t441 t442).bind fun bt444 => (if (bt444.1.length : Int) = 0 then (some (bt444.1, ([] : List (S42)))) else ((spec_l01Src_l06Odd.f k t439 bt444.2.1 bt444.2.2.1 bt444.2.2.2 (bt444.1.length : Int)).bind fun bt450 => (some (bt444.1, bt450.1))))) = some (r1, r2) := H
 have A2 := zA_ A20
 clear A20
 replace H := Option.bind_eq_some_iff.mp H
 obtain ⟨⟨t444, t447, t448, t449⟩, A30, H⟩ := H
 replace H : (if (t444.length : Int) = 0 then (some (t444, ([] : List (S42)))) else ((spec_l01Src_l06Odd.f k t439 t447 t448 t449 (t444.length : Int)).bind fun bt450 => (some (t444, bt450.1)))) = some (r1, r2) := H
 have A3 := zA_ A30
 clear A30
 by_cases c4 : (t444.length : Int) = 0
 · rw [if_pos c4] at H
   have c4b0 : ((t444.length : Int) == 0) = true := beq_iff_eq.mpr c4
   have c4b1 : ((t444.length : Int) != 0) = false := bne_eq_false_iff_eq.mpr c4
   clear c4
   simp only [Option.some.injEq, Prod.mk.injEq] at H
   obtain ⟨rfl, rfl⟩ := H
   go_enter Tryd.func15, Tryd.ntmps15
   go_wp2_with (first | ((with_reducible refine gate_callee (f := 30) rfl ?_); refine goesL_ (some 7) rfl rfl Tryd.func30 βDa rfl #[.slice A0 l0.length c0] rfl zs_ ?_; (with_reducible refine (spec_l01Source.calls k _ _ l0 t439 t440 t441 t442 w _ ?side1 ?side2 ?side3 A2.out).mono ?_); (case side1 => exact βoa); (case side2 => exact HR0.out); (case side3 => exact HC0.out); rintro e w5 ⟨g443, rfl, hi, hb, hb2⟩; refine ⟨_, rfl, ?_⟩; have n0_ := zA_ (hb); have n1_ := zA_ (hi); clear HB; have HB := n0_; have HI443 := n1_; clear n0_ n1_; (try clear hb); (try clear hb2); (try clear hk); (try clear hi)) | ((with_reducible refine gate_callee (f := 36) rfl ?_); refine goesL_ (some 9) rfl rfl Tryd.func36 βDa rfl #[.pointer (some ⟨g443, 0, none⟩)] rfl zs_ ?_; (with_reducible refine (spec_l01Src_l07Odd.calls k g443 t439 t440 t441 t442 t444 t447 t448 t449 w _ ?side1 ?side2 A3.out).mono ?_); (case side1 => exact βy); (case side2 => exact βE); rintro e w6 ⟨v445, rfl, ho0, hi, hb, hk⟩; refine ⟨_, rfl, ?_⟩; have n0_ := zA_ (Kd.R_lower ho0 (below_size βE)); have n1_ := zA_ (hb); have n2_ := zA_ (hi); clear HB HI443; have HO446 := n0_; have HB := n1_; have HI443 := n2_; clear n0_ n1_ n2_; (try clear hb); (try clear hb2); (try clear hk); (try clear hi); (try clear ho0); obtain ⟨Ao7, co7, eo7⟩ := Kd.R_slice HO446.out; subst eo7))
   go_ret2
   exact ⟨_, _, βsa, (by (with_reducible repeat (first | apply Kd.R_alloc | apply Kd.R_drewN | apply Kd.R_drew)); exact HO446.out), βka, βE⟩
 · rw [if_neg c4] at H
   have c4b0 : ((t444.length : Int) == 0) = false := beq_eq_false_iff_ne.mpr c4
   have c4b1 : ((t444.length : Int) != 0) = true := bne_iff_ne.mpr c4
   have c4b2 : ¬ (t444 = []) := fun h_ => c4 (by rw [h_]; rfl)
   replace H := Option.bind_eq_some_iff.mp H
   obtain ⟨⟨t450, t453, t454, t455⟩, A80, H⟩ := H
   replace H : (some (t444, t450)) = some (r1, r2) := H
   have A8 := zA_ A80
   clear A80
   simp only [Option.some.injEq, Prod.mk.injEq] at H
   obtain ⟨rfl, rfl⟩ := H
   go_enter Tryd.func15, Tryd.ntmps15
   go_wp2_with (first | ((with_reducible refine gate_callee (f := 30) rfl ?_); refine goesL_ (some 7) rfl rfl Tryd.func30 βDa rfl #[.slice A0 l0.length c0] rfl zs_ ?_; (with_reducible refine (spec_l01Source.calls k _ _ l0 t439 t440 t441 t442 w _ ?side1 ?side2 ?side3 A2.out).mono ?_); (case side1 => exact βoa); (case side2 => exact HR0.out); (case side3 => exact HC0.out); rintro e w9 ⟨g443, rfl, hi, hb, hb2⟩; refine ⟨_, rfl, ?_⟩; have n0_ := zA_ (hb); have n1_ := zA_ (hi); clear HB; have HB := n0_; have HI443 := n1_; clear n0_ n1_; (try clear hb); (try clear hb2); (try clear hk); (try clear hi)) | ((with_reducible refine gate_callee (f := 36) rfl ?_); refine goesL_ (some 9) rfl rfl Tryd.func36 βDa rfl #[.pointer (some ⟨g443, 0, none⟩)] rfl zs_ ?_; (with_reducible refine (spec_l01Src_l07Odd.calls k g443 t439 t440 t441 t442 t444 t447 t448 t449 w _ ?side1 ?side2 A3.out).mono ?_); (case side1 => exact βy); (case side2 => exact βE); rintro e w10 ⟨v445, rfl, ho0, hi, hb, hk⟩; refine ⟨_, rfl, ?_⟩; have n0_ := zA_ (Kd.R_lower ho0 (below_size βE)); have n1_ := zA_ (hb); have n2_ := zA_ (hi); clear HB HI443; have HO446 := n0_; have HB := n1_; have HI443 := n2_; clear n0_ n1_ n2_; (try clear hb); (try clear hb2); (try clear hk); (try clear hi); (try clear ho0); obtain ⟨Ao11, co11, eo11⟩ := Kd.R_slice HO446.out; subst eo11) | ((with_reducible refine gate_callee (f := 37) rfl ?_); refine goesL_ (some 18) rfl rfl Tryd.func37 βDa rfl #[.pointer (some ⟨g443, 0, none⟩), .int .i64 (t444.length : Int)] rfl zs_ ?_; (with_reducible refine (spec_l01Src_l06Odd.calls k g443 t439 t447 t448 t449 (t444.length : Int) t450 t453 t454 t455 w _ ?side1 ?side2 A8.out).mono ?_); (case side1 => exact βy); (case side2 => exact βE); rintro e w12 ⟨v451, rfl, ho0, hi, hb, hk⟩; refine ⟨_, rfl, ?_⟩; have n0_ := zA_ (Kd.R_mono (Kd.R_keep (IsS78.apart (show IsS78 w _ g443 t439 t447 t448 t449 from by repeat (first | (with_reducible first | exact HI443.out | apply IsS78.alloc | apply IsS78.drewN | apply IsS78.drew | apply IsS78.set_1 | apply IsS78.set_2 | apply IsS78.set_3) | exact HI443.out)) (zr_ HO446.out) (by decide)) hk (fun _ h => h.2)) (fun _ h => h.1)); have n1_ := zA_ (Kd.R_lower ho0 (below_size βE)); have n2_ := zA_ (hb); have n3_ := zA_ (hi); clear HO446 HB HI443; have HO446 := n0_; have HO452 := n1_; have HB := n2_; have HI443 := n3_; clear n0_ n1_ n2_ n3_; (try clear hb); (try clear hb2); (try clear hk); (try clear hi); (try clear ho0)))
   go_ret2
   exact ⟨_, _, βsa, (by (with_reducible repeat (first | apply Kd.R_alloc | apply Kd.R_drewN | apply Kd.R_drew)); exact HO446.out), (by (with_reducible repeat (first | apply Kd.R_alloc | apply Kd.R_drewN | apply Kd.R_drew)); exact HO452.out), βE⟩
def impl_isTime.f (a0 : Int) : Option (Bool) := (impl_within.f a0 0 1000000).bind fun t456 => (some t456)
theorem impl_isTime.calls (a0 : Int) (r : Bool) (w : World) (h : impl_isTime.f a0 = some r) :
 Calls Tryd.prog 73 #[.int .i64 a0] w fun e w' => e = .returned (.bool r) ∧ Drawn0 w w' := by
 have H : ((impl_within.f a0 0 1000000).bind fun t456 => (some t456)) = some r := h
 clear h
 replace H := Option.bind_eq_some_iff.mp H
 obtain ⟨t456, A20, H⟩ := H
 replace H : (some t456) = some r := H
 have A2 := zA_ A20
 clear A20
 obtain rfl := Option.some.inj H
 go_enter Tryd.func73, Tryd.ntmps73
 go_wp2_with (first | ((with_reducible refine gate_callee (f := 72) rfl ?_); refine goesL_ (some 4) rfl rfl Tryd.func72 βDa rfl #[.int .i64 a0, .int .i64 0, .int .i64 1000000] rfl zs_ ?_; (with_reducible refine (impl_within.calls a0 0 1000000 t456 _ A2.out).mono ?_); rintro e w' ⟨rfl, ⟨nd, rfl⟩⟩; refine ⟨_, rfl, ?_⟩))
 go_ret
 exact ⟨βya, βwa⟩
mutual
def impl_isStep.j0 : Nat → Int → Bool → Bool → Bool → Bool → Int → Int → Int → ByteArray → Option (Bool)
 | 0, _, _, _, _, _, _, _, _, _ => none
 | k + 1, x1, x5, x6, x7, x26, x458000, x458001, x458002, x458003 => if x26 = true then ((impl_within.f x458002 0 (wrap64 (x1 - 1))).bind fun t459 => (impl_isStep.j1 k x5 t459 x7 x458000 x458001 x458002 x458003)) else (impl_isStep.j1 k x5 x6 x7 x458000 x458001 x458002 x458003)
def impl_isStep.j1 : Nat → Bool → Bool → Bool → Int → Int → Int → ByteArray → Option (Bool)
 | 0, _, _, _, _, _, _, _ => none
 | k + 1, x5, x6, x7, x458000, x458001, x458002, x458003 => if x458000 = 2 then (impl_isStep.j2 k x5 x6 x7 true x458000 x458001 x458002 x458003) else (impl_isStep.j2 k x5 x6 x7 (x458000 == 4) x458000 x458001 x458002 x458003)
def impl_isStep.j2 : Nat → Bool → Bool → Bool → Bool → Int → Int → Int → ByteArray → Option (Bool)
 | 0, _, _, _, _, _, _, _, _ => none
 | k + 1, x5, x6, x7, x39, x458000, x458001, x458002, x458003 => if x39 = true then (impl_isStep.j3 k x5 x6 ((x458003.size : Int) == 8) x458000 x458001 x458002 x458003) else (impl_isStep.j3 k x5 x6 x7 x458000 x458001 x458002 x458003)
def impl_isStep.j3 : Nat → Bool → Bool → Bool → Int → Int → Int → ByteArray → Option (Bool)
 | 0, _, _, _, _, _, _, _ => none
 | k + 1, x5, x6, x7, x458000, x458001, x458002, x458003 => if x458000 = 5 then ((impl_isTime.f x458002).bind fun t460 => ((impl_within.f x458000 1 5).bind fun t461 => (if t461 = true then (if x458001 = 0 then (if t460 = true then (some x7) else (some false)) else (some false)) else (some false)))) else ((impl_within.f x458000 1 5).bind fun t462 => (if t462 = true then (if x5 = true then (if x6 = true then (some x7) else (some false)) else (some false)) else (some false)))
end
def impl_isStep.f (k : Nat) (a0_0 : Int) (a0_1 : Int) (a0_2 : Int) (a0_3 : ByteArray) (a1 : Int) : Option (Bool) := (impl_within.f a0_1 0 (wrap64 (a1 - 1))).bind fun t458 => (if a0_0 = 3 then (impl_isStep.j0 k a1 t458 (a0_2 == 0) (a0_3.toList == ([] : List UInt8)) true a0_0 a0_1 a0_2 a0_3) else (impl_isStep.j0 k a1 t458 (a0_2 == 0) (a0_3.toList == ([] : List UInt8)) (a0_0 == 4) a0_0 a0_1 a0_2 a0_3))
theorem impl_isStep.calls (k : Nat) (a0_0 : Int) (a0_1 : Int) (a0_2 : Int) (a0_3 : ByteArray) (a1 : Int) (r : Bool) (w : World) (h : impl_isStep.f k a0_0 a0_1 a0_2 a0_3 a1 = some r) :
 Calls Tryd.prog 50 #[.agg #[.int .i64 a0_0, .int .i64 a0_1, .int .i64 a0_2, .string a0_3], .int .i64 a1] w fun e w' => e = .returned (.bool r) ∧ Below w.heap.size w w' := by
 have hu42 := Tryd.underlying42
 have HB := zA_ (Below.refl w.heap.size w)
 have H : ((impl_within.f a0_1 0 (wrap64 (a1 - 1))).bind fun t458 => (if a0_0 = 3 then (impl_isStep.j0 k a1 t458 (a0_2 == 0) (a0_3.toList == ([] : List UInt8)) true a0_0 a0_1 a0_2 a0_3) else (impl_isStep.j0 k a1 t458 (a0_2 == 0) (a0_3.toList == ([] : List UInt8)) (a0_0 == 4) a0_0 a0_1 a0_2 a0_3))) = some r := h
 clear h
 replace H := Option.bind_eq_some_iff.mp H
 obtain ⟨t458, A30, H⟩ := H
 replace H : (if a0_0 = 3 then (impl_isStep.j0 k a1 t458 (a0_2 == 0) (a0_3.toList == ([] : List UInt8)) true a0_0 a0_1 a0_2 a0_3) else (impl_isStep.j0 k a1 t458 (a0_2 == 0) (a0_3.toList == ([] : List UInt8)) (a0_0 == 4) a0_0 a0_1 a0_2 a0_3)) = some r := H
 have A3 := zA_ A30
 clear A30
 have HC4 := zA_ H
 clear H
 go_enter Tryd.func50, Tryd.ntmps50
 go_upto_region 2 with (first | ((with_reducible refine gate_dst (N := 2) rfl ?_); refine box_event ?hg (N := 2) ?hd (cs := #[.int .i64 a0_0, .int .i64 a0_1, .int .i64 a0_2, .string a0_3]) (t := 42) ?hr ?_; (case hd => exact (by rfl)); (case hg => exact (by rfl)); (case hr => exact βAa); intro gb457 hg w5 hbox hb; have n0_ := zA_ (below_step (zh_ HB.out) hb); have n1_ := zA_ (hbox); have n2_ := zA_ ((by rw [hg]; exact (below_size (zh_ HB.out)) : w.heap.size ≤ gb457)); have n3_ := zA_ ((by rw [hg]; exact (below_size (zh_ HB.out)) : w.heap.size ≤ gb457)); clear HB; have HB := n0_; have BK457 := n1_; have GW457 := n2_; have GE457 := n3_; clear n0_ n1_ n2_ n3_; clear hb hbox hg; have hcz6_0 := cz_ BK457.out 0 (.int .i64 a0_0) rfl; have hcz6_1 := cz_ BK457.out 1 (.int .i64 a0_1) rfl; have hcz6_2 := cz_ BK457.out 2 (.int .i64 a0_2) rfl; have hcz6_3 := cz_ BK457.out 3 (.string a0_3) rfl; have hfz6_0 := blk_frozen BK457.out 0; have hfz6_1 := blk_frozen BK457.out 1; have hfz6_2 := blk_frozen BK457.out 2; have hfz6_3 := blk_frozen BK457.out 3) | (go_at_call 72; (with_reducible refine (impl_within.calls a0_1 0 (wrap64 (a1 - 1)) t458 _ A3.out).mono ?_); rintro e w' ⟨rfl, ⟨nd, rfl⟩⟩; (try exact βia)))
 repeat (go_quiet (first | ((with_reducible refine gate_dst (N := 2) rfl ?_); refine box_event ?hg (N := 2) ?hd (cs := #[.int .i64 a0_0, .int .i64 a0_1, .int .i64 a0_2, .string a0_3]) (t := 42) ?hr ?_; (case hd => exact (by rfl)); (case hg => exact (by rfl)); (case hr => exact βAa); intro gb457 hg w5 hbox hb; have n0_ := zA_ (below_step (zh_ HB.out) hb); have n1_ := zA_ (hbox); have n2_ := zA_ ((by rw [hg]; exact (below_size (zh_ HB.out)) : w.heap.size ≤ gb457)); have n3_ := zA_ ((by rw [hg]; exact (below_size (zh_ HB.out)) : w.heap.size ≤ gb457)); clear HB; have HB := n0_; have BK457 := n1_; have GW457 := n2_; have GE457 := n3_; clear n0_ n1_ n2_ n3_; clear hb hbox hg; have hcz6_0 := cz_ BK457.out 0 (.int .i64 a0_0) rfl; have hcz6_1 := cz_ BK457.out 1 (.int .i64 a0_1) rfl; have hcz6_2 := cz_ BK457.out 2 (.int .i64 a0_2) rfl; have hcz6_3 := cz_ BK457.out 3 (.string a0_3) rfl; have hfz6_0 := blk_frozen BK457.out 0; have hfz6_1 := blk_frozen BK457.out 1; have hfz6_2 := blk_frozen BK457.out 2; have hfz6_3 := blk_frozen BK457.out 3) | (go_at_call 72; (with_reducible refine (impl_within.calls a0_1 0 (wrap64 (a1 - 1)) t458 _ A3.out).mono ?_); rintro e w' ⟨rfl, ⟨nd, rfl⟩⟩; (try exact βia))); go_upto_region 2 with (first | ((with_reducible refine gate_dst (N := 2) rfl ?_); refine box_event ?hg (N := 2) ?hd (cs := #[.int .i64 a0_0, .int .i64 a0_1, .int .i64 a0_2, .string a0_3]) (t := 42) ?hr ?_; (case hd => exact (by rfl)); (case hg => exact (by rfl)); (case hr => exact βAa); intro gb457 hg w5 hbox hb; have n0_ := zA_ (below_step (zh_ HB.out) hb); have n1_ := zA_ (hbox); have n2_ := zA_ ((by rw [hg]; exact (below_size (zh_ HB.out)) : w.heap.size ≤ gb457)); have n3_ := zA_ ((by rw [hg]; exact (below_size (zh_ HB.out)) : w.heap.size ≤ gb457)); clear HB; have HB := n0_; have BK457 := n1_; have GW457 := n2_; have GE457 := n3_; clear n0_ n1_ n2_ n3_; clear hb hbox hg; have hcz6_0 := cz_ BK457.out 0 (.int .i64 a0_0) rfl; have hcz6_1 := cz_ BK457.out 1 (.int .i64 a0_1) rfl; have hcz6_2 := cz_ BK457.out 2 (.int .i64 a0_2) rfl; have hcz6_3 := cz_ BK457.out 3 (.string a0_3) rfl; have hfz6_0 := blk_frozen BK457.out 0; have hfz6_1 := blk_frozen BK457.out 1; have hfz6_2 := blk_frozen BK457.out 2; have hfz6_3 := blk_frozen BK457.out 3) | (go_at_call 72; (with_reducible refine (impl_within.calls a0_1 0 (wrap64 (a1 - 1)) t458 _ A3.out).mono ?_); rintro e w' ⟨rfl, ⟨nd, rfl⟩⟩; (try exact βia))))
 (try simp only [Act.put, List.setIfInBounds_toArray, List.set_cons_zero, List.set_cons_succ])
 go_cut [26] (fun v26 wc => ∃ (kq : Nat) (x26_3 : Bool), v26 = .bool x26_3 ∧ Aside0 (impl_isStep.j0 kq a1 t458 (a0_2 == 0) (a0_3.toList == ([] : List UInt8)) x26_3 a0_0 a0_1 a0_2 a0_3 = some r) ∧ Aside0 (kq ≤ k) ∧ Aside0 (wc.heap[gb457]? = some (.cells #[.int .i64 a0_0, .int .i64 a0_1, .int .i64 a0_2, .string a0_3] 42 (0, 0))) ∧ Aside0 (Below w.heap.size w wc))
 case first =>
  have H := HC4.out
  clear HC4
  by_cases c7 : a0_0 = 3
  · rw [if_pos c7] at H
    have c7b0 : (a0_0 == 3) = true := beq_iff_eq.mpr c7
    have c7b1 : (a0_0 != 3) = false := bne_eq_false_iff_eq.mpr c7
    clear c7
    (first | rw [c7b0] | (simp only [i64_w, i32_w]; rw [c7b0]) | skip)
    have H' := zA_ H
    clear H
    have hcz8_0 := cz_ BK457.out 0 (.int .i64 a0_0) rfl
    have hcz8_1 := cz_ BK457.out 1 (.int .i64 a0_1) rfl
    have hcz8_2 := cz_ BK457.out 2 (.int .i64 a0_2) rfl
    have hcz8_3 := cz_ BK457.out 3 (.string a0_3) rfl
    have hfz8_0 := blk_frozen BK457.out 0
    have hfz8_1 := blk_frozen BK457.out 1
    have hfz8_2 := blk_frozen BK457.out 2
    have hfz8_3 := blk_frozen BK457.out 3
    go_wp2
    repeat (go_quiet (fail); try go_wp2)
    go_meet
    case rel => exact ⟨_, (true), βya, H', ⟨βBa⟩, ⟨zb_ BK457.out⟩, ⟨zg1_ HB.out GE457.out⟩⟩
  · rw [if_neg c7] at H
    have c7b0 : (a0_0 == 3) = false := beq_eq_false_iff_ne.mpr c7
    have c7b1 : (a0_0 != 3) = true := bne_iff_ne.mpr c7
    (first | rw [c7b0] | (simp only [i64_w, i32_w]; rw [c7b0]) | skip)
    have H' := zA_ H
    clear H
    have hcz9_0 := cz_ BK457.out 0 (.int .i64 a0_0) rfl
    have hcz9_1 := cz_ BK457.out 1 (.int .i64 a0_1) rfl
    have hcz9_2 := cz_ BK457.out 2 (.int .i64 a0_2) rfl
    have hcz9_3 := cz_ BK457.out 3 (.string a0_3) rfl
    have hfz9_0 := blk_frozen BK457.out 0
    have hfz9_1 := blk_frozen BK457.out 1
    have hfz9_2 := blk_frozen BK457.out 2
    have hfz9_3 := blk_frozen BK457.out 3
    go_wp2
    repeat (go_quiet (fail); try go_wp2)
    go_meet
    case rel => exact ⟨_, ((a0_0 == 4)), βya, H', ⟨βBa⟩, ⟨zb_ BK457.out⟩, ⟨zg1_ HB.out GE457.out⟩⟩
 case rest =>
  clear HC4
  try clear p2
  try clear c5
  try clear p6
  try clear c7
  try clear c7b0
  try clear c7b1
  try clear hcz6_0
  try clear hcz6_1
  try clear hcz6_2
  try clear hcz6_3
  try clear hcz8_0
  try clear hcz8_1
  try clear hcz8_2
  try clear hcz8_3
  try clear hcz9_0
  try clear hcz9_1
  try clear hcz9_2
  try clear hcz9_3
  try clear hfz6_0
  try clear hfz6_1
  try clear hfz6_2
  try clear hfz6_3
  try clear hfz8_0
  try clear hfz8_1
  try clear hfz8_2
  try clear hfz8_3
  try clear hfz9_0
  try clear hfz9_1
  try clear hfz9_2
  try clear hfz9_3
  obtain ⟨kq, x26_3, rfl, HA, HJ3, BK457, HB⟩ := hcut
  cases kq with
  | zero => exact absurd HA.out (by simp [impl_isStep.j0])
  | succ kj3 =>
   have H := HA.out
   clear HA
   simp only [impl_isStep.j0] at H
   have HC10 := zA_ H
   clear H
   go_upto_if 26 with (fail)
   repeat (go_quiet (fail); go_upto_if 26 with (fail))
   go_cut [6] (fun v6 wc => ∃ (kq : Nat) (x6_9 : Bool), v6 = .bool x6_9 ∧ Aside0 (impl_isStep.j1 kq t458 x6_9 (a0_3.toList == ([] : List UInt8)) a0_0 a0_1 a0_2 a0_3 = some r) ∧ Aside0 (kq ≤ kj3) ∧ Aside0 (wc.heap[gb457]? = some (.cells #[.int .i64 a0_0, .int .i64 a0_1, .int .i64 a0_2, .string a0_3] 42 (0, 0))) ∧ Aside0 (Below w.heap.size w wc))
   case first =>
    have H := HC10.out
    clear HC10
    by_cases c11 : x26_3 = true
    · subst c11
      have H1 : ((impl_within.f a0_2 0 (wrap64 (a1 - 1))).bind fun t459 => (impl_isStep.j1 kj3 t458 t459 (a0_3.toList == ([] : List UInt8)) a0_0 a0_1 a0_2 a0_3)) = some r := by rw [if_pos rfl] at H; exact H
      clear H
      have H := H1
      clear H1
      replace H := Option.bind_eq_some_iff.mp H
      obtain ⟨t459, A120, H⟩ := H
      replace H : (impl_isStep.j1 kj3 t458 t459 (a0_3.toList == ([] : List UInt8)) a0_0 a0_1 a0_2 a0_3) = some r := H
      have A12 := zA_ A120
      clear A120
      have H' := zA_ H
      clear H
      have hcz13_0 := cz_ BK457.out 0 (.int .i64 a0_0) rfl
      have hcz13_1 := cz_ BK457.out 1 (.int .i64 a0_1) rfl
      have hcz13_2 := cz_ BK457.out 2 (.int .i64 a0_2) rfl
      have hcz13_3 := cz_ BK457.out 3 (.string a0_3) rfl
      have hfz13_0 := blk_frozen BK457.out 0
      have hfz13_1 := blk_frozen BK457.out 1
      have hfz13_2 := blk_frozen BK457.out 2
      have hfz13_3 := blk_frozen BK457.out 3
      go_wp2_with (first | (go_at_call 72; (with_reducible refine (impl_within.calls a0_2 0 (wrap64 (a1 - 1)) t459 _ A12.out).mono ?_); rintro e w' ⟨rfl, ⟨nd, rfl⟩⟩; (try exact βia)))
      repeat (go_quiet (first | (go_at_call 72; (with_reducible refine (impl_within.calls a0_2 0 (wrap64 (a1 - 1)) t459 _ A12.out).mono ?_); rintro e w' ⟨rfl, ⟨nd, rfl⟩⟩; (try exact βia))); try go_wp2_with (first | (go_at_call 72; (with_reducible refine (impl_within.calls a0_2 0 (wrap64 (a1 - 1)) t459 _ A12.out).mono ?_); rintro e w' ⟨rfl, ⟨nd, rfl⟩⟩; (try exact βia))))
      go_meet
      case rel => exact ⟨_, (t459), βya, H', ⟨(by have := HJ3.out; first | omega | exact Nat.le_refl _)⟩, ⟨zb_ BK457.out⟩, ⟨zg1_ HB.out GE457.out⟩⟩
    · replace c11 := Bool.eq_false_iff.mpr c11
      subst c11
      have H1 : (impl_isStep.j1 kj3 t458 (a0_2 == 0) (a0_3.toList == ([] : List UInt8)) a0_0 a0_1 a0_2 a0_3) = some r := by rw [if_neg (show ¬ (false = true) by decide)] at H; exact H
      clear H
      have H := H1
      clear H1
      have H' := zA_ H
      clear H
      go_wp2
      repeat (go_quiet (fail); try go_wp2)
      go_meet
      case rel => exact ⟨_, ((a0_2 == 0)), βya, H', ⟨(by have := HJ3.out; first | omega | exact Nat.le_refl _)⟩, ⟨zb_ BK457.out⟩, ⟨zg1_ HB.out GE457.out⟩⟩
   case rest =>
    clear HC10
    try clear c1
    try clear p2
    try clear c5
    try clear p6
    try clear c7
    try clear c7b0
    try clear c7b1
    try clear c11
    try clear hcz13_0
    try clear hcz13_1
    try clear hcz13_2
    try clear hcz13_3
    try clear hcz6_0
    try clear hcz6_1
    try clear hcz6_2
    try clear hcz6_3
    try clear hcz8_0
    try clear hcz8_1
    try clear hcz8_2
    try clear hcz8_3
    try clear hcz9_0
    try clear hcz9_1
    try clear hcz9_2
    try clear hcz9_3
    try clear hfz13_0
    try clear hfz13_1
    try clear hfz13_2
    try clear hfz13_3
    try clear hfz6_0
    try clear hfz6_1
    try clear hfz6_2
    try clear hfz6_3
    try clear hfz8_0
    try clear hfz8_1
    try clear hfz8_2
    try clear hfz8_3
    try clear hfz9_0
    try clear hfz9_1
    try clear hfz9_2
    try clear hfz9_3
    try clear p2
    try clear p6
    obtain ⟨kq, x6_9, rfl, HA, HJ9, BK457, HB⟩ := hcut
    cases kq with
    | zero => exact absurd HA.out (by simp [impl_isStep.j1])
    | succ kj9 =>
     have H := HA.out
     clear HA
     simp only [impl_isStep.j1] at H
     have HC14 := zA_ H
     clear H
     go_upto_region 4 with (fail)
     repeat (go_quiet (fail); go_upto_region 4 with (fail))
     go_cut [39] (fun v39 wc => ∃ (kq : Nat) (x39_13 : Bool), v39 = .bool x39_13 ∧ Aside0 (impl_isStep.j2 kq t458 x6_9 (a0_3.toList == ([] : List UInt8)) x39_13 a0_0 a0_1 a0_2 a0_3 = some r) ∧ Aside0 (kq ≤ kj9) ∧ Aside0 (wc.heap[gb457]? = some (.cells #[.int .i64 a0_0, .int .i64 a0_1, .int .i64 a0_2, .string a0_3] 42 (0, 0))) ∧ Aside0 (Below w.heap.size w wc))
     case first =>
      have H := HC14.out
      clear HC14
      by_cases c15 : a0_0 = 2
      · rw [if_pos c15] at H
        have c15b0 : (a0_0 == 2) = true := beq_iff_eq.mpr c15
        have c15b1 : (a0_0 != 2) = false := bne_eq_false_iff_eq.mpr c15
        clear c15
        (first | rw [c15b0] | (simp only [i64_w, i32_w]; rw [c15b0]) | skip)
        have H' := zA_ H
        clear H
        have hcz16_0 := cz_ BK457.out 0 (.int .i64 a0_0) rfl
        have hcz16_1 := cz_ BK457.out 1 (.int .i64 a0_1) rfl
        have hcz16_2 := cz_ BK457.out 2 (.int .i64 a0_2) rfl
        have hcz16_3 := cz_ BK457.out 3 (.string a0_3) rfl
        have hfz16_0 := blk_frozen BK457.out 0
        have hfz16_1 := blk_frozen BK457.out 1
        have hfz16_2 := blk_frozen BK457.out 2
        have hfz16_3 := blk_frozen BK457.out 3
        go_wp2
        repeat (go_quiet (fail); try go_wp2)
        go_meet
        case rel => exact ⟨_, (true), βya, H', ⟨(by have := HJ3.out; have := HJ9.out; first | omega | exact Nat.le_refl _)⟩, ⟨zb_ BK457.out⟩, ⟨zg1_ HB.out GE457.out⟩⟩
      · rw [if_neg c15] at H
        have c15b0 : (a0_0 == 2) = false := beq_eq_false_iff_ne.mpr c15
        have c15b1 : (a0_0 != 2) = true := bne_iff_ne.mpr c15
        (first | rw [c15b0] | (simp only [i64_w, i32_w]; rw [c15b0]) | skip)
        have H' := zA_ H
        clear H
        have hcz17_0 := cz_ BK457.out 0 (.int .i64 a0_0) rfl
        have hcz17_1 := cz_ BK457.out 1 (.int .i64 a0_1) rfl
        have hcz17_2 := cz_ BK457.out 2 (.int .i64 a0_2) rfl
        have hcz17_3 := cz_ BK457.out 3 (.string a0_3) rfl
        have hfz17_0 := blk_frozen BK457.out 0
        have hfz17_1 := blk_frozen BK457.out 1
        have hfz17_2 := blk_frozen BK457.out 2
        have hfz17_3 := blk_frozen BK457.out 3
        go_wp2
        repeat (go_quiet (fail); try go_wp2)
        go_meet
        case rel => exact ⟨_, ((a0_0 == 4)), βya, H', ⟨(by have := HJ3.out; have := HJ9.out; first | omega | exact Nat.le_refl _)⟩, ⟨zb_ BK457.out⟩, ⟨zg1_ HB.out GE457.out⟩⟩
     case rest =>
      clear HC14
      try clear c1
      try clear p2
      try clear c5
      try clear p6
      try clear c7
      try clear c7b0
      try clear c7b1
      try clear c11
      try clear c15
      try clear c15b0
      try clear c15b1
      try clear hcz13_0
      try clear hcz13_1
      try clear hcz13_2
      try clear hcz13_3
      try clear hcz16_0
      try clear hcz16_1
      try clear hcz16_2
      try clear hcz16_3
      try clear hcz17_0
      try clear hcz17_1
      try clear hcz17_2
      try clear hcz17_3
      try clear hcz6_0
      try clear hcz6_1
      try clear hcz6_2
      try clear hcz6_3
      try clear hcz8_0
      try clear hcz8_1
      try clear hcz8_2
      try clear hcz8_3
      try clear hcz9_0
      try clear hcz9_1
      try clear hcz9_2
      try clear hcz9_3
      try clear hfz13_0
      try clear hfz13_1
      try clear hfz13_2
      try clear hfz13_3
      try clear hfz16_0
      try clear hfz16_1
      try clear hfz16_2
      try clear hfz16_3
      try clear hfz17_0
      try clear hfz17_1
      try clear hfz17_2
      try clear hfz17_3
      try clear hfz6_0
      try clear hfz6_1
      try clear hfz6_2
      try clear hfz6_3
      try clear hfz8_0
      try clear hfz8_1
      try clear hfz8_2
      try clear hfz8_3
      try clear hfz9_0
      try clear hfz9_1
      try clear hfz9_2
      try clear hfz9_3
      try clear p2
      try clear p6
      obtain ⟨kq, x39_13, rfl, HA, HJ13, BK457, HB⟩ := hcut
      cases kq with
      | zero => exact absurd HA.out (by simp [impl_isStep.j2])
      | succ kj13 =>
       have H := HA.out
       clear HA
       simp only [impl_isStep.j2] at H
       have HC18 := zA_ H
       clear H
       go_upto_if 39 with (fail)
       repeat (go_quiet (fail); go_upto_if 39 with (fail))
       go_cut [7] (fun v7 wc => ∃ (kq : Nat) (x7_17 : Bool), v7 = .bool x7_17 ∧ Aside0 (impl_isStep.j3 kq t458 x6_9 x7_17 a0_0 a0_1 a0_2 a0_3 = some r) ∧ Aside0 (kq ≤ kj13) ∧ Aside0 (wc.heap[gb457]? = some (.cells #[.int .i64 a0_0, .int .i64 a0_1, .int .i64 a0_2, .string a0_3] 42 (0, 0))) ∧ Aside0 (Below w.heap.size w wc))
       case first =>
        have H := HC18.out
        clear HC18
        by_cases c19 : x39_13 = true
        · subst c19
          have H1 : (impl_isStep.j3 kj13 t458 x6_9 ((a0_3.size : Int) == 8) a0_0 a0_1 a0_2 a0_3) = some r := by rw [if_pos rfl] at H; exact H
          clear H
          have H := H1
          clear H1
          have H' := zA_ H
          clear H
          have hcz20_0 := cz_ BK457.out 0 (.int .i64 a0_0) rfl
          have hcz20_1 := cz_ BK457.out 1 (.int .i64 a0_1) rfl
          have hcz20_2 := cz_ BK457.out 2 (.int .i64 a0_2) rfl
          have hcz20_3 := cz_ BK457.out 3 (.string a0_3) rfl
          have hfz20_0 := blk_frozen BK457.out 0
          have hfz20_1 := blk_frozen BK457.out 1
          have hfz20_2 := blk_frozen BK457.out 2
          have hfz20_3 := blk_frozen BK457.out 3
          go_wp2
          repeat (go_quiet (fail); try go_wp2)
          go_meet
          case rel => exact ⟨_, (((a0_3.size : Int) == 8)), βya, H', ⟨(by have := HJ3.out; have := HJ9.out; have := HJ13.out; first | omega | exact Nat.le_refl _)⟩, ⟨zb_ BK457.out⟩, ⟨zg1_ HB.out GE457.out⟩⟩
        · replace c19 := Bool.eq_false_iff.mpr c19
          subst c19
          have H1 : (impl_isStep.j3 kj13 t458 x6_9 (a0_3.toList == ([] : List UInt8)) a0_0 a0_1 a0_2 a0_3) = some r := by rw [if_neg (show ¬ (false = true) by decide)] at H; exact H
          clear H
          have H := H1
          clear H1
          have H' := zA_ H
          clear H
          go_wp2
          repeat (go_quiet (fail); try go_wp2)
          go_meet
          case rel => exact ⟨_, ((a0_3.toList == ([] : List UInt8))), βya, H', ⟨(by have := HJ3.out; have := HJ9.out; have := HJ13.out; first | omega | exact Nat.le_refl _)⟩, ⟨zb_ BK457.out⟩, ⟨zg1_ HB.out GE457.out⟩⟩
       case rest =>
        clear HC18
        try clear c1
        try clear p2
        try clear c5
        try clear p6
        try clear c7
        try clear c7b0
        try clear c7b1
        try clear c11
        try clear c15
        try clear c15b0
        try clear c15b1
        try clear c19
        try clear hcz13_0
        try clear hcz13_1
        try clear hcz13_2
        try clear hcz13_3
        try clear hcz16_0
        try clear hcz16_1
        try clear hcz16_2
        try clear hcz16_3
        try clear hcz17_0
        try clear hcz17_1
        try clear hcz17_2
        try clear hcz17_3
        try clear hcz20_0
        try clear hcz20_1
        try clear hcz20_2
        try clear hcz20_3
        try clear hcz6_0
        try clear hcz6_1
        try clear hcz6_2
        try clear hcz6_3
        try clear hcz8_0
        try clear hcz8_1
        try clear hcz8_2
        try clear hcz8_3
        try clear hcz9_0
        try clear hcz9_1
        try clear hcz9_2
        try clear hcz9_3
        try clear hfz13_0
        try clear hfz13_1
        try clear hfz13_2
        try clear hfz13_3
        try clear hfz16_0
        try clear hfz16_1
        try clear hfz16_2
        try clear hfz16_3
        try clear hfz17_0
        try clear hfz17_1
        try clear hfz17_2
        try clear hfz17_3
        try clear hfz20_0
        try clear hfz20_1
        try clear hfz20_2
        try clear hfz20_3
        try clear hfz6_0
        try clear hfz6_1
        try clear hfz6_2
        try clear hfz6_3
        try clear hfz8_0
        try clear hfz8_1
        try clear hfz8_2
        try clear hfz8_3
        try clear hfz9_0
        try clear hfz9_1
        try clear hfz9_2
        try clear hfz9_3
        try clear p2
        try clear p6
        obtain ⟨kq, x7_17, rfl, HA, HJ17, BK457, HB⟩ := hcut
        cases kq with
        | zero => exact absurd HA.out (by simp [impl_isStep.j3])
        | succ kj17 =>
         have H := HA.out
         clear HA
         simp only [impl_isStep.j3] at H
         by_cases c21 : a0_0 = 5
         · rw [if_pos c21] at H
           have c21b0 : (a0_0 == 5) = true := beq_iff_eq.mpr c21
           have c21b1 : (a0_0 != 5) = false := bne_eq_false_iff_eq.mpr c21
           clear c21
           replace H := Option.bind_eq_some_iff.mp H
           obtain ⟨t460, A220, H⟩ := H
           replace H : ((impl_within.f a0_0 1 5).bind fun t461 => (if t461 = true then (if a0_1 = 0 then (if t460 = true then (some x7_17) else (some false)) else (some false)) else (some false))) = some r := H
           have A22 := zA_ A220
           clear A220
           replace H := Option.bind_eq_some_iff.mp H
           obtain ⟨t461, A230, H⟩ := H
           replace H : (if t461 = true then (if a0_1 = 0 then (if t460 = true then (some x7_17) else (some false)) else (some false)) else (some false)) = some r := H
           have A23 := zA_ A230
           clear A230
           by_cases c24 : t461 = true
           · subst c24
             have H1 : (if a0_1 = 0 then (if t460 = true then (some x7_17) else (some false)) else (some false)) = some r := by rw [if_pos rfl] at H; exact H
             clear H
             have H := H1
             clear H1
             by_cases c25 : a0_1 = 0
             · rw [if_pos c25] at H
               have c25b0 : (a0_1 == 0) = true := beq_iff_eq.mpr c25
               have c25b1 : (a0_1 != 0) = false := bne_eq_false_iff_eq.mpr c25
               clear c25
               by_cases c26 : t460 = true
               · subst c26
                 have H1 : (some x7_17) = some r := by rw [if_pos rfl] at H; exact H
                 clear H
                 have H := H1
                 clear H1
                 obtain rfl := Option.some.inj H
                 have hcz27_0 := cz_ BK457.out 0 (.int .i64 a0_0) rfl
                 have hcz27_1 := cz_ BK457.out 1 (.int .i64 a0_1) rfl
                 have hcz27_2 := cz_ BK457.out 2 (.int .i64 a0_2) rfl
                 have hcz27_3 := cz_ BK457.out 3 (.string a0_3) rfl
                 have hfz27_0 := blk_frozen BK457.out 0
                 have hfz27_1 := blk_frozen BK457.out 1
                 have hfz27_2 := blk_frozen BK457.out 2
                 have hfz27_3 := blk_frozen BK457.out 3
                 go_wp2_with (first | (go_at_call 73; (with_reducible refine (impl_isTime.calls a0_2 true _ A22.out).mono ?_); rintro e w' ⟨rfl, ⟨nd, rfl⟩⟩; (try exact βia)) | (go_at_call 72; (with_reducible refine (impl_within.calls a0_0 1 5 true _ A23.out).mono ?_); rintro e w' ⟨rfl, ⟨nd, rfl⟩⟩; (try exact βia)))
                 repeat (go_quiet (first | (go_at_call 73; (with_reducible refine (impl_isTime.calls a0_2 true _ A22.out).mono ?_); rintro e w' ⟨rfl, ⟨nd, rfl⟩⟩; (try exact βia)) | (go_at_call 72; (with_reducible refine (impl_within.calls a0_0 1 5 true _ A23.out).mono ?_); rintro e w' ⟨rfl, ⟨nd, rfl⟩⟩; (try exact βia))); try go_wp2_with (first | (go_at_call 73; (with_reducible refine (impl_isTime.calls a0_2 true _ A22.out).mono ?_); rintro e w' ⟨rfl, ⟨nd, rfl⟩⟩; (try exact βia)) | (go_at_call 72; (with_reducible refine (impl_within.calls a0_0 1 5 true _ A23.out).mono ?_); rintro e w' ⟨rfl, ⟨nd, rfl⟩⟩; (try exact βia))))
                 go_ret
                 exact ⟨βsa, βQ⟩
               · replace c26 := Bool.eq_false_iff.mpr c26
                 subst c26
                 have H1 : (some false) = some r := by rw [if_neg (show ¬ (false = true) by decide)] at H; exact H
                 clear H
                 have H := H1
                 clear H1
                 obtain rfl := Option.some.inj H
                 have hcz28_0 := cz_ BK457.out 0 (.int .i64 a0_0) rfl
                 have hcz28_1 := cz_ BK457.out 1 (.int .i64 a0_1) rfl
                 have hcz28_2 := cz_ BK457.out 2 (.int .i64 a0_2) rfl
                 have hcz28_3 := cz_ BK457.out 3 (.string a0_3) rfl
                 have hfz28_0 := blk_frozen BK457.out 0
                 have hfz28_1 := blk_frozen BK457.out 1
                 have hfz28_2 := blk_frozen BK457.out 2
                 have hfz28_3 := blk_frozen BK457.out 3
                 go_wp2_with (first | (go_at_call 73; (with_reducible refine (impl_isTime.calls a0_2 false _ A22.out).mono ?_); rintro e w' ⟨rfl, ⟨nd, rfl⟩⟩; (try exact βia)) | (go_at_call 72; (with_reducible refine (impl_within.calls a0_0 1 5 true _ A23.out).mono ?_); rintro e w' ⟨rfl, ⟨nd, rfl⟩⟩; (try exact βia)))
                 repeat (go_quiet (first | (go_at_call 73; (with_reducible refine (impl_isTime.calls a0_2 false _ A22.out).mono ?_); rintro e w' ⟨rfl, ⟨nd, rfl⟩⟩; (try exact βia)) | (go_at_call 72; (with_reducible refine (impl_within.calls a0_0 1 5 true _ A23.out).mono ?_); rintro e w' ⟨rfl, ⟨nd, rfl⟩⟩; (try exact βia))); try go_wp2_with (first | (go_at_call 73; (with_reducible refine (impl_isTime.calls a0_2 false _ A22.out).mono ?_); rintro e w' ⟨rfl, ⟨nd, rfl⟩⟩; (try exact βia)) | (go_at_call 72; (with_reducible refine (impl_within.calls a0_0 1 5 true _ A23.out).mono ?_); rintro e w' ⟨rfl, ⟨nd, rfl⟩⟩; (try exact βia))))
                 go_ret
                 exact ⟨βsa, βQ⟩
             · rw [if_neg c25] at H
               have c25b0 : (a0_1 == 0) = false := beq_eq_false_iff_ne.mpr c25
               have c25b1 : (a0_1 != 0) = true := bne_iff_ne.mpr c25
               obtain rfl := Option.some.inj H
               have hcz29_0 := cz_ BK457.out 0 (.int .i64 a0_0) rfl
               have hcz29_1 := cz_ BK457.out 1 (.int .i64 a0_1) rfl
               have hcz29_2 := cz_ BK457.out 2 (.int .i64 a0_2) rfl
               have hcz29_3 := cz_ BK457.out 3 (.string a0_3) rfl
               have hfz29_0 := blk_frozen BK457.out 0
               have hfz29_1 := blk_frozen BK457.out 1
               have hfz29_2 := blk_frozen BK457.out 2
               have hfz29_3 := blk_frozen BK457.out 3
               go_wp2_with (first | (go_at_call 73; (with_reducible refine (impl_isTime.calls a0_2 t460 _ A22.out).mono ?_); rintro e w' ⟨rfl, ⟨nd, rfl⟩⟩; (try exact βia)) | (go_at_call 72; (with_reducible refine (impl_within.calls a0_0 1 5 true _ A23.out).mono ?_); rintro e w' ⟨rfl, ⟨nd, rfl⟩⟩; (try exact βia)))
               repeat (go_quiet (first | (go_at_call 73; (with_reducible refine (impl_isTime.calls a0_2 t460 _ A22.out).mono ?_); rintro e w' ⟨rfl, ⟨nd, rfl⟩⟩; (try exact βia)) | (go_at_call 72; (with_reducible refine (impl_within.calls a0_0 1 5 true _ A23.out).mono ?_); rintro e w' ⟨rfl, ⟨nd, rfl⟩⟩; (try exact βia))); try go_wp2_with (first | (go_at_call 73; (with_reducible refine (impl_isTime.calls a0_2 t460 _ A22.out).mono ?_); rintro e w' ⟨rfl, ⟨nd, rfl⟩⟩; (try exact βia)) | (go_at_call 72; (with_reducible refine (impl_within.calls a0_0 1 5 true _ A23.out).mono ?_); rintro e w' ⟨rfl, ⟨nd, rfl⟩⟩; (try exact βia))))
               go_ret
               exact ⟨βsa, βQ⟩
           · replace c24 := Bool.eq_false_iff.mpr c24
             subst c24
             have H1 : (some false) = some r := by rw [if_neg (show ¬ (false = true) by decide)] at H; exact H
             clear H
             have H := H1
             clear H1
             obtain rfl := Option.some.inj H
             have hcz30_0 := cz_ BK457.out 0 (.int .i64 a0_0) rfl
             have hcz30_1 := cz_ BK457.out 1 (.int .i64 a0_1) rfl
             have hcz30_2 := cz_ BK457.out 2 (.int .i64 a0_2) rfl
             have hcz30_3 := cz_ BK457.out 3 (.string a0_3) rfl
             have hfz30_0 := blk_frozen BK457.out 0
             have hfz30_1 := blk_frozen BK457.out 1
             have hfz30_2 := blk_frozen BK457.out 2
             have hfz30_3 := blk_frozen BK457.out 3
             go_wp2_with (first | (go_at_call 73; (with_reducible refine (impl_isTime.calls a0_2 t460 _ A22.out).mono ?_); rintro e w' ⟨rfl, ⟨nd, rfl⟩⟩; (try exact βia)) | (go_at_call 72; (with_reducible refine (impl_within.calls a0_0 1 5 false _ A23.out).mono ?_); rintro e w' ⟨rfl, ⟨nd, rfl⟩⟩; (try exact βia)))
             repeat (go_quiet (first | (go_at_call 73; (with_reducible refine (impl_isTime.calls a0_2 t460 _ A22.out).mono ?_); rintro e w' ⟨rfl, ⟨nd, rfl⟩⟩; (try exact βia)) | (go_at_call 72; (with_reducible refine (impl_within.calls a0_0 1 5 false _ A23.out).mono ?_); rintro e w' ⟨rfl, ⟨nd, rfl⟩⟩; (try exact βia))); try go_wp2_with (first | (go_at_call 73; (with_reducible refine (impl_isTime.calls a0_2 t460 _ A22.out).mono ?_); rintro e w' ⟨rfl, ⟨nd, rfl⟩⟩; (try exact βia)) | (go_at_call 72; (with_reducible refine (impl_within.calls a0_0 1 5 false _ A23.out).mono ?_); rintro e w' ⟨rfl, ⟨nd, rfl⟩⟩; (try exact βia))))
             go_ret
             exact ⟨βsa, βQ⟩
         · rw [if_neg c21] at H
           have c21b0 : (a0_0 == 5) = false := beq_eq_false_iff_ne.mpr c21
           have c21b1 : (a0_0 != 5) = true := bne_iff_ne.mpr c21
           replace H := Option.bind_eq_some_iff.mp H
           obtain ⟨t462, A310, H⟩ := H
           replace H : (if t462 = true then (if t458 = true then (if x6_9 = true then (some x7_17) else (some false)) else (some false)) else (some false)) = some r := H
           have A31 := zA_ A310
           clear A310
           by_cases c32 : t462 = true
           · subst c32
             have H1 : (if t458 = true then (if x6_9 = true then (some x7_17) else (some false)) else (some false)) = some r := by rw [if_pos rfl] at H; exact H
             clear H
             have H := H1
             clear H1
             by_cases c33 : t458 = true
             · subst c33
               have H1 : (if x6_9 = true then (some x7_17) else (some false)) = some r := by rw [if_pos rfl] at H; exact H
               clear H
               have H := H1
               clear H1
               by_cases c34 : x6_9 = true
               · subst c34
                 have H1 : (some x7_17) = some r := by rw [if_pos rfl] at H; exact H
                 clear H
                 have H := H1
                 clear H1
                 obtain rfl := Option.some.inj H
                 have hcz35_0 := cz_ BK457.out 0 (.int .i64 a0_0) rfl
                 have hcz35_1 := cz_ BK457.out 1 (.int .i64 a0_1) rfl
                 have hcz35_2 := cz_ BK457.out 2 (.int .i64 a0_2) rfl
                 have hcz35_3 := cz_ BK457.out 3 (.string a0_3) rfl
                 have hfz35_0 := blk_frozen BK457.out 0
                 have hfz35_1 := blk_frozen BK457.out 1
                 have hfz35_2 := blk_frozen BK457.out 2
                 have hfz35_3 := blk_frozen BK457.out 3
                 go_wp2_with (first | (go_at_call 72; (with_reducible refine (impl_within.calls a0_0 1 5 true _ A31.out).mono ?_); rintro e w' ⟨rfl, ⟨nd, rfl⟩⟩; (try exact βia)))
                 repeat (go_quiet (first | (go_at_call 72; (with_reducible refine (impl_within.calls a0_0 1 5 true _ A31.out).mono ?_); rintro e w' ⟨rfl, ⟨nd, rfl⟩⟩; (try exact βia))); try go_wp2_with (first | (go_at_call 72; (with_reducible refine (impl_within.calls a0_0 1 5 true _ A31.out).mono ?_); rintro e w' ⟨rfl, ⟨nd, rfl⟩⟩; (try exact βia))))
                 go_ret
                 exact ⟨βsa, βQ⟩
               · replace c34 := Bool.eq_false_iff.mpr c34
                 subst c34
                 have H1 : (some false) = some r := by rw [if_neg (show ¬ (false = true) by decide)] at H; exact H
                 clear H
                 have H := H1
                 clear H1
                 obtain rfl := Option.some.inj H
                 have hcz36_0 := cz_ BK457.out 0 (.int .i64 a0_0) rfl
                 have hcz36_1 := cz_ BK457.out 1 (.int .i64 a0_1) rfl
                 have hcz36_2 := cz_ BK457.out 2 (.int .i64 a0_2) rfl
                 have hcz36_3 := cz_ BK457.out 3 (.string a0_3) rfl
                 have hfz36_0 := blk_frozen BK457.out 0
                 have hfz36_1 := blk_frozen BK457.out 1
                 have hfz36_2 := blk_frozen BK457.out 2
                 have hfz36_3 := blk_frozen BK457.out 3
                 go_wp2_with (first | (go_at_call 72; (with_reducible refine (impl_within.calls a0_0 1 5 true _ A31.out).mono ?_); rintro e w' ⟨rfl, ⟨nd, rfl⟩⟩; (try exact βia)))
                 repeat (go_quiet (first | (go_at_call 72; (with_reducible refine (impl_within.calls a0_0 1 5 true _ A31.out).mono ?_); rintro e w' ⟨rfl, ⟨nd, rfl⟩⟩; (try exact βia))); try go_wp2_with (first | (go_at_call 72; (with_reducible refine (impl_within.calls a0_0 1 5 true _ A31.out).mono ?_); rintro e w' ⟨rfl, ⟨nd, rfl⟩⟩; (try exact βia))))
                 go_ret
                 exact ⟨βsa, βQ⟩
             · replace c33 := Bool.eq_false_iff.mpr c33
               subst c33
               have H1 : (some false) = some r := by rw [if_neg (show ¬ (false = true) by decide)] at H; exact H
               clear H
               have H := H1
               clear H1
               obtain rfl := Option.some.inj H
               have hcz37_0 := cz_ BK457.out 0 (.int .i64 a0_0) rfl
               have hcz37_1 := cz_ BK457.out 1 (.int .i64 a0_1) rfl
               have hcz37_2 := cz_ BK457.out 2 (.int .i64 a0_2) rfl
               have hcz37_3 := cz_ BK457.out 3 (.string a0_3) rfl
               have hfz37_0 := blk_frozen BK457.out 0
               have hfz37_1 := blk_frozen BK457.out 1
               have hfz37_2 := blk_frozen BK457.out 2
               have hfz37_3 := blk_frozen BK457.out 3
               go_wp2_with (first | (go_at_call 72; (with_reducible refine (impl_within.calls a0_0 1 5 true _ A31.out).mono ?_); rintro e w' ⟨rfl, ⟨nd, rfl⟩⟩; (try exact βia)))
               repeat (go_quiet (first | (go_at_call 72; (with_reducible refine (impl_within.calls a0_0 1 5 true _ A31.out).mono ?_); rintro e w' ⟨rfl, ⟨nd, rfl⟩⟩; (try exact βia))); try go_wp2_with (first | (go_at_call 72; (with_reducible refine (impl_within.calls a0_0 1 5 true _ A31.out).mono ?_); rintro e w' ⟨rfl, ⟨nd, rfl⟩⟩; (try exact βia))))
               go_ret
               exact ⟨βsa, βQ⟩
           · replace c32 := Bool.eq_false_iff.mpr c32
             subst c32
             have H1 : (some false) = some r := by rw [if_neg (show ¬ (false = true) by decide)] at H; exact H
             clear H
             have H := H1
             clear H1
             obtain rfl := Option.some.inj H
             have hcz38_0 := cz_ BK457.out 0 (.int .i64 a0_0) rfl
             have hcz38_1 := cz_ BK457.out 1 (.int .i64 a0_1) rfl
             have hcz38_2 := cz_ BK457.out 2 (.int .i64 a0_2) rfl
             have hcz38_3 := cz_ BK457.out 3 (.string a0_3) rfl
             have hfz38_0 := blk_frozen BK457.out 0
             have hfz38_1 := blk_frozen BK457.out 1
             have hfz38_2 := blk_frozen BK457.out 2
             have hfz38_3 := blk_frozen BK457.out 3
             go_wp2_with (first | (go_at_call 72; (with_reducible refine (impl_within.calls a0_0 1 5 false _ A31.out).mono ?_); rintro e w' ⟨rfl, ⟨nd, rfl⟩⟩; (try exact βia)))
             repeat (go_quiet (first | (go_at_call 72; (with_reducible refine (impl_within.calls a0_0 1 5 false _ A31.out).mono ?_); rintro e w' ⟨rfl, ⟨nd, rfl⟩⟩; (try exact βia))); try go_wp2_with (first | (go_at_call 72; (with_reducible refine (impl_within.calls a0_0 1 5 false _ A31.out).mono ?_); rintro e w' ⟨rfl, ⟨nd, rfl⟩⟩; (try exact βia))))
             go_ret
             exact ⟨βsa, βQ⟩
end Go.Proofs.YtldhjbjbjoomcaaDoor.Q
namespace Go.Proofs.YtldhjbjbjoomcaaDoor.Pure
set_option linter.unusedVariables false
set_option linter.unusedSimpArgs false
open Go Go.RowKit Go.Proofs.YtldhjbjbjoomcaaDoor.Q Go.Proofs.YtldhjbjbjoomcaaDoorW.PrintWords Go.Proofs.YtldhjbjbjoomcaaDoorW.PrintLast Go.Proofs.YtldhjbjbjoomcaaDoorW.PrintMore
def emp (d : ByteArray) : Bool := d.toList == ([] : List UInt8)
def e8 (d : ByteArray) : Bool := (d.size : Int) == 8
def inr (x hi : Int) : Bool := decide (0 ≤ x ∧ x ≤ hi)
def stepM (k b c : Int) (d : ByteArray) (n : Int) : Bool :=
  if k = 1 then inr b (n - 1) && (c == 0) && emp d
  else if k = 2 then inr b (n - 1) && (c == 0) && e8 d
  else if k = 3 then inr b (n - 1) && inr c (n - 1) && emp d
  else if k = 4 then inr b (n - 1) && inr c (n - 1) && e8 d
  else if k = 5 then (b == 0) && inr c 1000000 && emp d
  else false
theorem specStep (k b c : Int) (d : ByteArray) (n : Int) (h : 1 ≤ n ∧ n ≤ 8) : spec_StepRight.f k b c d n = some (stepM k b c d n) := by
  unfold spec_StepRight.f stepM inr emp e8
  rw [wrap64_id (n := n - 1) (by omega) (by omega)]
  simp only [l03Is_eq, Option.bind_some, decide_eq_true h, if_true]
  generalize decide (0 ≤ b ∧ b ≤ n - 1) = t1
  generalize decide (0 ≤ c ∧ c ≤ n - 1) = t2
  generalize decide (0 ≤ c ∧ c ≤ 1000000) = t3
  generalize (d.toList == ([] : List UInt8)) = t4
  generalize ((d.size : Int) == 8) = t5
  have q : ∀ x y : Int, (x == y) = decide (x = y) := fun x y => by rw [Bool.eq_iff_iff]; simp
  by_cases k1 : k = 1
  · simp only [if_pos k1, q]; by_cases hc : c = 0 <;> cases t1 <;> simp [hc]
  · simp only [if_neg k1]
    by_cases k2 : k = 2
    · simp only [if_pos k2, q]; by_cases hc : c = 0 <;> cases t1 <;> simp [hc]
    · simp only [if_neg k2]
      by_cases k3 : k = 3
      · simp only [if_pos k3]; cases t1 <;> cases t2 <;> simp
      · simp only [if_neg k3]
        by_cases k4 : k = 4
        · simp only [if_pos k4]; cases t1 <;> cases t2 <;> simp
        · simp only [if_neg k4]
          by_cases k5 : k = 5
          · simp only [if_pos k5, q]; by_cases hb : b = 0 <;> cases t3 <;> simp [hb]
          · simp only [if_neg k5]
def j3M (k b c : Int) (x5 x6 x7 : Bool) : Bool := if k = 5 then (b == 0) && inr c 1000000 && x7 else decide (1 ≤ k ∧ k ≤ 5) && x5 && x6 && x7
theorem isStep_j3 (k b c : Int) (d : ByteArray) (x5 x6 x7 : Bool) : Ev (fun m => impl_isStep.j3 m x5 x6 x7 k b c d) (j3M k b c x5 x6 x7) := by
  refine Ev.step (fun m => by rw [impl_isStep.j3, impl_isTime.f, within_eq, within_eq]) ?_
  simp only [Option.bind_some]
  unfold j3M inr
  generalize decide (0 ≤ c ∧ c ≤ 1000000) = t3
  by_cases k5 : k = 5
  · simp only [if_pos k5, decide_eq_true (show 1 ≤ k ∧ k ≤ 5 by omega), if_true]
    by_cases hb : b = 0
    · cases t3
      · simp only [if_pos hb, Bool.false_eq_true, if_false, Bool.and_false, Bool.false_and]; exact Ev.now _
      · simp only [if_pos hb, if_true, hb, beq_self_eq_true, Bool.true_and]; exact Ev.now _
    · simp only [if_neg hb, show (b == 0) = false from beq_eq_false_iff_ne.2 hb, Bool.false_and]; exact Ev.now _
  · simp only [if_neg k5]
    generalize decide (1 ≤ k ∧ k ≤ 5) = t1
    cases t1
    · simp only [Bool.false_eq_true, if_false, Bool.false_and]; exact Ev.now _
    · cases x5
      · simp only [Bool.false_eq_true, if_false, if_true, Bool.false_and, Bool.true_and]; exact Ev.now _
      · cases x6
        · simp only [Bool.false_eq_true, if_false, if_true, Bool.false_and, Bool.true_and]; exact Ev.now _
        · simp only [if_true, Bool.true_and]; exact Ev.now _
theorem isStep_j2 (k b c : Int) (d : ByteArray) (x5 x6 x7 x39 : Bool) : Ev (fun m => impl_isStep.j2 m x5 x6 x7 x39 k b c d) (j3M k b c x5 x6 (if x39 = true then e8 d else x7)) := by
  refine Ev.step (fun m => by rw [impl_isStep.j2]) ?_
  by_cases h : x39 = true
  · simp only [if_pos h]; exact isStep_j3 k b c d x5 x6 _
  · simp only [if_neg h]; exact isStep_j3 k b c d x5 x6 x7
theorem isStep_j1 (k b c : Int) (d : ByteArray) (x5 x6 x7 : Bool) : Ev (fun m => impl_isStep.j1 m x5 x6 x7 k b c d) (j3M k b c x5 x6 (if k = 2 ∨ k = 4 then e8 d else x7)) := by
  refine Ev.step (fun m => by rw [impl_isStep.j1]) ?_
  by_cases h : k = 2
  · simp only [if_pos h, if_pos (show k = 2 ∨ k = 4 from .inl h)]
    have := isStep_j2 k b c d x5 x6 x7 true
    simpa using this
  · simp only [if_neg h]
    have := isStep_j2 k b c d x5 x6 x7 (k == 4)
    by_cases h4 : k = 4
    · rw [if_pos (.inr h4)]; rw [if_pos (by simp [h4])] at this; exact this
    · rw [if_neg (by omega)]; rw [if_neg (by simp [h4])] at this; exact this
theorem isStep_j0 (k b c : Int) (d : ByteArray) (n : Int) (h : 1 ≤ n ∧ n ≤ 8) (x5 x6 x7 x26 : Bool) : Ev (fun m => impl_isStep.j0 m n x5 x6 x7 x26 k b c d) (j3M k b c x5 (if x26 = true then inr c (n - 1) else x6) (if k = 2 ∨ k = 4 then e8 d else x7)) := by
  refine Ev.step (fun m => by rw [impl_isStep.j0, wrap64_id (n := n - 1) (by omega) (by omega), within_eq]) ?_
  by_cases h : x26 = true
  · simp only [if_pos h, Option.bind_some]; exact isStep_j1 k b c d x5 _ x7
  · simp only [if_neg h]; exact isStep_j1 k b c d x5 x6 x7
theorem implStep (k b c : Int) (d : ByteArray) (n : Int) (h : 1 ≤ n ∧ n ≤ 8) : Ev (fun m => impl_isStep.f m k b c d n) (stepM k b c d n) := by
  have key : Ev (fun m => impl_isStep.j0 m n (inr b (n - 1)) (c == 0) (emp d) (decide (k = 3 ∨ k = 4)) k b c d) (stepM k b c d n) := by
    have := isStep_j0 k b c d n h (inr b (n - 1)) (c == 0) (emp d) (decide (k = 3 ∨ k = 4))
    have e : j3M k b c (inr b (n - 1)) (if decide (k = 3 ∨ k = 4) = true then inr c (n - 1) else (c == 0)) (if k = 2 ∨ k = 4 then e8 d else emp d) = stepM k b c d n := by
      unfold j3M stepM
      by_cases k1 : k = 1
      · subst k1; simp
      · by_cases k2 : k = 2
        · subst k2; simp
        · by_cases k3 : k = 3
          · subst k3; simp
          · by_cases k4 : k = 4
            · subst k4; simp
            · by_cases k5 : k = 5
              · subst k5; simp
              · rw [if_neg k5, if_neg k1, if_neg k2, if_neg k3, if_neg k4, if_neg k5, decide_eq_false (show ¬ (1 ≤ k ∧ k ≤ 5) by omega)]; simp
    rw [e] at this
    exact this
  unfold impl_isStep.f
  rw [wrap64_id (n := n - 1) (by omega) (by omega), within_eq]
  simp only [Option.bind_some]
  by_cases k3 : k = 3
  · simp only [if_pos k3]
    rw [decide_eq_true (show k = 3 ∨ k = 4 from .inl k3)] at key
    exact key
  · simp only [if_neg k3]
    rw [show decide (k = 3 ∨ k = 4) = (k == 4) by rw [Bool.eq_iff_iff]; simp [k3]] at key
    exact key
end Go.Proofs.YtldhjbjbjoomcaaDoor.Pure
namespace Go.Proofs.YtldhjbjbjoomcaaDoor.Q
open Go.RowKit Go.Proofs.YtldhjbjbjoomcaaDoorW.PrintWords Go.Proofs.YtldhjbjbjoomcaaDoorW.PrintLast Go.Proofs.YtldhjbjbjoomcaaDoorW.PrintMore
attribute [local go_sem] max2_int min2_int max_two min_two max_three min_three max_four min_four Instr.field asAgg
set_option linter.unusedVariables false
set_option linter.unusedSimpArgs false
set_option maxHeartbeats 8000000
set_option maxRecDepth 100000
theorem slices_IndexFunc_42.calls (I : World → Prop) (p : S42 → Bool) (g : Nat) (cap : Array Value) (eg : ∀ args w, (callFunc g args).run Tryd.prog w = .ok (.enter g args) w) (Ad : Option Addr) (c : Nat) (l : List S42) (w : World)
 (hR : Kd.C k42 w Ad l.length l) (hc : l.length ≤ c) (hbig : l.length ≤ 9223372036854775807) (hw : I w) (hI : ∀ W, I W → Below w.heap.size w W)
 (hp : ∀ (W : World), I W → ∀ x ∈ l, Calls Tryd.prog g (#[.agg #[.int .i64 x.f0, .int .i64 x.f1, .int .i64 x.f2, .string x.f3]] ++ cap) W fun e w' => e = .returned (.bool (p x)) ∧ I w') :
 Calls Tryd.prog 86 #[.slice Ad l.length c, .func (.func g) #[] cap] w fun e w' => e = .returned (.int .i64 (idxFrom p l 0)) ∧ I w' := by
 have HR := zA_ hR
 clear hR
 go_enter Tryd.func86, Tryd.ntmps86
 go_wp2
 go_loopg [5, 8] l.length (fun gg _ s8 wr => ∃ kk : Nat, kk ≤ l.length ∧ l.length - kk ≤ gg ∧ s8 = .int .i64 kk ∧ Aside0 (I wr) ∧ Aside0 (idxFrom p l 0 = idxFrom p (l.drop kk) kk))
 case atStart => exact ⟨0, Nat.zero_le _, (by omega), rfl, ⟨hw⟩, ⟨(by simp)⟩⟩
 case round =>
  obtain ⟨kk, hkk, hg, rfl, IW, IX⟩ := hrel
  by_cases hlt : kk < l.length
  · have hltz : (kk : Int) < (l.length : Int) := by omega
    obtain ⟨ad, rfl, hx0, hx1, hx2, hx3⟩ := at_T42 HR.out (kk : Int) (by omega) hltz
    have hy : rd_T42 l (kk : Int) = l[kk] := by simp [rd_T42, hlt]
    rw [hy] at hx0; replace hx0 := ((hI wr IW.out).cell (World.block_lt_of_cell? _ _ hx0)).trans hx0; simp only [Int.toNat_natCast] at hx0
    rw [hy] at hx1; replace hx1 := ((hI wr IW.out).cell (World.block_lt_of_cell? _ _ hx1)).trans hx1; simp only [Int.toNat_natCast] at hx1
    rw [hy] at hx2; replace hx2 := ((hI wr IW.out).cell (World.block_lt_of_cell? _ _ hx2)).trans hx2; simp only [Int.toNat_natCast] at hx2
    rw [hy] at hx3; replace hx3 := ((hI wr IW.out).cell (World.block_lt_of_cell? _ _ hx3)).trans hx3; simp only [Int.toNat_natCast] at hx3
    have hcall := hp wr IW.out l[kk] (List.getElem_mem hlt)
    have IX2 := IX.out
    rw [idxFrom_drop l kk hlt, idxFrom] at IX2
    clear hp IX hy
    generalize l[kk] = y at hx0 hx1 hx2 hx3 hcall IX2
    have IX3 := zA_ IX2
    clear IX2
    cases hq : p y with
    | true =>
     rw [hq] at hcall
     go_wp2_with (go_at_fn g; refine hcall.mono ?_; rintro e w' ⟨rfl, hb'⟩)
     go_ret
     exact ⟨(by rw [IX3.out, if_pos hq]; rfl), hb'⟩
    | false =>
     rw [hq] at hcall
     go_wp2_with (go_at_fn g; refine hcall.mono ?_; rintro e w' ⟨rfl, hb'⟩)
     go_roundg (l.length - (kk + 1))
     case measure => omega
     case rel => exact ⟨kk + 1, (by omega), (by omega), (by go_num), ⟨hb'⟩, ⟨(by rw [IX3.out, hq]; simp)⟩⟩
  · have hltz : ¬ (kk : Int) < (l.length : Int) := by omega
    have : kk = l.length := by omega
    subst this
    go_wp2
    go_ret
    exact ⟨(by rw [IX.out]; simp [idxFrom]), IW.out⟩
def impl_touches.is (b : Int) (x : S42) : Bool := x.f0 != 5 && x.f1 == b
def impl_touches.f (l0 : List S42) (a1 : Int) : Option Int := if l0.length ≤ 9223372036854775807 then some (idxFrom (impl_touches.is a1) l0 0) else none
theorem impl_touches.pred (a1 : Int) (gb : Nat) (W0 W : World) (hc : W0.cell? ⟨gb, 0, none⟩ = some (.int .i64 a1)) (hB : Below W0.heap.size W0 W) (x : S42) :
 Calls Tryd.prog 87 (#[.agg #[.int .i64 x.f0, .int .i64 x.f1, .int .i64 x.f2, .string x.f3]] ++ #[.pointer (some ⟨gb, 0, none⟩)]) W fun e w' => e = .returned (.bool (impl_touches.is a1 x)) ∧ Below W0.heap.size W0 w' := by
 have hc' := (hB.cell (World.block_lt_of_cell? _ _ hc)).trans hc
 have hc2 : ∀ o, (W.alloc o).cell? ⟨gb, 0, none⟩ = some (.int .i64 a1) := fun o => (Below.cell (below_alloc (Below.refl _ W) o) (World.block_lt_of_cell? _ _ hc')).trans hc'
 show Calls Tryd.prog 87 #[.agg #[.int .i64 x.f0, .int .i64 x.f1, .int .i64 x.f2, .string x.f3], .pointer (some ⟨gb, 0, none⟩)] W _
 have HB := zA_ hB
 clear hB hc
 unfold impl_touches.is
 rcases (show ((x.f0 == 5) = true ∧ (x.f0 != 5) = false) ∨ ((x.f0 == 5) = false ∧ (x.f0 != 5) = true) by by_cases h : x.f0 = 5 <;> simp [h]) with ⟨b0, b1⟩ | ⟨b0, b1⟩
 all_goals
  go_enter Tryd.func87, Tryd.ntmps87
  go_wp2
  go_ret
  exact ⟨(by first | rfl | (simp only [b1, Bool.true_and, Bool.false_and]; rfl)), βta⟩
theorem impl_touches.calls (A0 : Option Addr) (c0 : Nat) (l0 : List S42) (a1 : Int) (r : Int) (w : World) (hr0 : Kd.C k42 w A0 l0.length l0) (hc0 : l0.length ≤ c0) (h : impl_touches.f l0 a1 = some r) :
 Calls Tryd.prog 67 #[.slice A0 l0.length c0, .int .i64 a1] w fun e w' => e = .returned (.int .i64 r) ∧ Below w.heap.size w w' := by
 unfold impl_touches.f at h
 by_cases hbig : l0.length ≤ 9223372036854775807
 · rw [if_pos hbig] at h
   obtain rfl := Option.some.inj h
   clear h
   have eg : ∀ args w, (callFunc 87 args).run Tryd.prog w = .ok (.enter 87 args) w := enters_of Tryd.func87 βDa rfl
   have hcon := fun (W : World) (hR : Kd.C k42 W A0 l0.length l0) (gb : Nat) (hc : W.cell? ⟨gb, 0, none⟩ = some (.int .i64 a1)) => slices_IndexFunc_42.calls (fun W' => Below W.heap.size W W') (impl_touches.is a1) 87 #[.pointer (some ⟨gb, 0, none⟩)] eg A0 c0 l0 W hR hc0 hbig (Below.refl _ _) (fun _ h => h) (fun W' hb x _ => impl_touches.pred a1 gb W W' hc hb x)
   have HR0 := zA_ hr0
   clear hr0
   go_enter Tryd.func67, Tryd.ntmps67
   go_wp2_with (go_at_call 86; refine (hcon _ βga _ (by go_simp)).mono ?_; rintro e w' ⟨rfl, hb'⟩)
   go_ret
   exact ⟨rfl, below_step βqa hb'⟩
 · rw [if_neg hbig] at h; cases h
theorem slices_ContainsFunc_42.calls (I : World → Prop) (p : S42 → Bool) (g : Nat) (cap : Array Value) (eg : ∀ args w, (callFunc g args).run Tryd.prog w = .ok (.enter g args) w) (Ad : Option Addr) (c : Nat) (l : List S42) (w : World)
 (hR : Kd.C k42 w Ad l.length l) (hc : l.length ≤ c) (hbig : l.length ≤ 9223372036854775807) (hw : I w) (hI : ∀ W, I W → Below w.heap.size w W)
 (hp : ∀ (W : World), I W → ∀ x ∈ l, Calls Tryd.prog g (#[.agg #[.int .i64 x.f0, .int .i64 x.f1, .int .i64 x.f2, .string x.f3]] ++ cap) W fun e w' => e = .returned (.bool (p x)) ∧ I w') :
 Calls Tryd.prog 65 #[.slice Ad l.length c, .func (.func g) #[] cap] w fun e w' => e = .returned (.bool (l.any p)) ∧ I w' := by
 have hcon := slices_IndexFunc_42.calls I p g cap eg Ad c l w hR hc hbig hw hI hp
 have hn := zA_ (idxFrom_nonneg p l 0 (by omega))
 clear hp hR
 generalize idxFrom p l 0 = r at hcon hn
 go_enter Tryd.func65, Tryd.ntmps65
 go_wp2_with (go_at_call 86; refine hcon.mono ?_; rintro e w' ⟨rfl, hb'⟩)
 go_ret
 refine ⟨?_, hb'⟩
 have : decide (0 ≤ r) = l.any p := by rw [Bool.eq_iff_iff, decide_eq_true_iff]; exact hn.out
 rw [← this]; rfl
def impl_stepsCode.ok (k : Nat) (n : Int) (x : S42) : Option Bool := impl_isStep.f k x.f0 x.f1 x.f2 x.f3 n
def impl_stepsCode.bad (k : Nat) (n : Int) (x : S42) : Bool := !((impl_stepsCode.ok k n x).getD false)
def impl_stepsCode.scan (L : List S42) : List S42 → Int → Int → Bool → Int
 | [], _, _, up => if up = true then 0 else 8
 | x :: r, i, label, up => if x.f0 = 5 then impl_stepsCode.scan L r (i + 1) x.f2 (up && decide (label < x.f2)) else if idxFrom (impl_touches.is x.f1) L 0 < i then 12 else impl_stepsCode.scan L r (i + 1) label up
def impl_stepsCode.form (k : Nat) (l0 : List S42) (n : Int) : Bool := decide (1 ≤ n ∧ n ≤ 8) && decide ((l0.length : Int) ≤ 20) && !(l0.any (impl_stepsCode.bad k n))
def impl_stepsCode.f (k : Nat) (l0 : List S42) (a1 : Int) : Option Int :=
 if l0.length ≤ 9223372036854775807 ∧ ((1 ≤ a1 ∧ a1 ≤ 8) → (l0.length : Int) ≤ 20 → ∀ x ∈ l0, (impl_stepsCode.ok k a1 x).isSome = true) then
  some (if impl_stepsCode.form k l0 a1 = true then impl_stepsCode.scan l0 l0 0 (-1) true else 1) else none
theorem impl_stepsCode.pred (k : Nat) (a1 : Int) (gb : Nat) (W0 W : World) (hc : W0.cell? ⟨gb, 0, none⟩ = some (.int .i64 a1)) (hB : Below W0.heap.size W0 W) (x : S42) (hs : (impl_stepsCode.ok k a1 x).isSome = true) :
 Calls Tryd.prog 66 (#[.agg #[.int .i64 x.f0, .int .i64 x.f1, .int .i64 x.f2, .string x.f3]] ++ #[.pointer (some ⟨gb, 0, none⟩)]) W fun e w' => e = .returned (.bool (impl_stepsCode.bad k a1 x)) ∧ Below W0.heap.size W0 w' := by
 have hc' := (hB.cell (World.block_lt_of_cell? _ _ hc)).trans hc
 have hc2 : ∀ o, (W.alloc o).cell? ⟨gb, 0, none⟩ = some (.int .i64 a1) := fun o => (Below.cell (below_alloc (Below.refl _ W) o) (World.block_lt_of_cell? _ _ hc')).trans hc'
 obtain ⟨v, hv⟩ := Option.isSome_iff_exists.1 hs
 have hcall := fun W => impl_isStep.calls k x.f0 x.f1 x.f2 x.f3 a1 v W hv
 have e : impl_stepsCode.bad k a1 x = !v := by unfold impl_stepsCode.bad; rw [hv]; rfl
 rw [e]
 show Calls Tryd.prog 66 #[.agg #[.int .i64 x.f0, .int .i64 x.f1, .int .i64 x.f2, .string x.f3], .pointer (some ⟨gb, 0, none⟩)] W _
 have HB := zA_ hB
 clear hB hc hv hs e
 go_enter Tryd.func66, Tryd.ntmps66
 go_wp2_with (go_at_call 50; refine (hcall _).mono ?_; rintro e w' ⟨rfl, hb'⟩)
 go_ret
 exact ⟨rfl, below_then βta (by exact (below_size βta)) hb'⟩
theorem impl_stepsCode.calls (k : Nat) (A0 : Option Addr) (c0 : Nat) (l0 : List S42) (a1 : Int) (r : Int) (w : World) (hr0 : Kd.C k42 w A0 l0.length l0) (hc0 : l0.length ≤ c0) (h : impl_stepsCode.f k l0 a1 = some r) :
 Calls Tryd.prog 38 #[.slice A0 l0.length c0, .int .i64 a1] w fun e w' => e = .returned (.int .i64 r) ∧ Below w.heap.size w w' := by
 unfold impl_stepsCode.f at h
 by_cases hc : l0.length ≤ 9223372036854775807 ∧ ((1 ≤ a1 ∧ a1 ≤ 8) → (l0.length : Int) ≤ 20 → ∀ x ∈ l0, (impl_stepsCode.ok k a1 x).isSome = true)
 · rw [if_pos hc] at h
   obtain ⟨hbig, hs⟩ := hc
   obtain rfl := Option.some.inj h
   clear h
   have HR0 := zA_ hr0
   have HC0 := zA_ hc0
   have HBIG := zA_ hbig
   have hb : ∀ d : Bool, decide (1 ≤ a1 ∧ a1 ≤ 8) = d → impl_isBlocks.f a1 = some d := by
    intro d hd
    rw [← hd]
    unfold impl_isBlocks.f impl_within.f
    by_cases h1 : a1 ≥ 1
    · rw [if_pos h1, Option.bind_some]; congr 1; rw [Bool.eq_iff_iff]; simp; omega
    · rw [if_neg h1, Option.bind_some]; congr 1; rw [eq_comm, decide_eq_false_iff_not]; omega
   unfold impl_stepsCode.form
   by_cases h1 : 1 ≤ a1 ∧ a1 ≤ 8
   · have HD := zA_ (hb true (decide_eq_true h1))
     rw [decide_eq_true h1, Bool.true_and]
     by_cases h2 : (l0.length : Int) ≤ 20
     · have h2b : decide ((l0.length : Int) > 20) = false := decide_eq_false (by omega)
       rw [decide_eq_true h2, Bool.true_and]
       have eg : ∀ args w, (callFunc 66 args).run Tryd.prog w = .ok (.enter 66 args) w := enters_of Tryd.func66 βDa rfl
       have hcon := fun (W : World) (hR : Kd.C k42 W A0 l0.length l0) (gb : Nat) (hc : W.cell? ⟨gb, 0, none⟩ = some (.int .i64 a1)) => slices_ContainsFunc_42.calls (fun W' => Below W.heap.size W W') (impl_stepsCode.bad k a1) 66 #[.pointer (some ⟨gb, 0, none⟩)] eg A0 c0 l0 W hR hc0 hbig (Below.refl _ _) (fun _ h => h) (fun W' hb x hx => impl_stepsCode.pred k a1 gb W W' hc hb x (hs h1 h2 x hx))
       clear hb hs hr0 hc0 h1 hbig h2
       generalize l0.any (impl_stepsCode.bad k a1) = v at hcon ⊢
       cases v with
       | true =>
        go_enter Tryd.func38, Tryd.ntmps38
        go_wp2_with (first
         | (go_at_call 59; refine (impl_isBlocks.calls _ _ _ HD.out).mono ?_; rintro e w1 ⟨rfl, ⟨n1, rfl⟩⟩)
         | (go_at_call 65; refine (hcon _ βga _ (by go_simp)).mono ?_; rintro e w' ⟨rfl, hb'⟩))
        go_ret
        exact ⟨rfl, below_step βqa hb'⟩
       | false =>
        go_enter Tryd.func38, Tryd.ntmps38
        go_wp2_with (first
         | (go_at_call 59; refine (impl_isBlocks.calls _ _ _ HD.out).mono ?_; rintro e w1 ⟨rfl, ⟨n1, rfl⟩⟩)
         | (go_at_call 65; refine (hcon _ βga _ (by go_simp)).mono ?_; rintro e w' ⟨rfl, hb'⟩; have HB := zA_ (show Below w.heap.size w w' from below_step βqa hb'); clear hb' hcon))
        clear eg h2b HD
        go_loopg [5, 6, 7, 8, 24] l0.length (fun gg v5 v6 _ _ v24 wr => ∃ (kk : Nat) (lb : Int) (up : Bool), v5 = .int .i64 lb ∧ v6 = .bool up ∧ v24 = .int .i64 kk ∧ Aside0 (kk ≤ l0.length) ∧ Aside0 (l0.length - kk ≤ gg) ∧ Aside0 (Below w.heap.size w wr) ∧ Aside0 (impl_stepsCode.scan l0 l0 0 (-1) true = impl_stepsCode.scan l0 (l0.drop kk) kk lb up))
        case atStart => exact ⟨0, -1, true, rfl, rfl, rfl, ⟨Nat.zero_le _⟩, ⟨Nat.le_refl _⟩, HB, ⟨rfl⟩⟩
        case round =>
         clear HB
         obtain ⟨kk, lb, up, rfl, rfl, rfl, HK, HG, HB, HS⟩ := hrel
         by_cases hlt : kk < l0.length
         · have hltz : decide ((kk : Int) < (l0.length : Int)) = true := decide_eq_true (by omega)
           have p0 : (0 : Int) ≤ (kk : Int) := by omega
           have q0 : (kk : Int) < (l0.length : Int) := by omega
           obtain ⟨ad, rfl, hx0, hx1, hx2, hx3⟩ := at_T42 HR0.out (kk : Int) p0 q0
           have hy : rd_T42 l0 (kk : Int) = l0[kk] := by simp [rd_T42, hlt]
           rw [hy] at hx0; replace hx0 := bc_ HB.out hx0; simp only [Int.toNat_natCast] at hx0
           rw [hy] at hx1; replace hx1 := bc_ HB.out hx1; simp only [Int.toNat_natCast] at hx1
           rw [hy] at hx2; replace hx2 := bc_ HB.out hx2; simp only [Int.toNat_natCast] at hx2
           rw [hy] at hx3; replace hx3 := bc_ HB.out hx3; simp only [Int.toNat_natCast] at hx3
           have HS2 := HS.out
           rw [idxFrom_drop l0 kk hlt, impl_stepsCode.scan] at HS2
           clear HS hy
           generalize l0[kk] = x at hx0 hx1 hx2 hx3 HS2
           have htch : impl_touches.f l0 x.f1 = some (idxFrom (impl_touches.is x.f1) l0 0) := by unfold impl_touches.f; rw [if_pos HBIG.out]
           have e24 : wrap64 ((kk : Int) + 1) = ((kk + 1 : Nat) : Int) := by have := HBIG.out; unfold wrap64; omega
           generalize idxFrom (impl_touches.is x.f1) l0 0 = tv at htch HS2
           have HT := zA_ htch
           clear htch
           by_cases h5 : x.f0 = 5
           · have b0 : (x.f0 == 5) = true := beq_iff_eq.mpr h5
             have b1 : (x.f0 != 5) = false := bne_eq_false_iff_eq.mpr h5
             rw [if_pos h5] at HS2
             have HS := zA_ HS2
             clear h5 HS2
             cases up with
             | true =>
              go_wp2
              go_roundg (l0.length - (kk + 1))
              case measure => have := HG.out; omega
              case rel => exact ⟨kk + 1, x.f2, decide (lb < x.f2), (by rfl), (by rfl), (by rw [e24]), ⟨(by omega)⟩, ⟨Nat.le_refl _⟩, ⟨βta⟩, ⟨(by have e : ((kk + 1 : Nat) : Int) = (kk : Int) + 1 := (by omega); rw [HS.out, e]; simp)⟩⟩
             | false =>
              go_wp2
              go_roundg (l0.length - (kk + 1))
              case measure => have := HG.out; omega
              case rel => exact ⟨kk + 1, x.f2, false, (by rfl), (by rfl), (by rw [e24]), ⟨(by omega)⟩, ⟨Nat.le_refl _⟩, ⟨βta⟩, ⟨(by have e : ((kk + 1 : Nat) : Int) = (kk : Int) + 1 := (by omega); rw [HS.out, e]; simp)⟩⟩
           · have b0 : (x.f0 == 5) = false := beq_eq_false_iff_ne.mpr h5
             have b1 : (x.f0 != 5) = true := bne_iff_ne.mpr h5
             rw [if_neg h5] at HS2
             by_cases ht : tv < (kk : Int)
             · have htb : decide (tv < (kk : Int)) = true := decide_eq_true ht
               rw [if_pos ht] at HS2
               have HS := zA_ HS2
               clear h5 HS2 ht
               go_wp2_with (go_at_call 67; refine (impl_touches.calls _ _ l0 x.f1 tv _ (Kd.C_below HR0.out βta) HC0.out HT.out).mono ?_; rintro e w2 ⟨rfl, hb2⟩)
               go_ret
               exact ⟨(by rw [HS.out]; rfl), below_then βta (below_size βta) hb2⟩
             · have htb : decide (tv < (kk : Int)) = false := decide_eq_false ht
               rw [if_neg ht] at HS2
               have HS := zA_ HS2
               clear h5 HS2 ht
               go_wp2_with (go_at_call 67; refine (impl_touches.calls _ _ l0 x.f1 tv _ (Kd.C_below HR0.out βta) HC0.out HT.out).mono ?_; rintro e w2 ⟨rfl, hb2⟩)
               go_roundg (l0.length - (kk + 1))
               case measure => have := HG.out; omega
               case rel => exact ⟨kk + 1, lb, up, (by rfl), (by rfl), (by rw [e24]), ⟨(by omega)⟩, ⟨Nat.le_refl _⟩, ⟨below_then βta (below_size βta) hb2⟩, ⟨(by have e : ((kk + 1 : Nat) : Int) = (kk : Int) + 1 := (by omega); rw [HS.out, e])⟩⟩
         · have hltz : decide ((kk : Int) < (l0.length : Int)) = false := decide_eq_false (by omega)
           have hk : kk = l0.length := by have := HK.out; omega
           have HS2 := HS.out
           rw [hk, List.drop_length, impl_stepsCode.scan] at HS2
           have HS := zA_ HS2
           clear HS2
           cases up with
           | true =>
            go_wp2
            go_ret
            exact ⟨(by rw [HS.out]; rfl), HB.out⟩
           | false =>
            go_wp2
            go_ret
            exact ⟨(by rw [HS.out]; rfl), HB.out⟩
     · have h2b : decide ((l0.length : Int) > 20) = true := decide_eq_true (by omega)
       rw [decide_eq_false h2]
       clear hb hs hr0 hc0 h1 hbig h2
       go_enter Tryd.func38, Tryd.ntmps38
       go_wp2_with (first
        | (go_at_call 59; refine (impl_isBlocks.calls _ _ _ HD.out).mono ?_; rintro e w1 ⟨rfl, ⟨n1, rfl⟩⟩))
       go_ret
       exact ⟨rfl, βqa⟩
   · have HD := zA_ (hb false (decide_eq_false h1))
     rw [decide_eq_false h1]
     clear hb hs hr0 hc0 h1 hbig
     go_enter Tryd.func38, Tryd.ntmps38
     go_wp2_with (first
      | (go_at_call 59; refine (impl_isBlocks.calls _ _ _ HD.out).mono ?_; rintro e w1 ⟨rfl, ⟨n1, rfl⟩⟩))
     go_ret
     exact ⟨rfl, βqa⟩
 · rw [if_neg hc] at h; cases h
theorem impl_xored.still {P : Program} {id : Nat} {Q : Exit → Act → World → Prop} {a : Act} {w : World} {l : List Oper} (n : Nat) (hm : P.follows .mixedOrders = true) (hB : Region.lexTailB .any l.toArray n = true)
 (h : wpStill P l.toArray w.drew (fun a' => wpList P l.toArray Q (l.drop n) a' w.drew) (l.take n) a) : (Code.region id l.toArray true).wp P Q a w := wp_region_still_tail n hm hB h
def impl_xored.xs (a b : ByteArray) : Nat → List Int
 | 0 => []
 | k + 1 => impl_xored.xs a b k ++ [Go.bits .xor .u8 (bt a k) (bt b k)]
def impl_xored.f (a0 a1 : ByteArray) : Option ByteArray := if a0.size ≤ a1.size ∧ a0.size ≤ 9223372036854775807 then some (strOfNums (impl_xored.xs a0 a1 a0.size)) else none
def impl_xored.Row (a b : ByteArray) (g k : Nat) (W : World) : Prop :=
 ∃ (cur : Array Value) (m : Nat), W.heap[g]? = some (.cells cur 5 (m, m + 1)) ∧ a.size ≤ m ∧ cur.size = m ∧ (∀ j, j < k → cur[j]? = some (.int .u8 (Go.bits .xor .u8 (bt a j) (bt b j)))) ∧ (∀ j, k ≤ j → j < a.size → cur[j]? = some (.int .u8 (bt a j)))
theorem impl_xored.Row.cell {a b : ByteArray} {g k : Nat} {W : World} (h : impl_xored.Row a b g k W) (hk : k < a.size) : W.cell? ⟨g, k, none⟩ = some (.int .u8 (bt a k)) ∧ W.frozen? ⟨g, k, none⟩ = false := by
 obtain ⟨cur, m, hb, hm, hc, h1, h2⟩ := h
 constructor
 · have := h2 k (Nat.le_refl _) hk
   simp [World.cell?, hb, this]
 · simp [World.frozen?, hb]; omega
theorem impl_xored.Row.put {a b : ByteArray} {g k : Nat} {W : World} (h : impl_xored.Row a b g k W) (hk : k < a.size) : impl_xored.Row a b g (k + 1) (W.setCell ⟨g, k, none⟩ (.int .u8 (Go.bits .xor .u8 (bt a k) (bt b k)))) := by
 obtain ⟨cur, m, hb, hm, hc, h1, h2⟩ := h
 refine ⟨cur.set! k (.int .u8 (Go.bits .xor .u8 (bt a k) (bt b k))), m, ?_, hm, (by simpa using hc), fun j hj => ?_, fun j hj hj2 => ?_⟩
 · have hl : g < W.heap.size := by
    rcases Nat.lt_or_ge g W.heap.size with h' | h'
    · exact h'
    · rw [Array.getElem?_eq_none h'] at hb; cases hb
   rw [World.setCell]
   simp only [Array.getElem?_modify, if_true, hb, Option.map_some, Option.isSome_none, Bool.false_eq_true, if_false, Array.set!_eq_setIfInBounds]
 · by_cases e : j = k
   · subst e; simp [show j < cur.size by omega]
   · have := h1 j (by omega)
     simp [Array.getElem?_setIfInBounds, Ne.symm e, this]
 · have := h2 j (by omega) hj2
   simp [Array.getElem?_setIfInBounds, show k ≠ j by omega, this]
theorem impl_xored.Row.drew {a b : ByteArray} {g k : Nat} {W : World} (h : impl_xored.Row a b g k W) : impl_xored.Row a b g k W.drew := h
theorem impl_xored.Row.reads {a b : ByteArray} {g : Nat} {W : World} (h : impl_xored.Row a b g a.size W) (hs : a.size ≤ 9223372036854775807) : ReadsInt W .u8 (some ⟨g, 0, none⟩) a.size (impl_xored.xs a b a.size) := by
 have hl : ∀ k, (impl_xored.xs a b k).length = k := by
  intro k
  induction k with
  | zero => rfl
  | succ k ih => simp [impl_xored.xs, ih]
 have hg : ∀ k j, j < k → (impl_xored.xs a b k).getD j 0 = Go.bits .xor .u8 (bt a j) (bt b j) := by
  intro k
  induction k with
  | zero => intro j hj; omega
  | succ k ih =>
   intro j hj
   rw [impl_xored.xs]
   by_cases e : j = k
   · subst e
     simp [List.getD_eq_getElem?_getD, hl]
   · have := ih j (by omega)
     rw [← this]
     simp [List.getD_eq_getElem?_getD, List.getElem?_append_left (show j < (impl_xored.xs a b k).length by rw [hl]; omega)]
 refine ⟨hl _, hs, fun hp => ⟨_, rfl, fun j hj => ?_⟩⟩
 obtain ⟨cur, m, hb, hm, hc, h1, h2⟩ := h
 rw [add_plain, hg a.size j hj]
 have := h1 j hj
 simp [World.cell?, hb, this]
theorem impl_xored.Row.begin (a b : ByteArray) (W : World) : impl_xored.Row a b W.heap.size 0 (Lib.bytesWorld W 5 a) := by
 refine ⟨_, _, Lib.bytesWorld_at_new W 5 a, ?_, rfl, fun j hj => by omega, fun j _ hj => ?_⟩
 · simp only [Lib.bytesCells, Array.size_append, Array.size_map]; show a.size ≤ a.data.size + _; exact Nat.le_add_right _ _
 · have := Lib.bytesWorld_cell W 5 a j hj
   rw [show (some (Value.int .u8 (bt a j)) : Option Value) = some (.int .u8 (a.data.toList.getD j 0).toNat) from ?_, ← this]
   · simp [World.cell?, Lib.bytesWorld_at_new]
   · congr 2
     have h' : j < a.data.toList.length := by rw [data_length]; exact hj
     simp [bt, hj, List.getD_eq_getElem?_getD, List.getElem?_eq_getElem h']
     rfl
theorem impl_xored.calls (a0 : ByteArray) (a1 : ByteArray) (r : ByteArray) (w : World) (h : impl_xored.f a0 a1 = some r) :
 Calls Tryd.prog 49 #[.string a0, .string a1] w fun e w' => e = .returned (.string r) ∧ Below w.heap.size w w' := by
 unfold impl_xored.f at h
 by_cases hle : a0.size ≤ a1.size ∧ a0.size ≤ 9223372036854775807
 · rw [if_pos hle] at h
   obtain rfl := Option.some.inj h
   clear h
   obtain ⟨hle, hbig⟩ := hle
   have hu24 := Tryd.underlying24
   have kb := fun W => print_bytes (P := Tryd.prog) 9 24 5 Tryd.underlying9 Tryd.underlying24 Tryd.underlying5 a0 W
   go_enter Tryd.func49, Tryd.ntmps49
   go_wp2_with (fail)
   have HB := zA_ (bytes_below (Below.refl w.heap.size w) (Nat.le_refl _) 5 a0)
   have HR := zA_ (impl_xored.Row.begin a0 a1 w)
   have HL := zA_ hle
   have HN := zA_ hbig
   clear kb hle hbig
   generalize hG : w.heap.size = G at HR HB ⊢
   have HG := zA_ hG
   clear hG
   generalize grownCap w a0.size 0 5 = cap
   generalize Lib.bytesWorld w 5 a0 = wb at HR HB ⊢
   go_loopg [6, 11] a0.size (fun gg _ v11 wr => ∃ k : Nat, v11 = .int .i64 k ∧ Aside0 (k ≤ a0.size) ∧ Aside0 (a0.size - k ≤ gg) ∧ Aside0 (impl_xored.Row a0 a1 G k wr) ∧ Aside0 (Below G w wr))
   case atStart => exact ⟨0, rfl, ⟨Nat.zero_le _⟩, ⟨Nat.le_refl _⟩, HR, HB⟩
   case round =>
    clear HB HR
    obtain ⟨k, rfl, HK, HGG, HR, HB⟩ := hrel
    by_cases hlt : k < a0.size
    · have hltz : decide ((k : Int) < (a0.size : Int)) = true := decide_eq_true (by omega)
      have hlt' : decide (k < a0.size) = true := decide_eq_true hlt
      have hx := (HR.out.cell hlt).1
      have hf := (HR.out.cell hlt).2
      have hk0 : (0 : Int) ≤ (k : Int) := by omega
      have hka : (k : Int) < (a0.size : Int) := by omega
      have hkb : (k : Int) < (a1.size : Int) := by have := HL.out; omega
      have hb1 := bt_at a1 (k : Int)
      go_wp2
      refine impl_xored.still 8 βDa βDa ?_
      simp only [List.take_succ_cons, List.take_zero, List.drop_succ_cons, List.drop_zero]
      repeat still_step
      refine wpStill_nil ?_
      go_wp2
      go_roundg (a0.size - (k + 1))
      case measure => have := HGG.out; omega
      case rel =>
       have e1 : wrap64 ((k : Int) + 1) = ((k + 1 : Nat) : Int) := by have := HN.out; unfold wrap64; omega
       have e2 : ((a1[k]'(by omega)).toNat : Int) = bt a1 (k : Int) := hb1 (by omega)
       refine ⟨k + 1, (by rw [e1]), ⟨(by omega)⟩, ⟨Nat.le_refl _⟩, ⟨?_⟩, ⟨?_⟩⟩
       · rw [e2]; exact impl_xored.Row.drew (HR.out.put hlt)
       · exact below_drew (HB.out.setCell (Nat.le_refl _) _)
    · have hltz : decide ((k : Int) < (a0.size : Int)) = false := decide_eq_false (by omega)
      have hlt' : decide (k < a0.size) = false := decide_eq_false hlt
      obtain rfl : k = a0.size := by have := HK.out; omega
      have hcv := string_of_reads (P := Tryd.prog) (src := 24) (dst := 9) (c := cap) Tryd.underlying24 Tryd.underlying5 Tryd.underlying9 (HR.out.reads HN.out)
      go_wp2
      go_ret
      exact ⟨rfl, (by rw [HG.out]; exact HB.out)⟩
 · rw [if_neg hle] at h; cases h
def impl_madeBy.f (a0_0 : Int) (a0_1 : Int) (a0_2 : Int) (a0_3 : ByteArray) (a1 : ByteArray) : Option (ByteArray) := if a0_0 = 1 then (some (⟨#[0, 0, 0, 0, 0, 0, 0, 0]⟩ : ByteArray)) else (if a0_0 = 2 then (some a0_3) else (if a0_0 = 3 then (some a1) else ((impl_xored.f a1 a0_3).bind fun t464 => (some t464))))
theorem impl_madeBy.calls (a0_0 : Int) (a0_1 : Int) (a0_2 : Int) (a0_3 : ByteArray) (a1 : ByteArray) (r : ByteArray) (w : World) (h : impl_madeBy.f a0_0 a0_1 a0_2 a0_3 a1 = some r) :
 Calls Tryd.prog 51 #[.agg #[.int .i64 a0_0, .int .i64 a0_1, .int .i64 a0_2, .string a0_3], .string a1] w fun e w' => e = .returned (.string r) ∧ Below w.heap.size w w' := by
 have hu42 := Tryd.underlying42
 have HB := zA_ (Below.refl w.heap.size w)
 have H : (if a0_0 = 1 then (some (⟨#[0, 0, 0, 0, 0, 0, 0, 0]⟩ : ByteArray)) else (if a0_0 = 2 then (some a0_3) else (if a0_0 = 3 then (some a1) else ((impl_xored.f a1 a0_3).bind fun t464 => (some t464))))) = some r := h
 clear h
 by_cases c3 : a0_0 = 1
 · rw [if_pos c3] at H
   have c3b0 : (a0_0 == 1) = true := beq_iff_eq.mpr c3
   have c3b1 : (a0_0 != 1) = false := bne_eq_false_iff_eq.mpr c3
   clear c3
   obtain rfl := Option.some.inj H
   go_enter Tryd.func51, Tryd.ntmps51
   go_wp2_with (first | ((with_reducible refine gate_dst (N := 2) rfl ?_); refine box_event ?hg (N := 2) ?hd (cs := #[.int .i64 a0_0, .int .i64 a0_1, .int .i64 a0_2, .string a0_3]) (t := 42) ?hr ?_; (case hd => exact (by rfl)); (case hg => exact (by rfl)); (case hr => exact βAa); intro gb463 hg w4 hbox hb; have n0_ := zA_ (below_step (zh_ HB.out) hb); have n1_ := zA_ (hbox); have n2_ := zA_ ((by rw [hg]; exact (below_size (zh_ HB.out)) : w.heap.size ≤ gb463)); have n3_ := zA_ ((by rw [hg]; exact (below_size (zh_ HB.out)) : w.heap.size ≤ gb463)); clear HB; have HB := n0_; have BK463 := n1_; have GW463 := n2_; have GE463 := n3_; clear n0_ n1_ n2_ n3_; clear hb hbox hg; have hcz5_0 := cz_ BK463.out 0 (.int .i64 a0_0) rfl; have hcz5_1 := cz_ BK463.out 1 (.int .i64 a0_1) rfl; have hcz5_2 := cz_ BK463.out 2 (.int .i64 a0_2) rfl; have hcz5_3 := cz_ BK463.out 3 (.string a0_3) rfl; have hfz5_0 := blk_frozen BK463.out 0; have hfz5_1 := blk_frozen BK463.out 1; have hfz5_2 := blk_frozen BK463.out 2; have hfz5_3 := blk_frozen BK463.out 3))
   go_ret
   exact ⟨βsa, βR⟩
 · rw [if_neg c3] at H
   have c3b0 : (a0_0 == 1) = false := beq_eq_false_iff_ne.mpr c3
   have c3b1 : (a0_0 != 1) = true := bne_iff_ne.mpr c3
   by_cases c6 : a0_0 = 2
   · rw [if_pos c6] at H
     have c6b0 : (a0_0 == 2) = true := beq_iff_eq.mpr c6
     have c6b1 : (a0_0 != 2) = false := bne_eq_false_iff_eq.mpr c6
     clear c6
     obtain rfl := Option.some.inj H
     go_enter Tryd.func51, Tryd.ntmps51
     go_wp2_with (first | ((with_reducible refine gate_dst (N := 2) rfl ?_); refine box_event ?hg (N := 2) ?hd (cs := #[.int .i64 a0_0, .int .i64 a0_1, .int .i64 a0_2, .string a0_3]) (t := 42) ?hr ?_; (case hd => exact (by rfl)); (case hg => exact (by rfl)); (case hr => exact βAa); intro gb463 hg w7 hbox hb; have n0_ := zA_ (below_step (zh_ HB.out) hb); have n1_ := zA_ (hbox); have n2_ := zA_ ((by rw [hg]; exact (below_size (zh_ HB.out)) : w.heap.size ≤ gb463)); have n3_ := zA_ ((by rw [hg]; exact (below_size (zh_ HB.out)) : w.heap.size ≤ gb463)); clear HB; have HB := n0_; have BK463 := n1_; have GW463 := n2_; have GE463 := n3_; clear n0_ n1_ n2_ n3_; clear hb hbox hg; have hcz8_0 := cz_ BK463.out 0 (.int .i64 a0_0) rfl; have hcz8_1 := cz_ BK463.out 1 (.int .i64 a0_1) rfl; have hcz8_2 := cz_ BK463.out 2 (.int .i64 a0_2) rfl; have hcz8_3 := cz_ BK463.out 3 (.string a0_3) rfl; have hfz8_0 := blk_frozen BK463.out 0; have hfz8_1 := blk_frozen BK463.out 1; have hfz8_2 := blk_frozen BK463.out 2; have hfz8_3 := blk_frozen BK463.out 3))
     go_ret
     exact ⟨βsa, βR⟩
   · rw [if_neg c6] at H
     have c6b0 : (a0_0 == 2) = false := beq_eq_false_iff_ne.mpr c6
     have c6b1 : (a0_0 != 2) = true := bne_iff_ne.mpr c6
     by_cases c9 : a0_0 = 3
     · rw [if_pos c9] at H
       have c9b0 : (a0_0 == 3) = true := beq_iff_eq.mpr c9
       have c9b1 : (a0_0 != 3) = false := bne_eq_false_iff_eq.mpr c9
       clear c9
       obtain rfl := Option.some.inj H
       go_enter Tryd.func51, Tryd.ntmps51
       go_wp2_with (first | ((with_reducible refine gate_dst (N := 2) rfl ?_); refine box_event ?hg (N := 2) ?hd (cs := #[.int .i64 a0_0, .int .i64 a0_1, .int .i64 a0_2, .string a0_3]) (t := 42) ?hr ?_; (case hd => exact (by rfl)); (case hg => exact (by rfl)); (case hr => exact βAa); intro gb463 hg w10 hbox hb; have n0_ := zA_ (below_step (zh_ HB.out) hb); have n1_ := zA_ (hbox); have n2_ := zA_ ((by rw [hg]; exact (below_size (zh_ HB.out)) : w.heap.size ≤ gb463)); have n3_ := zA_ ((by rw [hg]; exact (below_size (zh_ HB.out)) : w.heap.size ≤ gb463)); clear HB; have HB := n0_; have BK463 := n1_; have GW463 := n2_; have GE463 := n3_; clear n0_ n1_ n2_ n3_; clear hb hbox hg; have hcz11_0 := cz_ BK463.out 0 (.int .i64 a0_0) rfl; have hcz11_1 := cz_ BK463.out 1 (.int .i64 a0_1) rfl; have hcz11_2 := cz_ BK463.out 2 (.int .i64 a0_2) rfl; have hcz11_3 := cz_ BK463.out 3 (.string a0_3) rfl; have hfz11_0 := blk_frozen BK463.out 0; have hfz11_1 := blk_frozen BK463.out 1; have hfz11_2 := blk_frozen BK463.out 2; have hfz11_3 := blk_frozen BK463.out 3))
       go_ret
       exact ⟨βsa, βR⟩
     · rw [if_neg c9] at H
       have c9b0 : (a0_0 == 3) = false := beq_eq_false_iff_ne.mpr c9
       have c9b1 : (a0_0 != 3) = true := bne_iff_ne.mpr c9
       replace H := Option.bind_eq_some_iff.mp H
       obtain ⟨t464, A120, H⟩ := H
       replace H : (some t464) = some r := H
       have A12 := zA_ A120
       clear A120
       obtain rfl := Option.some.inj H
       go_enter Tryd.func51, Tryd.ntmps51
       go_wp2_with (first | ((with_reducible refine gate_dst (N := 2) rfl ?_); refine box_event ?hg (N := 2) ?hd (cs := #[.int .i64 a0_0, .int .i64 a0_1, .int .i64 a0_2, .string a0_3]) (t := 42) ?hr ?_; (case hd => exact (by rfl)); (case hg => exact (by rfl)); (case hr => exact βAa); intro gb463 hg w13 hbox hb; have n0_ := zA_ (below_step (zh_ HB.out) hb); have n1_ := zA_ (hbox); have n2_ := zA_ ((by rw [hg]; exact (below_size (zh_ HB.out)) : w.heap.size ≤ gb463)); have n3_ := zA_ ((by rw [hg]; exact (below_size (zh_ HB.out)) : w.heap.size ≤ gb463)); clear HB; have HB := n0_; have BK463 := n1_; have GW463 := n2_; have GE463 := n3_; clear n0_ n1_ n2_ n3_; clear hb hbox hg; have hcz14_0 := cz_ BK463.out 0 (.int .i64 a0_0) rfl; have hcz14_1 := cz_ BK463.out 1 (.int .i64 a0_1) rfl; have hcz14_2 := cz_ BK463.out 2 (.int .i64 a0_2) rfl; have hcz14_3 := cz_ BK463.out 3 (.string a0_3) rfl; have hfz14_0 := blk_frozen BK463.out 0; have hfz14_1 := blk_frozen BK463.out 1; have hfz14_2 := blk_frozen BK463.out 2; have hfz14_3 := blk_frozen BK463.out 3) | ((with_reducible refine gate_callee (f := 49) rfl ?_); refine goesL_ (some 19) rfl rfl Tryd.func49 βDa rfl #[.string a1, .string a0_3] rfl zs_ ?_; (with_reducible refine (impl_xored.calls a1 a0_3 t464 _ A12.out).mono ?_); rintro e w15 ⟨rfl, hb⟩; refine ⟨_, rfl, ?_⟩; have n0_ := zA_ (blk_below (g := gb463) (o := .cells #[.int .i64 a0_0, .int .i64 a0_1, .int .i64 a0_2, .string a0_3] 42 (0, 0)) (zb_ BK463.out) hb); have n1_ := zA_ (below_step (zg1_ HB.out GE463.out) hb); clear BK463 HB; have BK463 := n0_; have HB := n1_; clear n0_ n1_; (try clear hb); (try clear hb2); (try clear hk); (try clear hi)))
       go_ret
       exact ⟨βsa, βR⟩
end Go.Proofs.YtldhjbjbjoomcaaDoor.Q
namespace Go.Proofs.YtldhjbjbjoomcaaDoor.Pure
set_option linter.unusedVariables false
set_option linter.unusedSimpArgs false
open Go Go.RowKit Go.Proofs.YtldhjbjbjoomcaaDoor.Q Go.Proofs.YtldhjbjbjoomcaaDoorW.PrintWords Go.Proofs.YtldhjbjbjoomcaaDoorW.PrintLast Go.Proofs.YtldhjbjbjoomcaaDoorW.PrintMore
def badM (n : Int) (x : Stp) : Bool := !(stepM x.f0 x.f1 x.f2 x.f3 n)
def dups : List Stp → List Stp → Bool
  | _, [] => false
  | p, x :: r => (x.f0 != 5 && p.any (impl_touches.is x.f1)) || dups (p ++ [x]) r
def rise : Int → List Stp → Bool
  | _, [] => true
  | lb, x :: r => if x.f0 = 5 then decide (lb < x.f2) && rise x.f2 r else rise lb r
def formM (l : List Stp) (n : Int) : Bool := decide (1 ≤ n ∧ n ≤ 8) && decide ((l.length : Int) ≤ 20) && !(l.any (badM n))
def codeM (l : List Stp) (n : Int) : Int := if formM l n = true then (if dups [] l = true then 12 else if rise (-1) l = true then 0 else 8) else 1
theorem idx_before (p : Stp → Bool) (x : Stp) (r : List Stp) (hx : p x = true) : ∀ (a : List Stp) (i : Int), (idxFrom p (a ++ x :: r) i < i + a.length ↔ a.any p = true) := by
  intro a
  induction a with
  | nil => intro i; simp [idxFrom, hx]
  | cons y a ih =>
    intro i
    rw [List.cons_append, idxFrom, List.any_cons]
    by_cases h : p y = true
    · rw [if_pos h, h]; simp; omega
    · rw [if_neg h, Bool.eq_false_iff.2 h, Bool.false_or, ← ih (i + 1)]; simp only [List.length_cons]; omega
theorem scan_eq (r : List Stp) : ∀ (p : List Stp) (lb : Int) (up : Bool), impl_stepsCode.scan (p ++ r) r (p.length : Int) lb up = if dups p r = true then 12 else if (up && rise lb r) = true then 0 else 8 := by
  induction r with
  | nil => intro p lb up; simp [impl_stepsCode.scan, dups, rise]
  | cons x r ih =>
    intro p lb up
    have e : ((p.length : Int) + 1) = ((p ++ [x]).length : Int) := by simp
    have ea : p ++ x :: r = (p ++ [x]) ++ r := by simp
    rw [impl_stepsCode.scan, dups, rise]
    by_cases h : x.f0 = 5
    · rw [if_pos h, if_pos h, e, ea, ih, show (x.f0 != 5) = false from bne_eq_false_iff_eq.2 h, Bool.false_and, Bool.false_or, Bool.and_assoc]
    · rw [if_neg h, if_neg h, show (x.f0 != 5) = true from bne_iff_ne.2 h, Bool.true_and]
      have hx : impl_touches.is x.f1 x = true := by simp [impl_touches.is, h]
      have hb := idx_before (impl_touches.is x.f1) x r hx p 0
      rw [Int.zero_add] at hb
      by_cases g : idxFrom (impl_touches.is x.f1) (p ++ x :: r) 0 < (p.length : Int)
      · rw [if_pos g, hb.1 g, Bool.true_or, if_pos rfl]
      · rw [if_neg g, Bool.eq_false_iff.2 (fun h => g (hb.2 h)), Bool.false_or, e, ea, ih]
theorem implOk (n : Int) (hn : 1 ≤ n ∧ n ≤ 8) : ∀ l : List Stp, ∃ K, ∀ k, K ≤ k → ∀ x ∈ l, impl_stepsCode.ok k n x = some (stepM x.f0 x.f1 x.f2 x.f3 n) := by
  intro l
  induction l with
  | nil => exact ⟨0, fun k _ x hx => by cases hx⟩
  | cons a r ih =>
    obtain ⟨K1, h1⟩ := ih
    obtain ⟨K2, h2⟩ := implStep a.f0 a.f1 a.f2 a.f3 n hn
    refine ⟨max K1 K2, fun k hk x hx => ?_⟩
    rcases List.mem_cons.1 hx with rfl | hx
    · exact h2 k (by omega)
    · exact h1 k (by omega) x hx
theorem implCode (l : List Stp) (n : Int) (hl : l.length ≤ 9223372036854775807) : Ev (fun k => impl_stepsCode.f k l n) (codeM l n) := by
  have hscan := scan_eq l [] (-1) true
  rw [Bool.true_and, List.nil_append] at hscan
  by_cases h1 : 1 ≤ n ∧ n ≤ 8
  · obtain ⟨K, hK⟩ := implOk n h1 l
    refine ⟨K, fun k hk => ?_⟩
    have ok := hK k hk
    show impl_stepsCode.f k l n = _
    unfold impl_stepsCode.f
    rw [if_pos ⟨hl, fun _ _ x hx => by rw [ok x hx]; rfl⟩]
    have ef : impl_stepsCode.form k l n = formM l n := by
      unfold impl_stepsCode.form formM
      have ea : l.any (impl_stepsCode.bad k n) = l.any (badM n) := by
        rw [Bool.eq_iff_iff, List.any_eq_true, List.any_eq_true]
        constructor
        · rintro ⟨x, hx, hb⟩; exact ⟨x, hx, by unfold impl_stepsCode.bad at hb; rw [ok x hx] at hb; exact hb⟩
        · rintro ⟨x, hx, hb⟩; exact ⟨x, hx, by unfold impl_stepsCode.bad; rw [ok x hx]; exact hb⟩
      rw [ea]
    rw [ef]
    unfold codeM
    rw [← hscan]
    rfl
  · refine ⟨0, fun k _ => ?_⟩
    show impl_stepsCode.f k l n = _
    unfold impl_stepsCode.f
    rw [if_pos ⟨hl, fun h => absurd h h1⟩]
    have e1 : impl_stepsCode.form k l n = false := by unfold impl_stepsCode.form; rw [decide_eq_false h1, Bool.false_and, Bool.false_and]
    have e2 : formM l n = false := by unfold formM; rw [decide_eq_false h1, Bool.false_and, Bool.false_and]
    unfold codeM
    rw [e1, e2]
    rfl
theorem specRise (N : Nat) (hN : N ≤ 20) (r : List Stp) : ∀ (p : List Stp) (lb : Int), p.length + r.length = N → Ev (fun k => spec_StepsCode.l3 k (p ++ r) lb (p.length : Int)) (if rise lb r = true then 0 else 8) := by
  induction r with
  | nil => intro p lb h; exact Ev.step (f := fun _ => some 0) (fun k => by rw [spec_StepsCode.l3, if_neg (not_lt_end p)]) (by simpa [rise] using Ev.now _)
  | cons x r ih =>
    intro p lb h
    simp only [List.length_cons] at h
    have ih' := fun lb => ih (p ++ [x]) lb (by simp; omega)
    rw [← snoc_app, lenS_snoc] at ih'
    refine Ev.step (fun k => by rw [spec_StepsCode.l3, if_pos (lt_mid p x r), if_pos (by omega), rdSt_mid, next64 (by omega)]) ?_
    rw [rise]
    by_cases g : x.f0 = 5
    · simp only [if_pos g]
      by_cases g2 : x.f2 ≤ lb
      · simp only [if_pos g2, decide_eq_false (show ¬ lb < x.f2 by omega), Bool.false_and]
        exact Ev.now _
      · simp only [if_neg g2, decide_eq_true (show lb < x.f2 by omega), Bool.true_and]
        exact ih' x.f2
    · simp only [if_neg g]
      exact ih' lb
theorem specTwice (N : Nat) (hN : N ≤ 20) (x : Stp) (r : List Stp) (L : List Stp) (R : Int) (q2 : List Stp) : ∀ (q1 : List Stp), (q1 ++ q2).length ≤ 20 → L = (q1 ++ q2) ++ x :: r →
    Ev (fun k => spec_StepsCode.l1 k L (((q1 ++ q2).length : Int) + 1)) R →
    Ev (fun k => spec_StepsCode.l2 k L ((q1 ++ q2).length : Int) (q1.length : Int)) (if (x.f0 != 5 && q2.any (impl_touches.is x.f1)) = true then 12 else R) := by
  induction q2 with
  | nil =>
    intro q1 h hL hR
    rw [List.append_nil] at h hL hR ⊢
    refine Ev.step (f := fun k => spec_StepsCode.l1 k L ((q1.length : Int) + 1)) (fun k => by rw [spec_StepsCode.l2, if_neg (by omega), wrap64_id (n := (q1.length : Int) + 1) (by omega) (by omega)]) ?_
    simpa using hR
  | cons y q2 ih =>
    intro q1 h hL hR
    have ea : q1 ++ y :: q2 = (q1 ++ [y]) ++ q2 := by simp
    have hlen : (q1 ++ y :: q2).length = q1.length + 1 + q2.length := by simp; omega
    have hy : rd_T42 L (q1.length : Int) = y := by rw [hL, List.append_assoc, List.cons_append]; exact rdSt_mid _ _ _
    have hxx : rd_T42 L ((q1 ++ y :: q2).length : Int) = x := by rw [hL]; exact rdSt_mid _ _ _
    have hLl : ((q1 ++ y :: q2).length : Int) < (L.length : Int) := by rw [hL]; exact lt_mid _ _ _
    have ih' := ih (q1 ++ [y]) (by rw [← ea]; exact h) (by rw [← ea]; exact hL) (by rw [← ea]; exact hR)
    rw [← ea, lenS_snoc] at ih'
    refine Ev.step (fun k => by rw [spec_StepsCode.l2, if_pos (by omega), if_pos (by omega), if_pos hLl, if_pos (show (0 : Int) ≤ (q1.length : Int) by omega), if_pos (show (q1.length : Int) < (L.length : Int) by omega), hy, hxx, next64 (by omega)]) ?_
    rw [List.any_cons]
    by_cases g : x.f0 = 5
    · simp only [if_pos g]
      rw [show (x.f0 != 5) = false from bne_eq_false_iff_eq.2 g, Bool.false_and] at ih' ⊢
      exact ih'
    · simp only [if_neg g]
      rw [show (x.f0 != 5) = true from bne_iff_ne.2 g, Bool.true_and] at ih' ⊢
      by_cases g2 : y.f0 = 5
      · simp only [if_pos g2]
        rw [show impl_touches.is x.f1 y = false by simp [impl_touches.is, g2], Bool.false_or]
        exact ih'
      · simp only [if_neg g2]
        by_cases g3 : x.f1 = y.f1
        · simp only [if_pos g3]
          rw [show impl_touches.is x.f1 y = true by simp [impl_touches.is, g2, g3], Bool.true_or, if_pos rfl]
          exact Ev.now _
        · simp only [if_neg g3]
          rw [show impl_touches.is x.f1 y = false by simp [impl_touches.is, g2]; exact fun h => g3 h.symm, Bool.false_or]
          exact ih'
theorem specDups (R : Int) (L : List Stp) (hL : L.length ≤ 20) (hR : Ev (fun k => spec_StepsCode.l3 k L (-1) 0) R) (r : List Stp) : ∀ (p : List Stp), L = p ++ r → Ev (fun k => spec_StepsCode.l1 k L (p.length : Int)) (if dups p r = true then 12 else R) := by
  induction r with
  | nil =>
    intro p h
    subst h
    refine Ev.step (fun k => by rw [spec_StepsCode.l1, if_neg (not_lt_end p)]) ?_
    simpa [dups] using hR
  | cons x r ih =>
    intro p h
    have hl : p.length + 1 + r.length ≤ 20 := by rw [h] at hL; simp at hL; omega
    have hlt : (p.length : Int) < (L.length : Int) := by rw [h]; exact lt_mid p x r
    refine Ev.step (fun k => by rw [spec_StepsCode.l1, if_pos hlt]) ?_
    have ih' := ih (p ++ [x]) (by rw [h]; simp)
    rw [lenS_snoc] at ih'
    have := specTwice p.length (by omega) x r L _ p [] (by simp; omega) (by simpa using h) (by simpa using ih')
    rw [List.nil_append] at this
    rw [dups]
    have e : (if (x.f0 != 5 && p.any (impl_touches.is x.f1) || dups (p ++ [x]) r) = true then (12 : Int) else R) = if (x.f0 != 5 && p.any (impl_touches.is x.f1)) = true then 12 else if dups (p ++ [x]) r = true then 12 else R := by
      cases (x.f0 != 5 && p.any (impl_touches.is x.f1)) <;> simp
    rw [e]
    exact this
theorem specForm (n : Int) (hn : 1 ≤ n ∧ n ≤ 8) (R : Int) (L : List Stp) (hL : L.length ≤ 20) (hR : Ev (fun k => spec_StepsCode.l1 k L 0) R) (r : List Stp) : ∀ (p : List Stp), L = p ++ r → Ev (fun k => spec_StepsCode.l0 k L n (p.length : Int)) (if r.any (badM n) = true then 1 else R) := by
  induction r with
  | nil =>
    intro p h
    subst h
    refine Ev.step (fun k => by rw [spec_StepsCode.l0, if_neg (not_lt_end p)]) ?_
    simpa using hR
  | cons x r ih =>
    intro p h
    have hl : p.length + 1 + r.length ≤ 20 := by rw [h] at hL; simp at hL; omega
    have hlt : (p.length : Int) < (L.length : Int) := by rw [h]; exact lt_mid p x r
    have hx : rd_T42 L (p.length : Int) = x := by rw [h]; exact rdSt_mid _ _ _
    refine Ev.step (fun k => by rw [spec_StepsCode.l0, if_pos hlt, if_pos (by omega), hx, next64 (by omega), specStep _ _ _ _ n hn]) ?_
    simp only [Option.bind_some]
    rw [List.any_cons]
    by_cases g : stepM x.f0 x.f1 x.f2 x.f3 n = true
    · simp only [if_pos g]
      rw [show badM n x = false by simp [badM, g], Bool.false_or]
      have ih' := ih (p ++ [x]) (by rw [h]; simp)
      rw [lenS_snoc] at ih'
      exact ih'
    · simp only [if_neg g]
      rw [show badM n x = true by simp [badM, g], Bool.true_or, if_pos rfl]
      exact Ev.now _
theorem specCode (l : List Stp) (n : Int) : Ev (fun k => spec_StepsCode.f k l n) (codeM l n) := by
  unfold spec_StepsCode.f codeM
  by_cases h2 : (l.length : Int) > 20
  · simp only [if_pos h2]
    rw [show formM l n = false by unfold formM; rw [decide_eq_false (show ¬ (l.length : Int) ≤ 20 by omega), Bool.and_false, Bool.false_and]]
    exact Ev.step (f := fun _ => some 1) (fun k => by rw [spec_StepsCode.j0, if_pos rfl]) (Ev.now _)
  · simp only [if_neg h2, l03Is_eq, Option.bind_some]
    by_cases h1 : 1 ≤ n ∧ n ≤ 8
    · rw [decide_eq_true h1]
      refine Ev.step (fun k => by rw [spec_StepsCode.j0, if_neg (by decide)]) ?_
      have h3 := specRise l.length (by omega) l [] (-1) (by simp)
      have h4 := specDups _ l (by omega) h3 l [] (by simp)
      have h5 := specForm n h1 _ l (by omega) h4 l [] (by simp)
      unfold formM
      rw [decide_eq_true h1, decide_eq_true (show (l.length : Int) ≤ 20 by omega), Bool.true_and, Bool.true_and]
      cases hb : l.any (badM n)
      · rw [hb] at h5; exact h5
      · rw [hb] at h5; exact h5
    · rw [decide_eq_false h1]
      rw [show formM l n = false by unfold formM; rw [decide_eq_false h1, Bool.false_and, Bool.false_and]]
      exact Ev.step (f := fun _ => some 1) (fun k => by rw [spec_StepsCode.j0, if_pos (show (!false) = true from rfl)]) (Ev.now _)
end Go.Proofs.YtldhjbjbjoomcaaDoor.Pure
