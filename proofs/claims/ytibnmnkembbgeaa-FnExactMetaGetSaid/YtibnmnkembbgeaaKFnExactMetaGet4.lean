/- For each Go function that the laws of this text reach: a Lean function, and the proof that the Go function returns what the Lean function tells, wherever it tells some value. Written by a program of this session. -/
import Derived.Test.YtibnmnkembbgeaaKFnExactMetaGet0
import Derived.Test.YtibnmnkembbgeaaKFnExactMetaGet3
namespace Go.Proofs.Ytibnmnkembbgeaa.Q
open Go.RowKit Go.Proofs.YtibnmnkembbgeaaW.PrintWords Go.Proofs.YtibnmnkembbgeaaW.PrintLast Go.Proofs.YtibnmnkembbgeaaW.PrintMore
attribute [local go_sem] max2_int min2_int max_two min_two max_three min_three max_four min_four Instr.field asAgg   -- for this text's walks alone
set_option linter.unusedVariables false
set_option linter.unusedSimpArgs false
/-! ### impl_getNum: function 146 -/
mutual
def impl_getNum.l0 : Nat → ByteArray → Int → Int → Int → Option (Int × Int × Int)
 | 0, _, _, _, _ => none
 | k + 1, x0, x1, x7, x8 => if x1 ≥ (wrap64 ((x0.size : Int) - x8)) then (some (0, 0, 4)) else (if 0 ≤ (wrap64 (x1 + x8)) then (if (wrap64 (x1 + x8)) < (x0.size : Int) then (if x8 = 9 then (impl_getNum.j1 k x0 x1 x7 x8 (bt x0 (wrap64 (x1 + x8))) (decide ((bt x0 (wrap64 (x1 + x8))) > 1))) else (impl_getNum.j1 k x0 x1 x7 x8 (bt x0 (wrap64 (x1 + x8))) false)) else (none)) else (none))
def impl_getNum.j1 : Nat → ByteArray → Int → Int → Int → Int → Bool → Option (Int × Int × Int)
 | 0, _, _, _, _, _, _ => none
 | k + 1, x0, x1, x7, x8, x9, x31 => if x31 = true then (some (0, 0, 3)) else (if 0 ≤ (wrap64 (7 * x8)) then (if x9 > 127 then (impl_getNum.l0 k x0 x1 (Go.bits .or .u64 x7 (shl .u64 (IntKind.u64.wrap (Go.bits .and .u8 x9 127)) (wrap64 (7 * x8)))) (wrap64 (x8 + 1))) else (if x9 = 0 then (impl_getNum.j2 k x1 (Go.bits .or .u64 x7 (shl .u64 (IntKind.u64.wrap (Go.bits .and .u8 x9 127)) (wrap64 (7 * x8)))) x8 (decide (x8 > 0))) else (impl_getNum.j2 k x1 (Go.bits .or .u64 x7 (shl .u64 (IntKind.u64.wrap (Go.bits .and .u8 x9 127)) (wrap64 (7 * x8)))) x8 false))) else (none))
def impl_getNum.j2 : Nat → Int → Int → Int → Bool → Option (Int × Int × Int)
 | 0, _, _, _, _ => none
 | k + 1, x1, x7, x8, x47 => if x47 = true then (some (0, 0, 3)) else (if (Go.bits .and .u64 x7 1) = 1 then (some (Go.bits .xor .i64 (-1) (wrap64 (x7 / 2)), wrap64 ((wrap64 (x1 + x8)) + 1), 0)) else (some (wrap64 (x7 / 2), wrap64 ((wrap64 (x1 + x8)) + 1), 0)))
end
def impl_getNum.f (k : Nat) (a0 : ByteArray) (a1 : Int) : Option (Int × Int × Int) := if a1 < 0 then (some (0, 0, 1)) else (impl_getNum.l0 k a0 a1 0 0)
theorem impl_getNum.mono_l : ∀ k, (∀ y0 y1 y2 y3, LeO (impl_getNum.l0 k y0 y1 y2 y3) (impl_getNum.l0 (k + 1) y0 y1 y2 y3)) ∧ (∀ y0 y1 y2 y3 y4 y5, LeO (impl_getNum.j1 k y0 y1 y2 y3 y4 y5) (impl_getNum.j1 (k + 1) y0 y1 y2 y3 y4 y5)) ∧ (∀ y0 y1 y2 y3, LeO (impl_getNum.j2 k y0 y1 y2 y3) (impl_getNum.j2 (k + 1) y0 y1 y2 y3))
 | 0 => ⟨fun _ _ _ _ r h => by simp [impl_getNum.l0] at h, fun _ _ _ _ _ _ r h => by simp [impl_getNum.j1] at h, fun _ _ _ _ r h => by simp [impl_getNum.j2] at h⟩
 | k + 1 => by
  obtain ⟨ih0, ih1, ih2⟩ := impl_getNum.mono_l k
  refine ⟨?_, ?_, ?_⟩
  ·
   intro y0 y1 y2 y3
   unfold impl_getNum.l0
   repeat' first
   | (with_reducible exact ih0 _ _ _ _)
   | (with_reducible exact ih1 _ _ _ _ _ _)
   | (with_reducible exact ih2 _ _ _ _)
   | (with_reducible exact LeO.refl _)
   | (with_reducible exact LeO.none _)
   | (with_reducible refine LeO.ite ?_ ?_)
   | (with_reducible refine LeO.bind ?_ (fun _ => ?_))
   | exact ih0 _ _ _ _
   | exact ih1 _ _ _ _ _ _
   | exact ih2 _ _ _ _
   | exact LeO.none _
   | refine LeO.ite ?_ ?_
   | refine LeO.bind ?_ (fun _ => ?_)
  ·
   intro y0 y1 y2 y3 y4 y5
   unfold impl_getNum.j1
   repeat' first
   | (with_reducible exact ih0 _ _ _ _)
   | (with_reducible exact ih1 _ _ _ _ _ _)
   | (with_reducible exact ih2 _ _ _ _)
   | (with_reducible exact LeO.refl _)
   | (with_reducible exact LeO.none _)
   | (with_reducible refine LeO.ite ?_ ?_)
   | (with_reducible refine LeO.bind ?_ (fun _ => ?_))
   | exact ih0 _ _ _ _
   | exact ih1 _ _ _ _ _ _
   | exact ih2 _ _ _ _
   | exact LeO.none _
   | refine LeO.ite ?_ ?_
   | refine LeO.bind ?_ (fun _ => ?_)
  ·
   intro y0 y1 y2 y3
   unfold impl_getNum.j2
   repeat' first
   | (with_reducible exact ih0 _ _ _ _)
   | (with_reducible exact ih1 _ _ _ _ _ _)
   | (with_reducible exact ih2 _ _ _ _)
   | (with_reducible exact LeO.refl _)
   | (with_reducible exact LeO.none _)
   | (with_reducible refine LeO.ite ?_ ?_)
   | (with_reducible refine LeO.bind ?_ (fun _ => ?_))
   | exact ih0 _ _ _ _
   | exact ih1 _ _ _ _ _ _
   | exact ih2 _ _ _ _
   | exact LeO.none _
   | refine LeO.ite ?_ ?_
   | refine LeO.bind ?_ (fun _ => ?_)
theorem impl_getNum.mono : ∀ a0 a1 k, LeO (impl_getNum.f k a0 a1) (impl_getNum.f (k + 1) a0 a1) := by
 intro a0 a1 k
 obtain ⟨ih0, ih1, ih2⟩ := impl_getNum.mono_l k
 unfold impl_getNum.f
 repeat' first
   | (with_reducible exact ih0 _ _ _ _)
   | (with_reducible exact ih1 _ _ _ _ _ _)
   | (with_reducible exact ih2 _ _ _ _)
   | (with_reducible exact LeO.refl _)
   | (with_reducible exact LeO.none _)
   | (with_reducible refine LeO.ite ?_ ?_)
   | (with_reducible refine LeO.bind ?_ (fun _ => ?_))
   | exact ih0 _ _ _ _
   | exact ih1 _ _ _ _ _ _
   | exact ih2 _ _ _ _
   | exact LeO.none _
   | refine LeO.ite ?_ ?_
   | refine LeO.bind ?_ (fun _ => ?_)
set_option maxHeartbeats 8000000 in
set_option maxRecDepth 100000 in
theorem impl_getNum.calls (k : Nat) (a0 : ByteArray) (a1 : Int) (r1 : Int) (r2 : Int) (r3 : Int) (w : World) (h : impl_getNum.f k a0 a1 = some (r1, r2, r3)) :
  Calls Try.prog 146 #[.string a0, .int .i64 a1] w fun e w' => e = .returned (.tuple #[.int .i64 r1, .int .i64 r2, .int .i64 r3]) ∧ Drawn0 w w' := by
 have H : (if a1 < 0 then (some (0, 0, 1)) else (impl_getNum.l0 k a0 a1 0 0)) = some (r1, r2, r3) := h
 clear h
 by_cases c3 : a1 < 0
 ·
  rw [if_pos c3] at H
  have c3b0 : decide (a1 < 0) = true := decide_eq_true c3
  clear c3
  simp only [Option.some.injEq, Prod.mk.injEq] at H
  obtain ⟨rfl, rfl, rfl⟩ := H
  go_enter Try.func146, Try.ntmps146
  go_wp2
  go_ret3
  exact ⟨by first | rfl | (simp; done) | (simp [*]; done), by repeat (first | exact Drawn0.refl _ | apply Drawn0.step)⟩
 ·
  rw [if_neg c3] at H
  have c3b0 : decide (a1 < 0) = false := decide_eq_false c3
  clear c3
  have H' := zA_ H
  clear H
  go_enter Try.func146, Try.ntmps146
  go_wp2
  go_loopg [7, 8] k (fun kq v7 v8 w' => ∃ (x7_1 : Int) (x8_1 : Int), v7 = .int .u64 x7_1 ∧ v8 = .int .i64 x8_1 ∧ Aside0 (impl_getNum.l0 kq a0 a1 x7_1 x8_1 = some (r1, r2, r3)) ∧ Aside0 (kq ≤ k) ∧ Drawn0 w w')
  case atStart => exact ⟨(0), (0), (by first | rfl | (simp; done) | (simp [*]; done)), (by first | rfl | (simp; done) | (simp [*]; done)), H', ⟨Nat.le_refl _⟩, by repeat (first | exact Drawn0.refl _ | apply Drawn0.step)⟩
  case round =>
   clear H'
   try clear c1
   try clear p2
   try clear c3
   try clear c3b0
   obtain ⟨x7_1, x8_1, rfl, rfl, HA, HK1, ⟨m1, rfl⟩⟩ := hrel
   cases gk with
   | zero => exact absurd HA.out (by simp [impl_getNum.l0])
   | succ k1 =>
    have H := HA.out
    clear HA
    simp only [impl_getNum.l0] at H
    by_cases c4 : a1 ≥ (wrap64 ((a0.size : Int) - x8_1))
    ·
     rw [if_pos c4] at H
     have c4b0 : decide ((wrap64 ((a0.size : Int) - x8_1)) ≤ a1) = true := decide_eq_true c4
     clear c4
     simp only [Option.some.injEq, Prod.mk.injEq] at H
     obtain ⟨rfl, rfl, rfl⟩ := H
     go_wp2
     go_ret3
     exact ⟨by first | rfl | (simp; done) | (simp [*]; done), by repeat (first | exact Drawn0.refl _ | apply Drawn0.step)⟩
    ·
     rw [if_neg c4] at H
     have c4b0 : decide ((wrap64 ((a0.size : Int) - x8_1)) ≤ a1) = false := decide_eq_false c4
     clear c4
     obtain ⟨ji5, hji5⟩ : ∃ j_ : Int, (wrap64 (a1 + x8_1)) = j_ := ⟨_, rfl⟩
     replace H : (if 0 ≤ (ji5) then (if (ji5) < (a0.size : Int) then (if x8_1 = 9 then (impl_getNum.j1 k1 a0 a1 x7_1 x8_1 (bt a0 (ji5)) (decide ((bt a0 (ji5)) > 1))) else (impl_getNum.j1 k1 a0 a1 x7_1 x8_1 (bt a0 (ji5)) false)) else (none)) else (none)) = some (r1, r2, r3) := by first | (rw [hji5] at H; exact H) | (simp only [hji5] at H ⊢; exact H)
     have hji5w : (IntKind.i64.wrap (a1 + x8_1)) = ji5 := (i64_w _).trans hji5
     by_cases c6 : 0 ≤ (ji5)
     ·
      rw [if_pos c6] at H
      have c6b0 : decide (0 ≤ (ji5)) = true := decide_eq_true c6
      clear c6
      by_cases c7 : (ji5) < (a0.size : Int)
      ·
       rw [if_pos c7] at H
       have c7b0 : decide ((ji5) < (a0.size : Int)) = true := decide_eq_true c7
       clear c7
       have HC9 := zA_ H
       clear H
       have p8 : 0 ≤ ((ji5) : Int) := of_decide_eq_true (by first | (with_reducible assumption) | assumption)
       have q8 : (ji5) < (a0.size : Int) := of_decide_eq_true (by first | (with_reducible assumption) | assumption)
       have hx8 := bt_at a0 (ji5)
       replace p8 := eq_true p8
       replace q8 := eq_true q8
       go_upto_region 9 with (fail)
       go_cut [31] (fun v31 wc => ∃ (kq : Nat) (x31_8 : Bool), v31 = .bool x31_8 ∧ Aside0 (impl_getNum.j1 kq a0 a1 x7_1 x8_1 (bt a0 (ji5)) x31_8 = some (r1, r2, r3)) ∧ Aside0 (kq ≤ k1) ∧ Drawn0 w wc)
       case first =>
        have H := HC9.out
        clear HC9
        by_cases c10 : x8_1 = 9
        ·
         rw [if_pos c10] at H
         have c10b0 : (x8_1 == 9) = true := beq_iff_eq.mpr c10
         have c10b1 : (x8_1 != 9) = false := bne_eq_false_iff_eq.mpr c10
         clear c10
         (first | rw [c10b0] | (simp only [i64_w, i32_w]; rw [c10b0]) | skip)
         have H' := zA_ H
         clear H
         go_wp2
         go_meet
         case rel => exact ⟨_, (decide ((bt a0 (ji5)) > 1)), (by first | rfl | (simp; done) | (simp only [← hji5] <;> (first | rfl | simp)) | (simp [*]; done)), H', ⟨by have := HK1.out; first | omega | exact Nat.le_refl _⟩, by repeat (first | exact Drawn0.refl _ | apply Drawn0.step)⟩
        ·
         rw [if_neg c10] at H
         have c10b0 : (x8_1 == 9) = false := beq_eq_false_iff_ne.mpr c10
         have c10b1 : (x8_1 != 9) = true := bne_iff_ne.mpr c10
         (first | rw [c10b0] | (simp only [i64_w, i32_w]; rw [c10b0]) | skip)
         have H' := zA_ H
         clear H
         go_wp2
         go_meet
         case rel => exact ⟨_, (false), (by first | rfl | (simp; done) | (simp [*]; done)), H', ⟨by have := HK1.out; first | omega | exact Nat.le_refl _⟩, by repeat (first | exact Drawn0.refl _ | apply Drawn0.step)⟩
       case rest =>
        clear HC9
        try clear c1
        try clear p2
        try clear c3
        try clear c3b0
        try clear c4
        try clear c4b0
        try clear c6
        try clear c6b0
        try clear p6
        try clear c7
        try clear c7b0
        try clear p8
        try clear q8
        try clear hx8
        try clear c10
        try clear c10b0
        try clear c10b1
        try clear p2
        try clear p8
        try clear q8
        obtain ⟨kq, x31_8, rfl, HA, HJ8, ⟨mc8, rfl⟩⟩ := hcut
        cases kq with
        | zero => exact absurd HA.out (by simp [impl_getNum.j1])
        | succ kj8 =>
         have H := HA.out
         clear HA
         simp only [impl_getNum.j1] at H
         by_cases c11 : x31_8 = true
         ·
          subst c11
          have H1 : (some (0, 0, 3)) = some (r1, r2, r3) := by rw [if_pos rfl] at H; exact H
          clear H
          have H := H1
          clear H1
          simp only [Option.some.injEq, Prod.mk.injEq] at H
          obtain ⟨rfl, rfl, rfl⟩ := H
          go_wp2
          go_ret3
          exact ⟨by first | rfl | (simp; done) | (simp only [← hji5] <;> (first | rfl | simp)) | (simp [*]; done), by repeat (first | exact Drawn0.refl _ | apply Drawn0.step)⟩
         ·
          replace c11 := Bool.eq_false_iff.mpr c11
          subst c11
          have H1 : (if 0 ≤ (wrap64 (7 * x8_1)) then (if (bt a0 (ji5)) > 127 then (impl_getNum.l0 kj8 a0 a1 (Go.bits .or .u64 x7_1 (shl .u64 (IntKind.u64.wrap (Go.bits .and .u8 (bt a0 (ji5)) 127)) (wrap64 (7 * x8_1)))) (wrap64 (x8_1 + 1))) else (if (bt a0 (ji5)) = 0 then (impl_getNum.j2 kj8 a1 (Go.bits .or .u64 x7_1 (shl .u64 (IntKind.u64.wrap (Go.bits .and .u8 (bt a0 (ji5)) 127)) (wrap64 (7 * x8_1)))) x8_1 (decide (x8_1 > 0))) else (impl_getNum.j2 kj8 a1 (Go.bits .or .u64 x7_1 (shl .u64 (IntKind.u64.wrap (Go.bits .and .u8 (bt a0 (ji5)) 127)) (wrap64 (7 * x8_1)))) x8_1 false))) else (none)) = some (r1, r2, r3) := by rw [if_neg (show ¬ (false = true) by decide)] at H; exact H
          clear H
          have H := H1
          clear H1
          obtain ⟨ji12, hji12⟩ : ∃ j_ : Int, (wrap64 (7 * x8_1)) = j_ := ⟨_, rfl⟩
          replace H : (if 0 ≤ (ji12) then (if (bt a0 (ji5)) > 127 then (impl_getNum.l0 kj8 a0 a1 (Go.bits .or .u64 x7_1 (shl .u64 (IntKind.u64.wrap (Go.bits .and .u8 (bt a0 (ji5)) 127)) (ji12))) (wrap64 (x8_1 + 1))) else (if (bt a0 (ji5)) = 0 then (impl_getNum.j2 kj8 a1 (Go.bits .or .u64 x7_1 (shl .u64 (IntKind.u64.wrap (Go.bits .and .u8 (bt a0 (ji5)) 127)) (ji12))) x8_1 (decide (x8_1 > 0))) else (impl_getNum.j2 kj8 a1 (Go.bits .or .u64 x7_1 (shl .u64 (IntKind.u64.wrap (Go.bits .and .u8 (bt a0 (ji5)) 127)) (ji12))) x8_1 false))) else (none)) = some (r1, r2, r3) := by first | (rw [hji12] at H; exact H) | (simp only [hji12] at H ⊢; exact H)
          have hji12w : (IntKind.i64.wrap (7 * x8_1)) = ji12 := (i64_w _).trans hji12
          by_cases c13 : 0 ≤ (ji12)
          ·
           rw [if_pos c13] at H
           have c13b0 := eq_true c13
           have c13b1 : decide (0 ≤ (ji12)) = true := decide_eq_true c13
           clear c13
           obtain ⟨ji14, hji14⟩ : ∃ j_ : Int, (shl .u64 (IntKind.u64.wrap (Go.bits .and .u8 (bt a0 (ji5)) 127)) (ji12)) = j_ := ⟨_, rfl⟩
           replace H : (if (bt a0 (ji5)) > 127 then (impl_getNum.l0 kj8 a0 a1 (Go.bits .or .u64 x7_1 (ji14)) (wrap64 (x8_1 + 1))) else (if (bt a0 (ji5)) = 0 then (impl_getNum.j2 kj8 a1 (Go.bits .or .u64 x7_1 (ji14)) x8_1 (decide (x8_1 > 0))) else (impl_getNum.j2 kj8 a1 (Go.bits .or .u64 x7_1 (ji14)) x8_1 false))) = some (r1, r2, r3) := by first | (rw [hji14] at H; exact H) | (simp only [hji14] at H ⊢; exact H)
           have hji14_ : (IntKind.u64.wrap ((IntKind.u64.wrap (Go.bits .and .u8 (bt a0 (ji5)) 127)) * 2 ^ min (ji12).toNat 64)) = ji14 := hji14
           have hji14z : (ji12) ≤ 64 → (IntKind.u64.wrap ((IntKind.u64.wrap (Go.bits .and .u8 (bt a0 (ji5)) 127)) * 2 ^ (ji12).toNat)) = ji14 := shl_small hji14
           by_cases c15 : (bt a0 (ji5)) > 127
           ·
            rw [if_pos c15] at H
            have c15b0 : decide (127 < (bt a0 (ji5))) = true := decide_eq_true c15
            clear c15
            have H' := zA_ H
            clear H
            go_wp2
            go_roundg kj8
            case measure => have := HK1.out; have := HJ8.out; omega
            case rel => exact ⟨(Go.bits .or .u64 x7_1 (ji14)), (wrap64 (x8_1 + 1)), (by first | rfl | (simp; done) | (simp only [← hji14] <;> (first | rfl | simp)) | (simp [*]; done)), (by first | rfl | (simp; done) | (simp [*]; done)), H', ⟨by have := HK1.out; have := HJ8.out; omega⟩, by repeat (first | exact Drawn0.refl _ | apply Drawn0.step)⟩
           ·
            rw [if_neg c15] at H
            have c15b0 : decide (127 < (bt a0 (ji5))) = false := decide_eq_false c15
            clear c15
            have HC16 := zA_ H
            clear H
            go_upto_region 13 with (fail)
            go_cut [47] (fun v47 wc => ∃ (kq : Nat) (x47_15 : Bool), v47 = .bool x47_15 ∧ Aside0 (impl_getNum.j2 kq a1 (Go.bits .or .u64 x7_1 (ji14)) x8_1 x47_15 = some (r1, r2, r3)) ∧ Aside0 (kq ≤ kj8) ∧ Drawn0 w wc)
            case first =>
             have H := HC16.out
             clear HC16
             by_cases c17 : (bt a0 (ji5)) = 0
             ·
              rw [if_pos c17] at H
              have c17b0 : ((bt a0 (ji5)) == 0) = true := beq_iff_eq.mpr c17
              have c17b1 : ((bt a0 (ji5)) != 0) = false := bne_eq_false_iff_eq.mpr c17
              clear c17
              (first | rw [c17b0] | (simp only [i64_w, i32_w]; rw [c17b0]) | skip)
              have H' := zA_ H
              clear H
              go_wp2
              go_meet
              case rel => exact ⟨_, (decide (x8_1 > 0)), (by first | rfl | (simp; done) | (simp [*]; done)), H', ⟨by have := HK1.out; have := HJ8.out; first | omega | exact Nat.le_refl _⟩, by repeat (first | exact Drawn0.refl _ | apply Drawn0.step)⟩
             ·
              rw [if_neg c17] at H
              have c17b0 : ((bt a0 (ji5)) == 0) = false := beq_eq_false_iff_ne.mpr c17
              have c17b1 : ((bt a0 (ji5)) != 0) = true := bne_iff_ne.mpr c17
              (first | rw [c17b0] | (simp only [i64_w, i32_w]; rw [c17b0]) | skip)
              have H' := zA_ H
              clear H
              go_wp2
              go_meet
              case rel => exact ⟨_, (false), (by first | rfl | (simp; done) | (simp [*]; done)), H', ⟨by have := HK1.out; have := HJ8.out; first | omega | exact Nat.le_refl _⟩, by repeat (first | exact Drawn0.refl _ | apply Drawn0.step)⟩
            case rest =>
             clear HC16
             try clear c1
             try clear p2
             try clear c3
             try clear c3b0
             try clear c4
             try clear c4b0
             try clear c6
             try clear c6b0
             try clear p6
             try clear c7
             try clear c7b0
             try clear c8
             try clear p8
             try clear q8
             try clear hx8
             try clear c10
             try clear c10b0
             try clear c10b1
             try clear c11
             try clear c13
             try clear c13b0
             try clear c13b1
             try clear c14
             try clear c15
             try clear c15b0
             try clear c17
             try clear c17b0
             try clear c17b1
             try clear p2
             try clear p6
             try clear p8
             try clear q8
             obtain ⟨kq, x47_15, rfl, HA, HJ15, ⟨mc15, rfl⟩⟩ := hcut
             cases kq with
             | zero => exact absurd HA.out (by simp [impl_getNum.j2])
             | succ kj15 =>
              have H := HA.out
              clear HA
              simp only [impl_getNum.j2] at H
              by_cases c18 : x47_15 = true
              ·
               subst c18
               have H1 : (some (0, 0, 3)) = some (r1, r2, r3) := by rw [if_pos rfl] at H; exact H
               clear H
               have H := H1
               clear H1
               simp only [Option.some.injEq, Prod.mk.injEq] at H
               obtain ⟨rfl, rfl, rfl⟩ := H
               go_wp2
               go_ret3
               exact ⟨by first | rfl | (simp; done) | (simp only [← hji5, ← hji12, ← hji14] <;> (first | rfl | simp)) | (simp [*]; done), by repeat (first | exact Drawn0.refl _ | apply Drawn0.step)⟩
              ·
               replace c18 := Bool.eq_false_iff.mpr c18
               subst c18
               have H1 : (if (Go.bits .and .u64 (Go.bits .or .u64 x7_1 (ji14)) 1) = 1 then (some (Go.bits .xor .i64 (-1) (wrap64 ((Go.bits .or .u64 x7_1 (ji14)) / 2)), wrap64 ((wrap64 (a1 + x8_1)) + 1), 0)) else (some (wrap64 ((Go.bits .or .u64 x7_1 (ji14)) / 2), wrap64 ((wrap64 (a1 + x8_1)) + 1), 0))) = some (r1, r2, r3) := by rw [if_neg (show ¬ (false = true) by decide)] at H; exact H
               clear H
               have H := H1
               clear H1
               by_cases c19 : (Go.bits .and .u64 (Go.bits .or .u64 x7_1 (ji14)) 1) = 1
               ·
                rw [if_pos c19] at H
                have c19b0 : ((Go.bits .and .u64 (Go.bits .or .u64 x7_1 (ji14)) 1) == 1) = true := beq_iff_eq.mpr c19
                have c19b1 : ((Go.bits .and .u64 (Go.bits .or .u64 x7_1 (ji14)) 1) != 1) = false := bne_eq_false_iff_eq.mpr c19
                clear c19
                simp only [Option.some.injEq, Prod.mk.injEq] at H
                obtain ⟨rfl, rfl, rfl⟩ := H
                go_wp2
                go_ret3
                exact ⟨by first | rfl | (simp; done) | (simp only [← hji5, ← hji12, ← hji14] <;> (first | rfl | simp)) | (simp [*]; done), by repeat (first | exact Drawn0.refl _ | apply Drawn0.step)⟩
               ·
                rw [if_neg c19] at H
                have c19b0 : ((Go.bits .and .u64 (Go.bits .or .u64 x7_1 (ji14)) 1) == 1) = false := beq_eq_false_iff_ne.mpr c19
                have c19b1 : ((Go.bits .and .u64 (Go.bits .or .u64 x7_1 (ji14)) 1) != 1) = true := bne_iff_ne.mpr c19
                simp only [Option.some.injEq, Prod.mk.injEq] at H
                obtain ⟨rfl, rfl, rfl⟩ := H
                go_wp2
                go_ret3
                exact ⟨by first | rfl | (simp; done) | (simp only [← hji5, ← hji12, ← hji14] <;> (first | rfl | simp)) | (simp [*]; done), by repeat (first | exact Drawn0.refl _ | apply Drawn0.step)⟩
          ·
           rw [if_neg c13] at H
           exact absurd H (by simp)
      ·
       rw [if_neg c7] at H
       exact absurd H (by simp)
     ·
      rw [if_neg c6] at H
      exact absurd H (by simp)

/-- A state of type 147 at block g of W; what its slices lead to came in by w0. -/
def IsS147 (w0 W : World) (g : Nat) (f0 : ByteArray) (f1 : Int) (f2 : Bool) : Prop := W.heap[g]? = some (.cells #[.string f0, .int .i64 f1, .bool f2] 147 (0, 0)) ∧ w0.heap.size ≤ g
theorem IsS147.grown {w0 W : World} {g : Nat} {f0 : ByteArray} {f1 : Int} {f2 : Bool} {W1 : World} {row : Option Nat} (h : IsS147 w0 W g f0 f1 f2) (hw : W.grownBy W1 row) (hne : some g ≠ row) : IsS147 w0 W1 g f0 f1 f2 := by
 obtain ⟨hb, hg⟩ := h
 exact ⟨blk_grown hb hw hne, hg⟩
theorem IsS147.own_neN {w0 W : World} {g : Nat} {f0 : ByteArray} {f1 : Int} {f2 : Bool} {α : Type} {d : Kd α} {e : Nat} {base : Nat} {ok : Nat → Prop} {v : Value} {xs : List α} (h : IsS147 w0 W g f0 f1 f2) (ho : Kd.N d e W base ok v xs) (ht : e ≠ 147) : some g ≠ v.ownBlock := by
 obtain ⟨hb, hg⟩ := h
 exact Kd.N_ne ho hb ht
theorem IsS147.fresh {w0 W : World} {g : Nat} {f0 : ByteArray} {f1 : Int} {f2 : Bool} (h : IsS147 w0 W g f0 f1 f2) : ∀ k, W.heap.size ≤ k → k ≠ g := by
 obtain ⟨hb, hg⟩ := h
 exact Kd.freshB hb
theorem IsS147.kept {w0 W : World} {g : Nat} {f0 : ByteArray} {f1 : Int} {f2 : Bool} {W1 : World} {S : Nat → Prop} (h : IsS147 w0 W g f0 f1 f2) (hk : Kept W W1 S) (hne : ¬ S g) : IsS147 w0 W1 g f0 f1 f2 := by
 obtain ⟨hb, hg⟩ := h
 exact ⟨blk_kept hb hk hne, hg⟩
theorem IsS147.below {w0 W : World} {g : Nat} {f0 : ByteArray} {f1 : Int} {f2 : Bool} {W1 : World} (h : IsS147 w0 W g f0 f1 f2) (hw : Below W.heap.size W W1) : IsS147 w0 W1 g f0 f1 f2 := h.grown (grown_of_below hw none) (by simp)
theorem IsS147.alloc {w0 W : World} {g : Nat} {f0 : ByteArray} {f1 : Int} {f2 : Bool} (h : IsS147 w0 W g f0 f1 f2) (o : Obj) : IsS147 w0 (W.alloc o) g f0 f1 f2 := h.below (below_alloc (Below.refl _ _) o)
theorem IsS147.drewN {w0 W : World} {g : Nat} {f0 : ByteArray} {f1 : Int} {f2 : Bool} (h : IsS147 w0 W g f0 f1 f2) (m : Nat) : IsS147 w0 (W.drewN m) g f0 f1 f2 := h
theorem IsS147.drew {w0 W : World} {g : Nat} {f0 : ByteArray} {f1 : Int} {f2 : Bool} (h : IsS147 w0 W g f0 f1 f2) : IsS147 w0 W.drew g f0 f1 f2 := h
theorem IsS147.at_ {w0 W : World} {g : Nat} {f0 : ByteArray} {f1 : Int} {f2 : Bool} {w' : World} {m : Nat} (hq : W.drewN m = w') (h : IsS147 w0 W g f0 f1 f2) : IsS147 w0 w' g f0 f1 f2 := by subst hq; exact IsS147.drewN h m
theorem IsS147.apart {w0 W : World} {g : Nat} {f0 : ByteArray} {f1 : Int} {f2 : Bool} {α : Type} {d : Kd α} {e : Nat} {base : Nat} {ok : Nat → Prop} {v : Value} {xs : List α} (h : IsS147 w0 W g f0 f1 f2) (ho : d.R e W base ok v xs) (ht : ∀ q, q ∈ e :: d.E → q ≠ 147) : d.R e W base (fun k => ok k ∧ k ≠ g) v xs := by
 obtain ⟨hb, hg⟩ := h
 exact Kd.R_types ho hb ht
theorem IsS147.own_ne {w0 W : World} {g : Nat} {f0 : ByteArray} {f1 : Int} {f2 : Bool} {α : Type} {d : Kd α} {e : Nat} {base : Nat} {ok : Nat → Prop} {v : Value} {xs : List α} (h : IsS147 w0 W g f0 f1 f2) (ho : d.R e W base ok v xs) (ht : e ≠ 147) : some g ≠ v.ownBlock := by
 obtain ⟨hb, hg⟩ := h
 exact Kd.R_ne ho hb ht
theorem IsS147.apartQ {w0 W : World} {g : Nat} {f0 : ByteArray} {f1 : Int} {f2 : Bool} {α : Type} {d : Kd α} {e : Nat} {base : Nat} {ok : Nat → Prop} {v : Value} {xs : List α} (h : IsS147 w0 W g f0 f1 f2) (ho : d.Q e W base ok v xs) (ht : ∀ q, q ∈ e :: d.E → q ≠ 147) : d.Q e W base (fun k => ok k ∧ k ≠ g) v xs := by
 obtain ⟨hb, hg⟩ := h
 exact Kd.Q_types ho hb ht
theorem IsS147.own_neQ {w0 W : World} {g : Nat} {f0 : ByteArray} {f1 : Int} {f2 : Bool} {α : Type} {d : Kd α} {e : Nat} {base : Nat} {ok : Nat → Prop} {v : Value} {xs : List α} (h : IsS147 w0 W g f0 f1 f2) (ho : d.Q e W base ok v xs) (ht : e ≠ 147) : some g ≠ v.ownBlock := by
 obtain ⟨hb, hg⟩ := h
 exact Kd.Q_ne ho hb ht
theorem IsS147.apartS {w0 W : World} {g : Nat} {f0 : ByteArray} {f1 : Int} {f2 : Bool} {α : Type} {d : Kd α} {e : Nat} {base : Nat} {ok : Nat → Prop} {v : Value} {xs : List α} (h : IsS147 w0 W g f0 f1 f2) (ho : d.S e W base ok v xs) (ht : ∀ q, q ∈ e :: d.E → q ≠ 147) : d.S e W base (fun k => ok k ∧ k ≠ g) v xs := by
 obtain ⟨hb, hg⟩ := h
 exact Kd.S_types ho hb ht
theorem IsS147.own_neS {w0 W : World} {g : Nat} {f0 : ByteArray} {f1 : Int} {f2 : Bool} {α : Type} {d : Kd α} {e : Nat} {base : Nat} {ok : Nat → Prop} {v : Value} {xs : List α} (h : IsS147 w0 W g f0 f1 f2) (ho : d.S e W base ok v xs) (ht : e ≠ 147) : some g ≠ v.ownBlock := by
 obtain ⟨hb, hg⟩ := h
 exact Kd.S_ne ho hb ht
theorem IsS147.lt {w0 W : World} {g : Nat} {f0 : ByteArray} {f1 : Int} {f2 : Bool} (h : IsS147 w0 W g f0 f1 f2) : g < W.heap.size := by
 obtain ⟨hb, hg⟩ := h
 exact blk_lt hb
theorem IsS147.ge {w0 W : World} {g : Nat} {f0 : ByteArray} {f1 : Int} {f2 : Bool} (h : IsS147 w0 W g f0 f1 f2) : w0.heap.size ≤ g := by
 obtain ⟨hb, hg⟩ := h
 exact hg
theorem IsS147.ne_blk {w0 W : World} {g : Nat} {f0 : ByteArray} {f1 : Int} {f2 : Bool} {a : Nat} {cs : Array Value} {t : TypeId} {fr : Nat × Nat} (h : IsS147 w0 W g f0 f1 f2) (hb2 : W.heap[a]? = some (.cells cs t fr)) (ht : t ≠ 147) : g ≠ a := by
 obtain ⟨hb, hg⟩ := h
 rintro rfl
 rw [hb] at hb2
 injection hb2 with hb2
 injection hb2 with _ ht2
 exact ht ht2.symm
theorem IsS147.far {w0 W : World} {g : Nat} {f0 : ByteArray} {f1 : Int} {f2 : Bool} {p : Addr} (h : IsS147 w0 W g f0 f1 f2) (hne : g ≠ p.block) (u : Value) : IsS147 w0 (W.setCell p u) g f0 f1 f2 := by
 obtain ⟨hb, hg⟩ := h
 exact ⟨blk_far hb hne u, hg⟩
theorem cellS147_0 {W : World} {g : Nat} {f0 : ByteArray} {f1 : Int} {f2 : Bool} (h : W.heap[g]? = some (.cells #[.string f0, .int .i64 f1, .bool f2] 147 (0, 0))) : W.cell? ⟨g, 0, none⟩ = some (.string f0) := (blk_cell h 0).trans rfl
theorem IsS147.set_0 {w0 W : World} {g : Nat} {f0 : ByteArray} {f1 : Int} {f2 : Bool} (h : IsS147 w0 W g f0 f1 f2) (x : ByteArray) : IsS147 w0 (W.setCell ⟨g, 0, none⟩ (.string x)) g x f1 f2 := by
 obtain ⟨hb, hg⟩ := h
 exact ⟨by simpa using blk_set hb 0 (.string x), hg⟩
theorem cellS147_1 {W : World} {g : Nat} {f0 : ByteArray} {f1 : Int} {f2 : Bool} (h : W.heap[g]? = some (.cells #[.string f0, .int .i64 f1, .bool f2] 147 (0, 0))) : W.cell? ⟨g, 1, none⟩ = some (.int .i64 f1) := (blk_cell h 1).trans rfl
theorem IsS147.set_1 {w0 W : World} {g : Nat} {f0 : ByteArray} {f1 : Int} {f2 : Bool} (h : IsS147 w0 W g f0 f1 f2) (x : Int) : IsS147 w0 (W.setCell ⟨g, 1, none⟩ (.int .i64 x)) g f0 x f2 := by
 obtain ⟨hb, hg⟩ := h
 exact ⟨by simpa using blk_set hb 1 (.int .i64 x), hg⟩
theorem cellS147_2 {W : World} {g : Nat} {f0 : ByteArray} {f1 : Int} {f2 : Bool} (h : W.heap[g]? = some (.cells #[.string f0, .int .i64 f1, .bool f2] 147 (0, 0))) : W.cell? ⟨g, 2, none⟩ = some (.bool f2) := (blk_cell h 2).trans rfl
theorem IsS147.set_2 {w0 W : World} {g : Nat} {f0 : ByteArray} {f1 : Int} {f2 : Bool} (h : IsS147 w0 W g f0 f1 f2) (x : Bool) : IsS147 w0 (W.setCell ⟨g, 2, none⟩ (.bool x)) g f0 f1 x := by
 obtain ⟨hb, hg⟩ := h
 exact ⟨by simpa using blk_set hb 2 (.bool x), hg⟩
theorem IsS147.new (w0 W : World) (f0 : ByteArray) (f1 : Int) (f2 : Bool) (hB : Below w0.heap.size w0 W) : IsS147 w0 (W.alloc (.cells #[.string f0, .int .i64 f1, .bool f2] 147)) W.heap.size f0 f1 f2 := ⟨by simpa using heap_alloc_new W _, hB.size⟩

/-! ### impl_reader_num: function 136 -/
def impl_reader_num.f (k : Nat) (s0_0 : ByteArray) (s0_1 : Int) (s0_2 : Bool) : Option (Int × ByteArray × Int × Bool) := (impl_getNum.f k s0_0 s0_1).bind fun bt363 => (if bt363.2.2 = 0 then (some (bt363.1, s0_0, bt363.2.1, s0_2)) else (some (0, s0_0, s0_1, true)))
theorem impl_reader_num.mono : ∀ a0 a1 a2 k, LeO (impl_reader_num.f k a0 a1 a2) (impl_reader_num.f (k + 1) a0 a1 a2) := by
 intro a0 a1 a2 k
 unfold impl_reader_num.f
 repeat' first
   | (with_reducible exact impl_getNum.mono _ _ _)
   | (with_reducible exact LeO.refl _)
   | (with_reducible exact LeO.none _)
   | (with_reducible refine LeO.ite ?_ ?_)
   | (with_reducible refine LeO.bind ?_ (fun _ => ?_))
   | exact impl_getNum.mono _ _ _
   | exact LeO.none _
   | refine LeO.ite ?_ ?_
   | refine LeO.bind ?_ (fun _ => ?_)
set_option maxHeartbeats 8000000 in
set_option maxRecDepth 100000 in
theorem impl_reader_num.calls (k : Nat) (g : Nat) (s0_0 : ByteArray) (s0_1 : Int) (s0_2 : Bool) (r1 : Int) (r2 : ByteArray) (r3 : Int) (r4 : Bool) (w0 w : World) (hI : IsS147 w0 w g s0_0 s0_1 s0_2) (hB : Below w0.heap.size w0 w) (h : impl_reader_num.f k s0_0 s0_1 s0_2 = some (r1, r2, r3, r4)) :
  Calls Try.prog 136 #[.pointer (some ⟨g, 0, none⟩)] w fun e w' => e = .returned (.int .i64 r1) ∧ IsS147 w0 w' g r2 r3 r4 ∧ Below w0.heap.size w0 w' ∧ KeepBut w w' g none := by
 have HI0 := zA_ hI
 have HK := zA_ (KeepBut.refl w g none)
 have HL := zA_ hB.size
 clear hI
 have HW0 := zA_ hB.size
 have HB := zA_ hB
 clear hB
 have H : ((impl_getNum.f k s0_0 s0_1).bind fun bt363 => (if bt363.2.2 = 0 then (some (bt363.1, s0_0, bt363.2.1, s0_2)) else (some (0, s0_0, s0_1, true)))) = some (r1, r2, r3, r4) := h
 clear h
 replace H := Option.bind_eq_some_iff.mp H
 obtain ⟨⟨t363, t364, t365⟩, A20, H⟩ := H
 replace H : (if t365 = 0 then (some (t363, s0_0, t364, s0_2)) else (some (0, s0_0, s0_1, true))) = some (r1, r2, r3, r4) := H
 have A2 := zA_ A20
 clear A20
 by_cases c3 : t365 = 0
 ·
  rw [if_pos c3] at H
  have c3b0 : (t365 == 0) = true := beq_iff_eq.mpr c3
  have c3b1 : (t365 != 0) = false := bne_eq_false_iff_eq.mpr c3
  clear c3
  simp only [Option.some.injEq, Prod.mk.injEq] at H
  obtain ⟨rfl, rfl, rfl, rfl⟩ := H
  obtain ⟨HGz4, hgz4⟩ := HI0.out
  have hcz4_0 := cellS147_0 HGz4
  have hcz4_1 := cellS147_1 HGz4
  have hcz4_2 := cellS147_2 HGz4
  have hfz4_0 := blk_frozen HGz4 0
  have hfz4_1 := blk_frozen HGz4 1
  have hfz4_2 := blk_frozen HGz4 2
  clear HGz4 hgz4
  go_enter Try.func136, Try.ntmps136
  go_wp2_with (first | (go_at_call 146; (with_reducible refine (impl_getNum.calls k s0_0 s0_1 t363 t364 t365 _ A2.out).mono ?_); rintro e w' ⟨rfl, ⟨nd, rfl⟩⟩; (try first | exact ⟨rfl, _, World.drewN_drewN _ _ _⟩ | exact ⟨rfl, _, Eq.trans (World.drewN_drewN _ _ _) (congrArg (World.drewN _) (Nat.add_assoc _ _ _))⟩)))
  repeat (go_quiet (first | (go_at_call 146; (with_reducible refine (impl_getNum.calls k s0_0 s0_1 t363 t364 t365 _ A2.out).mono ?_); rintro e w' ⟨rfl, ⟨nd, rfl⟩⟩; (try first | exact ⟨rfl, _, World.drewN_drewN _ _ _⟩ | exact ⟨rfl, _, Eq.trans (World.drewN_drewN _ _ _) (congrArg (World.drewN _) (Nat.add_assoc _ _ _))⟩))); try go_wp2_with (first | (go_at_call 146; (with_reducible refine (impl_getNum.calls k s0_0 s0_1 t363 t364 t365 _ A2.out).mono ?_); rintro e w' ⟨rfl, ⟨nd, rfl⟩⟩; (try first | exact ⟨rfl, _, World.drewN_drewN _ _ _⟩ | exact ⟨rfl, _, Eq.trans (World.drewN_drewN _ _ _) (congrArg (World.drewN _) (Nat.add_assoc _ _ _))⟩))))
  go_ret
  exact ⟨by first | rfl | (simp [errW_none, errW_some] <;> rfl) | (simp [*, errW_none, errW_some] <;> rfl), by repeat (first | (with_reducible first | exact HI0.out | apply IsS147.alloc | apply IsS147.drewN | apply IsS147.drew | apply IsS147.set_0 | apply IsS147.set_1 | apply IsS147.set_2) | exact HI0.out), by repeat (first | (with_reducible first | exact HB.out | apply below_alloc | apply pw_below_drewN | apply below_drew1 | refine below_set ?_ (IsS147.ge HI0.out)) | exact HB.out), by repeat (first | (with_reducible first | exact HK.out | apply KeepBut.set_ | apply keep_drewN | apply keep_drew | apply keep_alloc) | exact HK.out)⟩
 ·
  rw [if_neg c3] at H
  have c3b0 : (t365 == 0) = false := beq_eq_false_iff_ne.mpr c3
  have c3b1 : (t365 != 0) = true := bne_iff_ne.mpr c3
  simp only [Option.some.injEq, Prod.mk.injEq] at H
  obtain ⟨rfl, rfl, rfl, rfl⟩ := H
  obtain ⟨HGz5, hgz5⟩ := HI0.out
  have hcz5_0 := cellS147_0 HGz5
  have hcz5_1 := cellS147_1 HGz5
  have hcz5_2 := cellS147_2 HGz5
  have hfz5_0 := blk_frozen HGz5 0
  have hfz5_1 := blk_frozen HGz5 1
  have hfz5_2 := blk_frozen HGz5 2
  clear HGz5 hgz5
  go_enter Try.func136, Try.ntmps136
  go_wp2_with (first | (go_at_call 146; (with_reducible refine (impl_getNum.calls k s0_0 s0_1 t363 t364 t365 _ A2.out).mono ?_); rintro e w' ⟨rfl, ⟨nd, rfl⟩⟩; (try first | exact ⟨rfl, _, World.drewN_drewN _ _ _⟩ | exact ⟨rfl, _, Eq.trans (World.drewN_drewN _ _ _) (congrArg (World.drewN _) (Nat.add_assoc _ _ _))⟩)))
  repeat (go_quiet (first | (go_at_call 146; (with_reducible refine (impl_getNum.calls k s0_0 s0_1 t363 t364 t365 _ A2.out).mono ?_); rintro e w' ⟨rfl, ⟨nd, rfl⟩⟩; (try first | exact ⟨rfl, _, World.drewN_drewN _ _ _⟩ | exact ⟨rfl, _, Eq.trans (World.drewN_drewN _ _ _) (congrArg (World.drewN _) (Nat.add_assoc _ _ _))⟩))); try go_wp2_with (first | (go_at_call 146; (with_reducible refine (impl_getNum.calls k s0_0 s0_1 t363 t364 t365 _ A2.out).mono ?_); rintro e w' ⟨rfl, ⟨nd, rfl⟩⟩; (try first | exact ⟨rfl, _, World.drewN_drewN _ _ _⟩ | exact ⟨rfl, _, Eq.trans (World.drewN_drewN _ _ _) (congrArg (World.drewN _) (Nat.add_assoc _ _ _))⟩))))
  go_ret
  exact ⟨by first | rfl | (simp [errW_none, errW_some] <;> rfl) | (simp [*, errW_none, errW_some] <;> rfl), by repeat (first | (with_reducible first | exact HI0.out | apply IsS147.alloc | apply IsS147.drewN | apply IsS147.drew | apply IsS147.set_0 | apply IsS147.set_1 | apply IsS147.set_2) | exact HI0.out), by repeat (first | (with_reducible first | exact HB.out | apply below_alloc | apply pw_below_drewN | apply below_drew1 | refine below_set ?_ (IsS147.ge HI0.out)) | exact HB.out), by repeat (first | (with_reducible first | exact HK.out | apply KeepBut.set_ | apply keep_drewN | apply keep_drew | apply keep_alloc) | exact HK.out)⟩

/-! ### impl_getText: function 147 -/
def impl_getText.f (k : Nat) (a0 : ByteArray) (a1 : Int) : Option (ByteArray × Int × Int) := (impl_getNum.f k a0 a1).bind fun bt366 => (if bt366.2.2 = 0 then ((impl_within.f bt366.1 0 8000).bind fun t369 => (if t369 = true then (if bt366.1 > (wrap64 ((a0.size : Int) - bt366.2.1)) then (some ((⟨#[]⟩ : ByteArray), 0, 4)) else (if 0 ≤ bt366.2.1 then (if bt366.2.1 ≤ (wrap64 (bt366.2.1 + bt366.1)) then (if (wrap64 (bt366.2.1 + bt366.1)) ≤ (a0.size : Int) then (some (a0.extract (bt366.2.1 : Int).toNat ((wrap64 (bt366.2.1 + bt366.1)) : Int).toNat, wrap64 (bt366.2.1 + bt366.1), 0)) else (none)) else (none)) else (none))) else (some ((⟨#[]⟩ : ByteArray), 0, 3)))) else (some ((⟨#[]⟩ : ByteArray), 0, bt366.2.2)))
theorem impl_getText.mono : ∀ a0 a1 k, LeO (impl_getText.f k a0 a1) (impl_getText.f (k + 1) a0 a1) := by
 intro a0 a1 k
 unfold impl_getText.f
 repeat' first
   | (with_reducible exact impl_getNum.mono _ _ _)
   | (with_reducible exact LeO.refl _)
   | (with_reducible exact LeO.none _)
   | (with_reducible refine LeO.ite ?_ ?_)
   | (with_reducible refine LeO.bind ?_ (fun _ => ?_))
   | exact impl_getNum.mono _ _ _
   | exact LeO.none _
   | refine LeO.ite ?_ ?_
   | refine LeO.bind ?_ (fun _ => ?_)
set_option maxHeartbeats 8000000 in
set_option maxRecDepth 100000 in
theorem impl_getText.calls (k : Nat) (a0 : ByteArray) (a1 : Int) (r1 : ByteArray) (r2 : Int) (r3 : Int) (w : World) (h : impl_getText.f k a0 a1 = some (r1, r2, r3)) :
  Calls Try.prog 147 #[.string a0, .int .i64 a1] w fun e w' => e = .returned (.tuple #[.string r1, .int .i64 r2, .int .i64 r3]) ∧ Drawn0 w w' := by
 have H : ((impl_getNum.f k a0 a1).bind fun bt366 => (if bt366.2.2 = 0 then ((impl_within.f bt366.1 0 8000).bind fun t369 => (if t369 = true then (if bt366.1 > (wrap64 ((a0.size : Int) - bt366.2.1)) then (some ((⟨#[]⟩ : ByteArray), 0, 4)) else (if 0 ≤ bt366.2.1 then (if bt366.2.1 ≤ (wrap64 (bt366.2.1 + bt366.1)) then (if (wrap64 (bt366.2.1 + bt366.1)) ≤ (a0.size : Int) then (some (a0.extract (bt366.2.1 : Int).toNat ((wrap64 (bt366.2.1 + bt366.1)) : Int).toNat, wrap64 (bt366.2.1 + bt366.1), 0)) else (none)) else (none)) else (none))) else (some ((⟨#[]⟩ : ByteArray), 0, 3)))) else (some ((⟨#[]⟩ : ByteArray), 0, bt366.2.2)))) = some (r1, r2, r3) := h
 clear h
 replace H := Option.bind_eq_some_iff.mp H
 obtain ⟨⟨t366, t367, t368⟩, A30, H⟩ := H
 replace H : (if t368 = 0 then ((impl_within.f t366 0 8000).bind fun t369 => (if t369 = true then (if t366 > (wrap64 ((a0.size : Int) - t367)) then (some ((⟨#[]⟩ : ByteArray), 0, 4)) else (if 0 ≤ t367 then (if t367 ≤ (wrap64 (t367 + t366)) then (if (wrap64 (t367 + t366)) ≤ (a0.size : Int) then (some (a0.extract (t367 : Int).toNat ((wrap64 (t367 + t366)) : Int).toNat, wrap64 (t367 + t366), 0)) else (none)) else (none)) else (none))) else (some ((⟨#[]⟩ : ByteArray), 0, 3)))) else (some ((⟨#[]⟩ : ByteArray), 0, t368))) = some (r1, r2, r3) := H
 have A3 := zA_ A30
 clear A30
 by_cases c4 : t368 = 0
 ·
  rw [if_pos c4] at H
  have c4b0 : (t368 == 0) = true := beq_iff_eq.mpr c4
  have c4b1 : (t368 != 0) = false := bne_eq_false_iff_eq.mpr c4
  clear c4
  replace H := Option.bind_eq_some_iff.mp H
  obtain ⟨t369, A50, H⟩ := H
  replace H : (if t369 = true then (if t366 > (wrap64 ((a0.size : Int) - t367)) then (some ((⟨#[]⟩ : ByteArray), 0, 4)) else (if 0 ≤ t367 then (if t367 ≤ (wrap64 (t367 + t366)) then (if (wrap64 (t367 + t366)) ≤ (a0.size : Int) then (some (a0.extract (t367 : Int).toNat ((wrap64 (t367 + t366)) : Int).toNat, wrap64 (t367 + t366), 0)) else (none)) else (none)) else (none))) else (some ((⟨#[]⟩ : ByteArray), 0, 3))) = some (r1, r2, r3) := H
  have A5 := zA_ A50
  clear A50
  by_cases c6 : t369 = true
  ·
   subst c6
   have H1 : (if t366 > (wrap64 ((a0.size : Int) - t367)) then (some ((⟨#[]⟩ : ByteArray), 0, 4)) else (if 0 ≤ t367 then (if t367 ≤ (wrap64 (t367 + t366)) then (if (wrap64 (t367 + t366)) ≤ (a0.size : Int) then (some (a0.extract (t367 : Int).toNat ((wrap64 (t367 + t366)) : Int).toNat, wrap64 (t367 + t366), 0)) else (none)) else (none)) else (none))) = some (r1, r2, r3) := by rw [if_pos rfl] at H; exact H
   clear H
   have H := H1
   clear H1
   by_cases c7 : t366 > (wrap64 ((a0.size : Int) - t367))
   ·
    rw [if_pos c7] at H
    have c7b0 : decide ((wrap64 ((a0.size : Int) - t367)) < t366) = true := decide_eq_true c7
    clear c7
    simp only [Option.some.injEq, Prod.mk.injEq] at H
    obtain ⟨rfl, rfl, rfl⟩ := H
    go_enter Try.func147, Try.ntmps147
    go_wp2_with (first | ((with_reducible refine gate_callee (f := 146) rfl ?_); refine goesL_ (some 13) rfl rfl Try.func146 (by kernel_rfl) rfl #[.string a0, .int .i64 a1] rfl zs_ ?_; (with_reducible refine (impl_getNum.calls k a0 a1 t366 t367 t368 _ A3.out).mono ?_); rintro e w' ⟨rfl, ⟨nd, rfl⟩⟩; refine ⟨_, rfl, ?_⟩) | ((with_reducible refine gate_callee (f := 116) rfl ?_); refine goesL_ (some 23) rfl rfl Try.func116 (by kernel_rfl) rfl #[.int .i64 t366, .int .i64 0, .int .i64 8000] rfl zs_ ?_; (with_reducible refine (impl_within.calls t366 0 8000 true _ A5.out).mono ?_); rintro e w' ⟨rfl, ⟨nd, rfl⟩⟩; refine ⟨_, rfl, ?_⟩))
    go_ret3
    exact ⟨by first | rfl | (simp; done) | (simp [*]; done), by repeat (first | exact Drawn0.refl _ | apply Drawn0.step)⟩
   ·
    rw [if_neg c7] at H
    have c7b0 : decide ((wrap64 ((a0.size : Int) - t367)) < t366) = false := decide_eq_false c7
    clear c7
    by_cases c8 : 0 ≤ t367
    ·
     rw [if_pos c8] at H
     have c8b0 := eq_true c8
     have c8b1 : decide (0 ≤ t367) = true := decide_eq_true c8
     clear c8
     by_cases c9 : t367 ≤ (wrap64 (t367 + t366))
     ·
      rw [if_pos c9] at H
      have c9b0 := eq_true c9
      have c9b1 : decide (t367 ≤ (wrap64 (t367 + t366))) = true := decide_eq_true c9
      by_cases c10 : (wrap64 (t367 + t366)) ≤ (a0.size : Int)
      ·
       rw [if_pos c10] at H
       have c10b0 := eq_true c10
       have c10b1 : decide ((wrap64 (t367 + t366)) ≤ (a0.size : Int)) = true := decide_eq_true c10
       simp only [Option.some.injEq, Prod.mk.injEq] at H
       obtain ⟨rfl, rfl, rfl⟩ := H
       go_enter Try.func147, Try.ntmps147
       go_wp2_with (first | ((with_reducible refine gate_callee (f := 146) rfl ?_); refine goesL_ (some 13) rfl rfl Try.func146 (by kernel_rfl) rfl #[.string a0, .int .i64 a1] rfl zs_ ?_; (with_reducible refine (impl_getNum.calls k a0 a1 t366 t367 t368 _ A3.out).mono ?_); rintro e w' ⟨rfl, ⟨nd, rfl⟩⟩; refine ⟨_, rfl, ?_⟩) | ((with_reducible refine gate_callee (f := 116) rfl ?_); refine goesL_ (some 23) rfl rfl Try.func116 (by kernel_rfl) rfl #[.int .i64 t366, .int .i64 0, .int .i64 8000] rfl zs_ ?_; (with_reducible refine (impl_within.calls t366 0 8000 true _ A5.out).mono ?_); rintro e w' ⟨rfl, ⟨nd, rfl⟩⟩; refine ⟨_, rfl, ?_⟩))
       go_ret3
       exact ⟨by first | rfl | (simp; done) | (simp [*]; done), by repeat (first | exact Drawn0.refl _ | apply Drawn0.step)⟩
      ·
       rw [if_neg c10] at H
       exact absurd H (by simp)
     ·
      rw [if_neg c9] at H
      exact absurd H (by simp)
    ·
     rw [if_neg c8] at H
     exact absurd H (by simp)
  ·
   replace c6 := Bool.eq_false_iff.mpr c6
   subst c6
   have H1 : (some ((⟨#[]⟩ : ByteArray), 0, 3)) = some (r1, r2, r3) := by rw [if_neg (show ¬ (false = true) by decide)] at H; exact H
   clear H
   have H := H1
   clear H1
   simp only [Option.some.injEq, Prod.mk.injEq] at H
   obtain ⟨rfl, rfl, rfl⟩ := H
   go_enter Try.func147, Try.ntmps147
   go_wp2_with (first | ((with_reducible refine gate_callee (f := 146) rfl ?_); refine goesL_ (some 13) rfl rfl Try.func146 (by kernel_rfl) rfl #[.string a0, .int .i64 a1] rfl zs_ ?_; (with_reducible refine (impl_getNum.calls k a0 a1 t366 t367 t368 _ A3.out).mono ?_); rintro e w' ⟨rfl, ⟨nd, rfl⟩⟩; refine ⟨_, rfl, ?_⟩) | ((with_reducible refine gate_callee (f := 116) rfl ?_); refine goesL_ (some 23) rfl rfl Try.func116 (by kernel_rfl) rfl #[.int .i64 t366, .int .i64 0, .int .i64 8000] rfl zs_ ?_; (with_reducible refine (impl_within.calls t366 0 8000 false _ A5.out).mono ?_); rintro e w' ⟨rfl, ⟨nd, rfl⟩⟩; refine ⟨_, rfl, ?_⟩))
   go_ret3
   exact ⟨by first | rfl | (simp; done) | (simp [*]; done), by repeat (first | exact Drawn0.refl _ | apply Drawn0.step)⟩
 ·
  rw [if_neg c4] at H
  have c4b0 : (t368 == 0) = false := beq_eq_false_iff_ne.mpr c4
  have c4b1 : (t368 != 0) = true := bne_iff_ne.mpr c4
  simp only [Option.some.injEq, Prod.mk.injEq] at H
  obtain ⟨rfl, rfl, rfl⟩ := H
  go_enter Try.func147, Try.ntmps147
  go_wp2_with (first | ((with_reducible refine gate_callee (f := 146) rfl ?_); refine goesL_ (some 13) rfl rfl Try.func146 (by kernel_rfl) rfl #[.string a0, .int .i64 a1] rfl zs_ ?_; (with_reducible refine (impl_getNum.calls k a0 a1 t366 t367 t368 _ A3.out).mono ?_); rintro e w' ⟨rfl, ⟨nd, rfl⟩⟩; refine ⟨_, rfl, ?_⟩))
  go_ret3
  exact ⟨by first | rfl | (simp; done) | (simp [*]; done), by repeat (first | exact Drawn0.refl _ | apply Drawn0.step)⟩

/-! ### impl_reader_word: function 137 -/
def impl_reader_word.f (k : Nat) (s0_0 : ByteArray) (s0_1 : Int) (s0_2 : Bool) : Option (ByteArray × ByteArray × Int × Bool) := (impl_getText.f k s0_0 s0_1).bind fun bt370 => (if bt370.2.2 = 0 then (some (bt370.1, s0_0, bt370.2.1, s0_2)) else (some ((⟨#[]⟩ : ByteArray), s0_0, s0_1, true)))
theorem impl_reader_word.mono : ∀ a0 a1 a2 k, LeO (impl_reader_word.f k a0 a1 a2) (impl_reader_word.f (k + 1) a0 a1 a2) := by
 intro a0 a1 a2 k
 unfold impl_reader_word.f
 repeat' first
   | (with_reducible exact impl_getText.mono _ _ _)
   | (with_reducible exact LeO.refl _)
   | (with_reducible exact LeO.none _)
   | (with_reducible refine LeO.ite ?_ ?_)
   | (with_reducible refine LeO.bind ?_ (fun _ => ?_))
   | exact impl_getText.mono _ _ _
   | exact LeO.none _
   | refine LeO.ite ?_ ?_
   | refine LeO.bind ?_ (fun _ => ?_)
set_option maxHeartbeats 8000000 in
set_option maxRecDepth 100000 in
theorem impl_reader_word.calls (k : Nat) (g : Nat) (s0_0 : ByteArray) (s0_1 : Int) (s0_2 : Bool) (r1 : ByteArray) (r2 : ByteArray) (r3 : Int) (r4 : Bool) (w0 w : World) (hI : IsS147 w0 w g s0_0 s0_1 s0_2) (hB : Below w0.heap.size w0 w) (h : impl_reader_word.f k s0_0 s0_1 s0_2 = some (r1, r2, r3, r4)) :
  Calls Try.prog 137 #[.pointer (some ⟨g, 0, none⟩)] w fun e w' => e = .returned (.string r1) ∧ IsS147 w0 w' g r2 r3 r4 ∧ Below w0.heap.size w0 w' ∧ KeepBut w w' g none := by
 have HI0 := zA_ hI
 have HK := zA_ (KeepBut.refl w g none)
 have HL := zA_ hB.size
 clear hI
 have HW0 := zA_ hB.size
 have HB := zA_ hB
 clear hB
 have H : ((impl_getText.f k s0_0 s0_1).bind fun bt370 => (if bt370.2.2 = 0 then (some (bt370.1, s0_0, bt370.2.1, s0_2)) else (some ((⟨#[]⟩ : ByteArray), s0_0, s0_1, true)))) = some (r1, r2, r3, r4) := h
 clear h
 replace H := Option.bind_eq_some_iff.mp H
 obtain ⟨⟨t370, t371, t372⟩, A20, H⟩ := H
 replace H : (if t372 = 0 then (some (t370, s0_0, t371, s0_2)) else (some ((⟨#[]⟩ : ByteArray), s0_0, s0_1, true))) = some (r1, r2, r3, r4) := H
 have A2 := zA_ A20
 clear A20
 by_cases c3 : t372 = 0
 ·
  rw [if_pos c3] at H
  have c3b0 : (t372 == 0) = true := beq_iff_eq.mpr c3
  have c3b1 : (t372 != 0) = false := bne_eq_false_iff_eq.mpr c3
  clear c3
  simp only [Option.some.injEq, Prod.mk.injEq] at H
  obtain ⟨rfl, rfl, rfl, rfl⟩ := H
  obtain ⟨HGz4, hgz4⟩ := HI0.out
  have hcz4_0 := cellS147_0 HGz4
  have hcz4_1 := cellS147_1 HGz4
  have hcz4_2 := cellS147_2 HGz4
  have hfz4_0 := blk_frozen HGz4 0
  have hfz4_1 := blk_frozen HGz4 1
  have hfz4_2 := blk_frozen HGz4 2
  clear HGz4 hgz4
  go_enter Try.func137, Try.ntmps137
  go_wp2_with (first | (go_at_call 147; (with_reducible refine (impl_getText.calls k s0_0 s0_1 t370 t371 t372 _ A2.out).mono ?_); rintro e w' ⟨rfl, ⟨nd, rfl⟩⟩; (try first | exact ⟨rfl, _, World.drewN_drewN _ _ _⟩ | exact ⟨rfl, _, Eq.trans (World.drewN_drewN _ _ _) (congrArg (World.drewN _) (Nat.add_assoc _ _ _))⟩)))
  repeat (go_quiet (first | (go_at_call 147; (with_reducible refine (impl_getText.calls k s0_0 s0_1 t370 t371 t372 _ A2.out).mono ?_); rintro e w' ⟨rfl, ⟨nd, rfl⟩⟩; (try first | exact ⟨rfl, _, World.drewN_drewN _ _ _⟩ | exact ⟨rfl, _, Eq.trans (World.drewN_drewN _ _ _) (congrArg (World.drewN _) (Nat.add_assoc _ _ _))⟩))); try go_wp2_with (first | (go_at_call 147; (with_reducible refine (impl_getText.calls k s0_0 s0_1 t370 t371 t372 _ A2.out).mono ?_); rintro e w' ⟨rfl, ⟨nd, rfl⟩⟩; (try first | exact ⟨rfl, _, World.drewN_drewN _ _ _⟩ | exact ⟨rfl, _, Eq.trans (World.drewN_drewN _ _ _) (congrArg (World.drewN _) (Nat.add_assoc _ _ _))⟩))))
  go_ret
  exact ⟨by first | rfl | (simp [errW_none, errW_some] <;> rfl) | (simp [*, errW_none, errW_some] <;> rfl), by repeat (first | (with_reducible first | exact HI0.out | apply IsS147.alloc | apply IsS147.drewN | apply IsS147.drew | apply IsS147.set_0 | apply IsS147.set_1 | apply IsS147.set_2) | exact HI0.out), by repeat (first | (with_reducible first | exact HB.out | apply below_alloc | apply pw_below_drewN | apply below_drew1 | refine below_set ?_ (IsS147.ge HI0.out)) | exact HB.out), by repeat (first | (with_reducible first | exact HK.out | apply KeepBut.set_ | apply keep_drewN | apply keep_drew | apply keep_alloc) | exact HK.out)⟩
 ·
  rw [if_neg c3] at H
  have c3b0 : (t372 == 0) = false := beq_eq_false_iff_ne.mpr c3
  have c3b1 : (t372 != 0) = true := bne_iff_ne.mpr c3
  simp only [Option.some.injEq, Prod.mk.injEq] at H
  obtain ⟨rfl, rfl, rfl, rfl⟩ := H
  obtain ⟨HGz5, hgz5⟩ := HI0.out
  have hcz5_0 := cellS147_0 HGz5
  have hcz5_1 := cellS147_1 HGz5
  have hcz5_2 := cellS147_2 HGz5
  have hfz5_0 := blk_frozen HGz5 0
  have hfz5_1 := blk_frozen HGz5 1
  have hfz5_2 := blk_frozen HGz5 2
  clear HGz5 hgz5
  go_enter Try.func137, Try.ntmps137
  go_wp2_with (first | (go_at_call 147; (with_reducible refine (impl_getText.calls k s0_0 s0_1 t370 t371 t372 _ A2.out).mono ?_); rintro e w' ⟨rfl, ⟨nd, rfl⟩⟩; (try first | exact ⟨rfl, _, World.drewN_drewN _ _ _⟩ | exact ⟨rfl, _, Eq.trans (World.drewN_drewN _ _ _) (congrArg (World.drewN _) (Nat.add_assoc _ _ _))⟩)))
  repeat (go_quiet (first | (go_at_call 147; (with_reducible refine (impl_getText.calls k s0_0 s0_1 t370 t371 t372 _ A2.out).mono ?_); rintro e w' ⟨rfl, ⟨nd, rfl⟩⟩; (try first | exact ⟨rfl, _, World.drewN_drewN _ _ _⟩ | exact ⟨rfl, _, Eq.trans (World.drewN_drewN _ _ _) (congrArg (World.drewN _) (Nat.add_assoc _ _ _))⟩))); try go_wp2_with (first | (go_at_call 147; (with_reducible refine (impl_getText.calls k s0_0 s0_1 t370 t371 t372 _ A2.out).mono ?_); rintro e w' ⟨rfl, ⟨nd, rfl⟩⟩; (try first | exact ⟨rfl, _, World.drewN_drewN _ _ _⟩ | exact ⟨rfl, _, Eq.trans (World.drewN_drewN _ _ _) (congrArg (World.drewN _) (Nat.add_assoc _ _ _))⟩))))
  go_ret
  exact ⟨by first | rfl | (simp [errW_none, errW_some] <;> rfl) | (simp [*, errW_none, errW_some] <;> rfl), by repeat (first | (with_reducible first | exact HI0.out | apply IsS147.alloc | apply IsS147.drewN | apply IsS147.drew | apply IsS147.set_0 | apply IsS147.set_1 | apply IsS147.set_2) | exact HI0.out), by repeat (first | (with_reducible first | exact HB.out | apply below_alloc | apply pw_below_drewN | apply below_drew1 | refine below_set ?_ (IsS147.ge HI0.out)) | exact HB.out), by repeat (first | (with_reducible first | exact HK.out | apply KeepBut.set_ | apply keep_drewN | apply keep_drew | apply keep_alloc) | exact HK.out)⟩

/-! ### impl_metaRead: function 86 -/
def impl_metaRead.out (n : Int) (t : ByteArray) (size at_ : Int) (bad : Bool) : Int × ByteArray × Int :=
 if bad = true then (0, ⟨#[]⟩, 3) else if at_ = size then (if 1 ≤ n ∧ n ≤ 1000000 then (if (t.size : Int) > 80 then (0, ⟨#[]⟩, 3) else (n, t, 0)) else (0, ⟨#[]⟩, 3)) else (0, ⟨#[]⟩, 3)
def impl_metaRead.f (k : Nat) (a0 : ByteArray) : Option (Int × ByteArray × Int) := (impl_unseal.f k a0).bind fun u => (if u.2 = 0 then ((impl_reader_num.f k u.1 0 false).bind fun n => ((impl_reader_word.f k n.2.1 n.2.2.1 n.2.2.2).bind fun t => (some (impl_metaRead.out n.1 t.1 (u.1.size : Int) t.2.2.1 t.2.2.2)))) else (some (0, (⟨#[]⟩ : ByteArray), u.2)))
theorem impl_metaRead.mono : ∀ a0 k, LeO (impl_metaRead.f k a0) (impl_metaRead.f (k + 1) a0) := by
 intro a0 k
 unfold impl_metaRead.f
 refine LeO.bind (impl_unseal.mono _ _) (fun u => LeO.ite (LeO.bind (impl_reader_num.mono _ _ _ _) (fun n => LeO.bind (impl_reader_word.mono _ _ _ _) (fun t => LeO.refl _))) (LeO.refl _))
theorem impl_metaRead.within_ (a lo hi : Int) (d : Bool) (hd : decide (lo ≤ a ∧ a ≤ hi) = d) : impl_within.f a lo hi = some d := by
 rw [← hd]
 unfold impl_within.f
 by_cases h1 : a ≥ lo
 ·
  rw [if_pos h1]; congr 1; rw [Bool.eq_iff_iff]; simp; omega
 ·
  rw [if_neg h1]; congr 1; rw [eq_comm, decide_eq_false_iff_not]; omega
set_option maxHeartbeats 8000000 in
set_option maxRecDepth 100000 in
theorem impl_metaRead.calls (k : Nat) (a0 : ByteArray) (r1 : Int) (r2 : ByteArray) (r3 : Int) (w : World) (h : impl_metaRead.f k a0 = some (r1, r2, r3)) :
  Calls Try.prog 86 #[.string a0] w fun e w' => e = .returned (.agg #[.int .i64 r1, .string r2, .int .i64 r3]) ∧ Below w.heap.size w w' := by
 unfold impl_metaRead.f at h
 have hu41 := Try.underlying41
 have hu147 := Try.underlying147
 obtain ⟨u, hu, h⟩ := Option.bind_eq_some_iff.1 h
 obtain ⟨u1, u2⟩ := u
 have HU := zA_ hu
 clear hu
 have HG0 := zA_ (blk_new w (.cells #[.int .i64 0, .string ⟨#[]⟩, .int .i64 0] 41))
 by_cases h0 : u2 = 0
 ·
  simp only [h0, if_true] at h
  obtain ⟨n, hn, h⟩ := Option.bind_eq_some_iff.1 h
  obtain ⟨n1, n2, n3, n4⟩ := n
  obtain ⟨t, ht, h⟩ := Option.bind_eq_some_iff.1 h
  obtain ⟨t1, t2, t3, t4⟩ := t
  have HN := zA_ hn
  have HT := zA_ ht
  have HO := zA_ h
  clear hn ht h
  subst h0
  have HO2 := HO.out
  simp only [Option.some.injEq] at HO2
  unfold impl_metaRead.out at HO2
  clear HO
  cases t4 with
  | true =>
   simp only [if_true, Prod.mk.injEq] at HO2
   obtain ⟨rfl, rfl, rfl⟩ := HO2
   go_enter Try.func86, Try.ntmps86
   go_wp2_with (first
    | (go_at_call 135; refine (impl_unseal.calls k a0 u1 0 _ HU.out).mono ?_; rintro e w1 ⟨rfl, hb1⟩; have HB1 := zA_ (show Below w.heap.size w w1 from below_step (by repeat (first | exact Below.refl _ _ | apply pw_below_drewN | apply below_drew1 | apply below_alloc)) hb1); have HG1 := zA_ (blk_below (by exact HG0.out) hb1); clear hb1)
    | (go_at_call 136; have HS1 := zA_ (show IsS147 w (w1.alloc (.cells #[.string u1, .int .i64 0, .bool false] 147)) w1.heap.size u1 0 false from ⟨blk_new _ _, HB1.out.size⟩); refine (impl_reader_num.calls k _ u1 0 false n1 n2 n3 n4 w _ (by exact HS1.out) (by repeat (first | exact HB1.out | apply pw_below_drewN | apply below_drew1 | apply below_alloc)) HN.out).mono ?_; rintro e w2 ⟨rfl, hs2, hb2, hk2⟩; have HS2 := zA_ hs2; have HB2 := zA_ hb2; have HG2 := zA_ (hk2.blk (blk_alloc HG1.out _) (Nat.ne_of_lt (blk_lt HG1.out)) (by simp)); clear hs2 hb2 hk2)
    | (go_at_call 137; refine (impl_reader_word.calls k _ n2 n3 n4 t1 t2 t3 _ w _ (by exact HS2.out) (by exact HB2.out) HT.out).mono ?_; rintro e w3 ⟨rfl, hs3, hb3, hk3⟩; have HS3 := zA_ hs3; have HB3 := zA_ hb3; have HG3 := zA_ (hk3.blk HG2.out (Nat.ne_of_lt (blk_lt HG1.out)) (by simp)); have sc0 := blk_cell HS3.out.1 0; have sc1 := blk_cell HS3.out.1 1; have sc2 := blk_cell HS3.out.1 2; have c0 := blk_cell HG3.out 0; have c1 := blk_cell HG3.out 1; have c2 := blk_cell HG3.out 2; have f0 := blk_frozen HG3.out 0; have f1 := blk_frozen HG3.out 1; have f2 := blk_frozen HG3.out 2; clear hs3 hb3 hk3))
   refine bodyPost_ret (results_cell_row rfl _ _ w.heap.size 41 #[.int .i64 0, .string ⟨#[]⟩, .int .i64 3] (0, 0) _ rfl (by refine blk_put (cs := #[.int .i64 0, .string ⟨#[]⟩, .int .i64 0]) ?_ 2 _ rfl; refine blk_put (cs := #[.int .i64 0, .string ⟨#[]⟩, .int .i64 0]) ?_ 1 _ rfl; refine blk_put (cs := #[.int .i64 0, .string ⟨#[]⟩, .int .i64 0]) ?_ 0 _ rfl; (repeat (first | exact HG3.out | refine blk_drewN ?_ _ | refine blk_drew ?_))) Try.underlying41 rfl (by kernel_rfl)) rfl ?_
   exact ⟨rfl, (((show Below w.heap.size w _ from by first | exact HB3.out | exact pw_below_drewN HB3.out _).setCell (Nat.le_refl _) _).setCell (Nat.le_refl _) _).setCell (Nat.le_refl _) _⟩
  | false =>
   simp only [Bool.false_eq_true, if_false] at HO2
   by_cases h3 : t3 = (u1.size : Int)
   ·
    have e0 : (t3 == (u1.size : Int)) = true := beq_iff_eq.mpr h3
    have e1 : (t3 != (u1.size : Int)) = false := bne_eq_false_iff_eq.mpr h3
    simp only [if_pos h3] at HO2
    clear h3
    by_cases h4 : 1 ≤ n1 ∧ n1 ≤ 1000000
    ·
     have HW := zA_ (impl_metaRead.within_ n1 1 1000000 true (decide_eq_true h4))
     simp only [if_pos h4] at HO2
     clear h4
     by_cases h5 : (t1.size : Int) > 80
     ·
      have g0 : decide ((t1.size : Int) > 80) = true := decide_eq_true h5
      have g1 : decide (80 < t1.size) = true := decide_eq_true (by omega)
      simp only [if_pos h5, Prod.mk.injEq] at HO2
      obtain ⟨rfl, rfl, rfl⟩ := HO2
      clear h5
      go_enter Try.func86, Try.ntmps86
      go_wp2_with (first
       | (go_at_call 135; refine (impl_unseal.calls k a0 u1 0 _ HU.out).mono ?_; rintro e w1 ⟨rfl, hb1⟩; have HB1 := zA_ (show Below w.heap.size w w1 from below_step (by repeat (first | exact Below.refl _ _ | apply pw_below_drewN | apply below_drew1 | apply below_alloc)) hb1); have HG1 := zA_ (blk_below (by exact HG0.out) hb1); clear hb1)
       | (go_at_call 136; have HS1 := zA_ (show IsS147 w (w1.alloc (.cells #[.string u1, .int .i64 0, .bool false] 147)) w1.heap.size u1 0 false from ⟨blk_new _ _, HB1.out.size⟩); refine (impl_reader_num.calls k _ u1 0 false n1 n2 n3 n4 w _ (by exact HS1.out) (by repeat (first | exact HB1.out | apply pw_below_drewN | apply below_drew1 | apply below_alloc)) HN.out).mono ?_; rintro e w2 ⟨rfl, hs2, hb2, hk2⟩; have HS2 := zA_ hs2; have HB2 := zA_ hb2; have HG2 := zA_ (hk2.blk (blk_alloc HG1.out _) (Nat.ne_of_lt (blk_lt HG1.out)) (by simp)); clear hs2 hb2 hk2)
       | (go_at_call 137; refine (impl_reader_word.calls k _ n2 n3 n4 t1 t2 t3 _ w _ (by exact HS2.out) (by exact HB2.out) HT.out).mono ?_; rintro e w3 ⟨rfl, hs3, hb3, hk3⟩; have HS3 := zA_ hs3; have HB3 := zA_ hb3; have HG3 := zA_ (hk3.blk HG2.out (Nat.ne_of_lt (blk_lt HG1.out)) (by simp)); have sc0 := blk_cell HS3.out.1 0; have sc1 := blk_cell HS3.out.1 1; have sc2 := blk_cell HS3.out.1 2; have c0 := blk_cell HG3.out 0; have c1 := blk_cell HG3.out 1; have c2 := blk_cell HG3.out 2; have f0 := blk_frozen HG3.out 0; have f1 := blk_frozen HG3.out 1; have f2 := blk_frozen HG3.out 2; clear hs3 hb3 hk3)
       | (go_at_call 116; refine (impl_within.calls _ _ _ _ _ HW.out).mono ?_; rintro e w4 ⟨rfl, ⟨n4, rfl⟩⟩))
      refine bodyPost_ret (results_cell_row rfl _ _ w.heap.size 41 #[.int .i64 0, .string ⟨#[]⟩, .int .i64 3] (0, 0) _ rfl (by refine blk_put (cs := #[.int .i64 0, .string ⟨#[]⟩, .int .i64 0]) ?_ 2 _ rfl; refine blk_put (cs := #[.int .i64 0, .string ⟨#[]⟩, .int .i64 0]) ?_ 1 _ rfl; refine blk_put (cs := #[.int .i64 0, .string ⟨#[]⟩, .int .i64 0]) ?_ 0 _ rfl; (repeat (first | exact HG3.out | refine blk_drewN ?_ _ | refine blk_drew ?_))) Try.underlying41 rfl (by kernel_rfl)) rfl ?_
      exact ⟨rfl, (((show Below w.heap.size w _ from by first | exact HB3.out | exact pw_below_drewN HB3.out _).setCell (Nat.le_refl _) _).setCell (Nat.le_refl _) _).setCell (Nat.le_refl _) _⟩
     ·
      have g0 : decide ((t1.size : Int) > 80) = false := decide_eq_false h5
      have g1 : decide (80 < t1.size) = false := decide_eq_false (by omega)
      simp only [if_neg h5, Prod.mk.injEq] at HO2
      obtain ⟨rfl, rfl, rfl⟩ := HO2
      clear h5
      go_enter Try.func86, Try.ntmps86
      go_wp2_with (first
       | (go_at_call 135; refine (impl_unseal.calls k a0 u1 0 _ HU.out).mono ?_; rintro e w1 ⟨rfl, hb1⟩; have HB1 := zA_ (show Below w.heap.size w w1 from below_step (by repeat (first | exact Below.refl _ _ | apply pw_below_drewN | apply below_drew1 | apply below_alloc)) hb1); have HG1 := zA_ (blk_below (by exact HG0.out) hb1); clear hb1)
       | (go_at_call 136; have HS1 := zA_ (show IsS147 w (w1.alloc (.cells #[.string u1, .int .i64 0, .bool false] 147)) w1.heap.size u1 0 false from ⟨blk_new _ _, HB1.out.size⟩); refine (impl_reader_num.calls k _ u1 0 false n1 n2 n3 n4 w _ (by exact HS1.out) (by repeat (first | exact HB1.out | apply pw_below_drewN | apply below_drew1 | apply below_alloc)) HN.out).mono ?_; rintro e w2 ⟨rfl, hs2, hb2, hk2⟩; have HS2 := zA_ hs2; have HB2 := zA_ hb2; have HG2 := zA_ (hk2.blk (blk_alloc HG1.out _) (Nat.ne_of_lt (blk_lt HG1.out)) (by simp)); clear hs2 hb2 hk2)
       | (go_at_call 137; refine (impl_reader_word.calls k _ n2 n3 n4 t1 t2 t3 _ w _ (by exact HS2.out) (by exact HB2.out) HT.out).mono ?_; rintro e w3 ⟨rfl, hs3, hb3, hk3⟩; have HS3 := zA_ hs3; have HB3 := zA_ hb3; have HG3 := zA_ (hk3.blk HG2.out (Nat.ne_of_lt (blk_lt HG1.out)) (by simp)); have sc0 := blk_cell HS3.out.1 0; have sc1 := blk_cell HS3.out.1 1; have sc2 := blk_cell HS3.out.1 2; have c0 := blk_cell HG3.out 0; have c1 := blk_cell HG3.out 1; have c2 := blk_cell HG3.out 2; have f0 := blk_frozen HG3.out 0; have f1 := blk_frozen HG3.out 1; have f2 := blk_frozen HG3.out 2; clear hs3 hb3 hk3)
       | (go_at_call 116; refine (impl_within.calls _ _ _ _ _ HW.out).mono ?_; rintro e w4 ⟨rfl, ⟨n4, rfl⟩⟩))
      refine bodyPost_ret (results_cell_row rfl _ _ w.heap.size 41 #[.int .i64 n1, .string t1, .int .i64 0] (0, 0) _ rfl (by refine blk_put (cs := #[.int .i64 n1, .string t1, .int .i64 0]) ?_ 2 _ rfl; refine blk_put (cs := #[.int .i64 n1, .string ⟨#[]⟩, .int .i64 0]) ?_ 1 _ rfl; refine blk_put (cs := #[.int .i64 0, .string ⟨#[]⟩, .int .i64 0]) ?_ 0 _ rfl; (repeat (first | exact HG3.out | refine blk_drewN ?_ _ | refine blk_drew ?_))) Try.underlying41 rfl (by kernel_rfl)) rfl ?_
      exact ⟨rfl, (((show Below w.heap.size w _ from by first | exact HB3.out | exact pw_below_drewN HB3.out _).setCell (Nat.le_refl _) _).setCell (Nat.le_refl _) _).setCell (Nat.le_refl _) _⟩
    ·
     have HW := zA_ (impl_metaRead.within_ n1 1 1000000 false (decide_eq_false h4))
     simp only [if_neg h4, Prod.mk.injEq] at HO2
     obtain ⟨rfl, rfl, rfl⟩ := HO2
     clear h4
     go_enter Try.func86, Try.ntmps86
     go_wp2_with (first
      | (go_at_call 135; refine (impl_unseal.calls k a0 u1 0 _ HU.out).mono ?_; rintro e w1 ⟨rfl, hb1⟩; have HB1 := zA_ (show Below w.heap.size w w1 from below_step (by repeat (first | exact Below.refl _ _ | apply pw_below_drewN | apply below_drew1 | apply below_alloc)) hb1); have HG1 := zA_ (blk_below (by exact HG0.out) hb1); clear hb1)
      | (go_at_call 136; have HS1 := zA_ (show IsS147 w (w1.alloc (.cells #[.string u1, .int .i64 0, .bool false] 147)) w1.heap.size u1 0 false from ⟨blk_new _ _, HB1.out.size⟩); refine (impl_reader_num.calls k _ u1 0 false n1 n2 n3 n4 w _ (by exact HS1.out) (by repeat (first | exact HB1.out | apply pw_below_drewN | apply below_drew1 | apply below_alloc)) HN.out).mono ?_; rintro e w2 ⟨rfl, hs2, hb2, hk2⟩; have HS2 := zA_ hs2; have HB2 := zA_ hb2; have HG2 := zA_ (hk2.blk (blk_alloc HG1.out _) (Nat.ne_of_lt (blk_lt HG1.out)) (by simp)); clear hs2 hb2 hk2)
      | (go_at_call 137; refine (impl_reader_word.calls k _ n2 n3 n4 t1 t2 t3 _ w _ (by exact HS2.out) (by exact HB2.out) HT.out).mono ?_; rintro e w3 ⟨rfl, hs3, hb3, hk3⟩; have HS3 := zA_ hs3; have HB3 := zA_ hb3; have HG3 := zA_ (hk3.blk HG2.out (Nat.ne_of_lt (blk_lt HG1.out)) (by simp)); have sc0 := blk_cell HS3.out.1 0; have sc1 := blk_cell HS3.out.1 1; have sc2 := blk_cell HS3.out.1 2; have c0 := blk_cell HG3.out 0; have c1 := blk_cell HG3.out 1; have c2 := blk_cell HG3.out 2; have f0 := blk_frozen HG3.out 0; have f1 := blk_frozen HG3.out 1; have f2 := blk_frozen HG3.out 2; clear hs3 hb3 hk3)
      | (go_at_call 116; refine (impl_within.calls _ _ _ _ _ HW.out).mono ?_; rintro e w4 ⟨rfl, ⟨n4, rfl⟩⟩))
     refine bodyPost_ret (results_cell_row rfl _ _ w.heap.size 41 #[.int .i64 0, .string ⟨#[]⟩, .int .i64 3] (0, 0) _ rfl (by refine blk_put (cs := #[.int .i64 0, .string ⟨#[]⟩, .int .i64 0]) ?_ 2 _ rfl; refine blk_put (cs := #[.int .i64 0, .string ⟨#[]⟩, .int .i64 0]) ?_ 1 _ rfl; refine blk_put (cs := #[.int .i64 0, .string ⟨#[]⟩, .int .i64 0]) ?_ 0 _ rfl; (repeat (first | exact HG3.out | refine blk_drewN ?_ _ | refine blk_drew ?_))) Try.underlying41 rfl (by kernel_rfl)) rfl ?_
     exact ⟨rfl, (((show Below w.heap.size w _ from by first | exact HB3.out | exact pw_below_drewN HB3.out _).setCell (Nat.le_refl _) _).setCell (Nat.le_refl _) _).setCell (Nat.le_refl _) _⟩
   ·
    have e0 : (t3 == (u1.size : Int)) = false := beq_eq_false_iff_ne.mpr h3
    have e1 : (t3 != (u1.size : Int)) = true := bne_iff_ne.mpr h3
    simp only [if_neg h3, Prod.mk.injEq] at HO2
    obtain ⟨rfl, rfl, rfl⟩ := HO2
    clear h3
    go_enter Try.func86, Try.ntmps86
    go_wp2_with (first
     | (go_at_call 135; refine (impl_unseal.calls k a0 u1 0 _ HU.out).mono ?_; rintro e w1 ⟨rfl, hb1⟩; have HB1 := zA_ (show Below w.heap.size w w1 from below_step (by repeat (first | exact Below.refl _ _ | apply pw_below_drewN | apply below_drew1 | apply below_alloc)) hb1); have HG1 := zA_ (blk_below (by exact HG0.out) hb1); clear hb1)
     | (go_at_call 136; have HS1 := zA_ (show IsS147 w (w1.alloc (.cells #[.string u1, .int .i64 0, .bool false] 147)) w1.heap.size u1 0 false from ⟨blk_new _ _, HB1.out.size⟩); refine (impl_reader_num.calls k _ u1 0 false n1 n2 n3 n4 w _ (by exact HS1.out) (by repeat (first | exact HB1.out | apply pw_below_drewN | apply below_drew1 | apply below_alloc)) HN.out).mono ?_; rintro e w2 ⟨rfl, hs2, hb2, hk2⟩; have HS2 := zA_ hs2; have HB2 := zA_ hb2; have HG2 := zA_ (hk2.blk (blk_alloc HG1.out _) (Nat.ne_of_lt (blk_lt HG1.out)) (by simp)); clear hs2 hb2 hk2)
     | (go_at_call 137; refine (impl_reader_word.calls k _ n2 n3 n4 t1 t2 t3 _ w _ (by exact HS2.out) (by exact HB2.out) HT.out).mono ?_; rintro e w3 ⟨rfl, hs3, hb3, hk3⟩; have HS3 := zA_ hs3; have HB3 := zA_ hb3; have HG3 := zA_ (hk3.blk HG2.out (Nat.ne_of_lt (blk_lt HG1.out)) (by simp)); have sc0 := blk_cell HS3.out.1 0; have sc1 := blk_cell HS3.out.1 1; have sc2 := blk_cell HS3.out.1 2; have c0 := blk_cell HG3.out 0; have c1 := blk_cell HG3.out 1; have c2 := blk_cell HG3.out 2; have f0 := blk_frozen HG3.out 0; have f1 := blk_frozen HG3.out 1; have f2 := blk_frozen HG3.out 2; clear hs3 hb3 hk3))
    refine bodyPost_ret (results_cell_row rfl _ _ w.heap.size 41 #[.int .i64 0, .string ⟨#[]⟩, .int .i64 3] (0, 0) _ rfl (by refine blk_put (cs := #[.int .i64 0, .string ⟨#[]⟩, .int .i64 0]) ?_ 2 _ rfl; refine blk_put (cs := #[.int .i64 0, .string ⟨#[]⟩, .int .i64 0]) ?_ 1 _ rfl; refine blk_put (cs := #[.int .i64 0, .string ⟨#[]⟩, .int .i64 0]) ?_ 0 _ rfl; (repeat (first | exact HG3.out | refine blk_drewN ?_ _ | refine blk_drew ?_))) Try.underlying41 rfl (by kernel_rfl)) rfl ?_
    exact ⟨rfl, (((show Below w.heap.size w _ from by first | exact HB3.out | exact pw_below_drewN HB3.out _).setCell (Nat.le_refl _) _).setCell (Nat.le_refl _) _).setCell (Nat.le_refl _) _⟩
 ·
  simp only [h0, if_false] at h
  simp only [Option.some.injEq, Prod.mk.injEq] at h
  obtain ⟨rfl, rfl, rfl⟩ := h
  have b0 : (u2 == 0) = false := beq_eq_false_iff_ne.mpr h0
  have b1 : (u2 != 0) = true := bne_iff_ne.mpr h0
  clear h0
  go_enter Try.func86, Try.ntmps86
  go_wp2_with (first
   | (go_at_call 135; refine (impl_unseal.calls k a0 u1 u2 _ HU.out).mono ?_; rintro e w1 ⟨rfl, hb1⟩; have HB1 := zA_ (show Below w.heap.size w w1 from below_step (by repeat (first | exact Below.refl _ _ | apply pw_below_drewN | apply below_drew1 | apply below_alloc)) hb1); have hg1 := blk_below (by exact HG0.out) hb1; have HG1 := zA_ hg1; have c0 := blk_cell hg1 0; have c1 := blk_cell hg1 1; have c2 := blk_cell hg1 2; have f0 := blk_frozen hg1 0; have f1 := blk_frozen hg1 1; have f2 := blk_frozen hg1 2; clear hb1 hg1))
  refine bodyPost_ret (results_cell_row rfl _ _ w.heap.size 41 #[.int .i64 0, .string ⟨#[]⟩, .int .i64 u2] (0, 0) _ rfl (by refine blk_put (cs := #[.int .i64 0, .string ⟨#[]⟩, .int .i64 0]) ?_ 2 _ rfl; refine blk_put (cs := #[.int .i64 0, .string ⟨#[]⟩, .int .i64 0]) ?_ 1 _ rfl; refine blk_put (cs := #[.int .i64 0, .string ⟨#[]⟩, .int .i64 0]) ?_ 0 _ rfl; (repeat (first | exact HG1.out | refine blk_drewN ?_ _ | refine blk_drew ?_))) Try.underlying41 rfl (by kernel_rfl)) rfl ?_
  exact ⟨rfl, (((show Below w.heap.size w _ from by first | exact HB1.out | exact pw_below_drewN HB1.out _).setCell (Nat.le_refl _) _).setCell (Nat.le_refl _) _).setCell (Nat.le_refl _) _⟩


/-! ### laws_eqMetaOut: function 27 -/
def laws_eqMetaOut.f (a0_0 : Int) (a0_1 : ByteArray) (a0_2 : Int) (a1_0 : Int) (a1_1 : ByteArray) (a1_2 : Int) : Option (Bool) := if a0_0 = a1_0 then (if a0_1.toList = a1_1.toList then (if a0_2 = a1_2 then (some true) else (some false)) else (some false)) else (some false)
set_option maxHeartbeats 8000000 in
set_option maxRecDepth 100000 in
theorem laws_eqMetaOut.calls (a0_0 : Int) (a0_1 : ByteArray) (a0_2 : Int) (a1_0 : Int) (a1_1 : ByteArray) (a1_2 : Int) (r : Bool) (w : World) (h : laws_eqMetaOut.f a0_0 a0_1 a0_2 a1_0 a1_1 a1_2 = some r) :
  Calls Try.prog 27 #[.agg #[.int .i64 a0_0, .string a0_1, .int .i64 a0_2], .agg #[.int .i64 a1_0, .string a1_1, .int .i64 a1_2]] w fun e w' => e = .returned (.bool r) ∧ Below w.heap.size w w' := by
 have hu41 := Try.underlying41
 have HB := zA_ (Below.refl w.heap.size w)
 have H : (if a0_0 = a1_0 then (if a0_1.toList = a1_1.toList then (if a0_2 = a1_2 then (some true) else (some false)) else (some false)) else (some false)) = some r := h
 clear h
 by_cases c3 : a0_0 = a1_0
 ·
  rw [if_pos c3] at H
  have c3b0 : (a0_0 == a1_0) = true := beq_iff_eq.mpr c3
  have c3b1 : (a0_0 != a1_0) = false := bne_eq_false_iff_eq.mpr c3
  clear c3
  by_cases c4 : a0_1.toList = a1_1.toList
  ·
   rw [if_pos c4] at H
   have c4b0 : (a0_1.toList == a1_1.toList) = true := beq_iff_eq.mpr c4
   have c4b1 : (a0_1.toList != a1_1.toList) = false := bne_eq_false_iff_eq.mpr c4
   clear c4
   by_cases c5 : a0_2 = a1_2
   ·
    rw [if_pos c5] at H
    have c5b0 : (a0_2 == a1_2) = true := beq_iff_eq.mpr c5
    have c5b1 : (a0_2 != a1_2) = false := bne_eq_false_iff_eq.mpr c5
    clear c5
    obtain rfl := Option.some.inj H
    go_enter Try.func27, Try.ntmps27
    go_wp2_with (first | ((with_reducible refine gate_dst (N := 2) rfl ?_); refine box_event ?hg (N := 2) ?hd (cs := #[.int .i64 a0_0, .string a0_1, .int .i64 a0_2]) (t := 41) ?hr ?_; (case hd => rfl); (case hg => rfl); (case hr => first | (go_simp; done) | (go_simp; rfl)); intro gb377 hg w6 hbox hb; have n0_ := zA_ (below_step (zh_ HB.out) hb); have n1_ := zA_ (hbox); have n2_ := zA_ ((by rw [hg]; exact (below_size (zh_ HB.out)) : w.heap.size ≤ gb377)); have n3_ := zA_ ((by rw [hg]; exact (below_size (zh_ HB.out)) : w.heap.size ≤ gb377)); clear HB; have HB := n0_; have BK377 := n1_; have GW377 := n2_; have GE377 := n3_; clear n0_ n1_ n2_ n3_; clear hb hbox hg) | ((with_reducible refine gate_dst (N := 3) rfl ?_); refine box_event ?hg (N := 3) ?hd (cs := #[.int .i64 a1_0, .string a1_1, .int .i64 a1_2]) (t := 41) ?hr ?_; (case hd => rfl); (case hg => rfl); (case hr => first | (go_simp; done) | (go_simp; rfl)); intro gb378 hg w7 hbox hb; have n0_ := zA_ (blk_below (g := gb377) (o := .cells #[.int .i64 a0_0, .string a0_1, .int .i64 a0_2] 41 (0, 0)) (zb_ BK377.out) hb); have n1_ := zA_ (below_step (zg1_ HB.out GE377.out) hb); have n2_ := zA_ (hbox); have n3_ := zA_ ((by rw [hg]; exact (below_size (zg1_ HB.out GE377.out)) : w.heap.size ≤ gb378)); have n4_ := zA_ ((by rw [hg]; exact (below_size (zg1_ HB.out GE377.out)) : w.heap.size ≤ gb378)); have n5_ := zA_ ((by rw [hg]; exact Nat.ne_of_lt (blk_lt (g := gb377) (o := .cells #[.int .i64 a0_0, .string a0_1, .int .i64 a0_2] 41 (0, 0)) (zb_ BK377.out)) : gb377 ≠ gb378)); have n6_ := zA_ ((by rw [hg]; exact Nat.ne_of_gt (blk_lt (g := gb377) (o := .cells #[.int .i64 a0_0, .string a0_1, .int .i64 a0_2] 41 (0, 0)) (zb_ BK377.out)) : gb378 ≠ gb377)); clear BK377 HB; have BK377 := n0_; have HB := n1_; have BK378 := n2_; have GW378 := n3_; have GE378 := n4_; have NB377_378 := n5_; have NB378_377 := n6_; clear n0_ n1_ n2_ n3_ n4_ n5_ n6_; clear hb hbox hg; have hnb8 := NB377_378.out; have hnc8 := NB378_377.out; have hcz9_0 : w7.cell? ⟨gb377, 0, none⟩ = some (.int .i64 a0_0) := (blk_cell BK377.out 0).trans rfl; have hcz9_1 : w7.cell? ⟨gb377, 1, none⟩ = some (.string a0_1) := (blk_cell BK377.out 1).trans rfl; have hcz9_2 : w7.cell? ⟨gb377, 2, none⟩ = some (.int .i64 a0_2) := (blk_cell BK377.out 2).trans rfl; have hfz9_0 := blk_frozen BK377.out 0; have hfz9_1 := blk_frozen BK377.out 1; have hfz9_2 := blk_frozen BK377.out 2; have hcz10_0 : w7.cell? ⟨gb378, 0, none⟩ = some (.int .i64 a1_0) := (blk_cell BK378.out 0).trans rfl; have hcz10_1 : w7.cell? ⟨gb378, 1, none⟩ = some (.string a1_1) := (blk_cell BK378.out 1).trans rfl; have hcz10_2 : w7.cell? ⟨gb378, 2, none⟩ = some (.int .i64 a1_2) := (blk_cell BK378.out 2).trans rfl; have hfz10_0 := blk_frozen BK378.out 0; have hfz10_1 := blk_frozen BK378.out 1; have hfz10_2 := blk_frozen BK378.out 2))
    go_ret
    exact ⟨by first | rfl | (simp [errW_none, errW_some] <;> rfl) | (simp [*, errW_none, errW_some] <;> rfl), by repeat (first | (with_reducible first | exact HB.out | apply below_alloc | apply pw_below_drewN | apply below_drew1 | refine below_set ?_ GE377.out | refine below_set ?_ GE378.out) | exact HB.out)⟩
   ·
    rw [if_neg c5] at H
    have c5b0 : (a0_2 == a1_2) = false := beq_eq_false_iff_ne.mpr c5
    have c5b1 : (a0_2 != a1_2) = true := bne_iff_ne.mpr c5
    obtain rfl := Option.some.inj H
    go_enter Try.func27, Try.ntmps27
    go_wp2_with (first | ((with_reducible refine gate_dst (N := 2) rfl ?_); refine box_event ?hg (N := 2) ?hd (cs := #[.int .i64 a0_0, .string a0_1, .int .i64 a0_2]) (t := 41) ?hr ?_; (case hd => rfl); (case hg => rfl); (case hr => first | (go_simp; done) | (go_simp; rfl)); intro gb377 hg w11 hbox hb; have n0_ := zA_ (below_step (zh_ HB.out) hb); have n1_ := zA_ (hbox); have n2_ := zA_ ((by rw [hg]; exact (below_size (zh_ HB.out)) : w.heap.size ≤ gb377)); have n3_ := zA_ ((by rw [hg]; exact (below_size (zh_ HB.out)) : w.heap.size ≤ gb377)); clear HB; have HB := n0_; have BK377 := n1_; have GW377 := n2_; have GE377 := n3_; clear n0_ n1_ n2_ n3_; clear hb hbox hg) | ((with_reducible refine gate_dst (N := 3) rfl ?_); refine box_event ?hg (N := 3) ?hd (cs := #[.int .i64 a1_0, .string a1_1, .int .i64 a1_2]) (t := 41) ?hr ?_; (case hd => rfl); (case hg => rfl); (case hr => first | (go_simp; done) | (go_simp; rfl)); intro gb378 hg w12 hbox hb; have n0_ := zA_ (blk_below (g := gb377) (o := .cells #[.int .i64 a0_0, .string a0_1, .int .i64 a0_2] 41 (0, 0)) (zb_ BK377.out) hb); have n1_ := zA_ (below_step (zg1_ HB.out GE377.out) hb); have n2_ := zA_ (hbox); have n3_ := zA_ ((by rw [hg]; exact (below_size (zg1_ HB.out GE377.out)) : w.heap.size ≤ gb378)); have n4_ := zA_ ((by rw [hg]; exact (below_size (zg1_ HB.out GE377.out)) : w.heap.size ≤ gb378)); have n5_ := zA_ ((by rw [hg]; exact Nat.ne_of_lt (blk_lt (g := gb377) (o := .cells #[.int .i64 a0_0, .string a0_1, .int .i64 a0_2] 41 (0, 0)) (zb_ BK377.out)) : gb377 ≠ gb378)); have n6_ := zA_ ((by rw [hg]; exact Nat.ne_of_gt (blk_lt (g := gb377) (o := .cells #[.int .i64 a0_0, .string a0_1, .int .i64 a0_2] 41 (0, 0)) (zb_ BK377.out)) : gb378 ≠ gb377)); clear BK377 HB; have BK377 := n0_; have HB := n1_; have BK378 := n2_; have GW378 := n3_; have GE378 := n4_; have NB377_378 := n5_; have NB378_377 := n6_; clear n0_ n1_ n2_ n3_ n4_ n5_ n6_; clear hb hbox hg; have hnb13 := NB377_378.out; have hnc13 := NB378_377.out; have hcz14_0 : w12.cell? ⟨gb377, 0, none⟩ = some (.int .i64 a0_0) := (blk_cell BK377.out 0).trans rfl; have hcz14_1 : w12.cell? ⟨gb377, 1, none⟩ = some (.string a0_1) := (blk_cell BK377.out 1).trans rfl; have hcz14_2 : w12.cell? ⟨gb377, 2, none⟩ = some (.int .i64 a0_2) := (blk_cell BK377.out 2).trans rfl; have hfz14_0 := blk_frozen BK377.out 0; have hfz14_1 := blk_frozen BK377.out 1; have hfz14_2 := blk_frozen BK377.out 2; have hcz15_0 : w12.cell? ⟨gb378, 0, none⟩ = some (.int .i64 a1_0) := (blk_cell BK378.out 0).trans rfl; have hcz15_1 : w12.cell? ⟨gb378, 1, none⟩ = some (.string a1_1) := (blk_cell BK378.out 1).trans rfl; have hcz15_2 : w12.cell? ⟨gb378, 2, none⟩ = some (.int .i64 a1_2) := (blk_cell BK378.out 2).trans rfl; have hfz15_0 := blk_frozen BK378.out 0; have hfz15_1 := blk_frozen BK378.out 1; have hfz15_2 := blk_frozen BK378.out 2))
    go_ret
    exact ⟨by first | rfl | (simp [errW_none, errW_some] <;> rfl) | (simp [*, errW_none, errW_some] <;> rfl), by repeat (first | (with_reducible first | exact HB.out | apply below_alloc | apply pw_below_drewN | apply below_drew1 | refine below_set ?_ GE377.out | refine below_set ?_ GE378.out) | exact HB.out)⟩
  ·
   rw [if_neg c4] at H
   have c4b0 : (a0_1.toList == a1_1.toList) = false := beq_eq_false_iff_ne.mpr c4
   have c4b1 : (a0_1.toList != a1_1.toList) = true := bne_iff_ne.mpr c4
   obtain rfl := Option.some.inj H
   go_enter Try.func27, Try.ntmps27
   go_wp2_with (first | ((with_reducible refine gate_dst (N := 2) rfl ?_); refine box_event ?hg (N := 2) ?hd (cs := #[.int .i64 a0_0, .string a0_1, .int .i64 a0_2]) (t := 41) ?hr ?_; (case hd => rfl); (case hg => rfl); (case hr => first | (go_simp; done) | (go_simp; rfl)); intro gb377 hg w16 hbox hb; have n0_ := zA_ (below_step (zh_ HB.out) hb); have n1_ := zA_ (hbox); have n2_ := zA_ ((by rw [hg]; exact (below_size (zh_ HB.out)) : w.heap.size ≤ gb377)); have n3_ := zA_ ((by rw [hg]; exact (below_size (zh_ HB.out)) : w.heap.size ≤ gb377)); clear HB; have HB := n0_; have BK377 := n1_; have GW377 := n2_; have GE377 := n3_; clear n0_ n1_ n2_ n3_; clear hb hbox hg) | ((with_reducible refine gate_dst (N := 3) rfl ?_); refine box_event ?hg (N := 3) ?hd (cs := #[.int .i64 a1_0, .string a1_1, .int .i64 a1_2]) (t := 41) ?hr ?_; (case hd => rfl); (case hg => rfl); (case hr => first | (go_simp; done) | (go_simp; rfl)); intro gb378 hg w17 hbox hb; have n0_ := zA_ (blk_below (g := gb377) (o := .cells #[.int .i64 a0_0, .string a0_1, .int .i64 a0_2] 41 (0, 0)) (zb_ BK377.out) hb); have n1_ := zA_ (below_step (zg1_ HB.out GE377.out) hb); have n2_ := zA_ (hbox); have n3_ := zA_ ((by rw [hg]; exact (below_size (zg1_ HB.out GE377.out)) : w.heap.size ≤ gb378)); have n4_ := zA_ ((by rw [hg]; exact (below_size (zg1_ HB.out GE377.out)) : w.heap.size ≤ gb378)); have n5_ := zA_ ((by rw [hg]; exact Nat.ne_of_lt (blk_lt (g := gb377) (o := .cells #[.int .i64 a0_0, .string a0_1, .int .i64 a0_2] 41 (0, 0)) (zb_ BK377.out)) : gb377 ≠ gb378)); have n6_ := zA_ ((by rw [hg]; exact Nat.ne_of_gt (blk_lt (g := gb377) (o := .cells #[.int .i64 a0_0, .string a0_1, .int .i64 a0_2] 41 (0, 0)) (zb_ BK377.out)) : gb378 ≠ gb377)); clear BK377 HB; have BK377 := n0_; have HB := n1_; have BK378 := n2_; have GW378 := n3_; have GE378 := n4_; have NB377_378 := n5_; have NB378_377 := n6_; clear n0_ n1_ n2_ n3_ n4_ n5_ n6_; clear hb hbox hg; have hnb18 := NB377_378.out; have hnc18 := NB378_377.out; have hcz19_0 : w17.cell? ⟨gb377, 0, none⟩ = some (.int .i64 a0_0) := (blk_cell BK377.out 0).trans rfl; have hcz19_1 : w17.cell? ⟨gb377, 1, none⟩ = some (.string a0_1) := (blk_cell BK377.out 1).trans rfl; have hcz19_2 : w17.cell? ⟨gb377, 2, none⟩ = some (.int .i64 a0_2) := (blk_cell BK377.out 2).trans rfl; have hfz19_0 := blk_frozen BK377.out 0; have hfz19_1 := blk_frozen BK377.out 1; have hfz19_2 := blk_frozen BK377.out 2; have hcz20_0 : w17.cell? ⟨gb378, 0, none⟩ = some (.int .i64 a1_0) := (blk_cell BK378.out 0).trans rfl; have hcz20_1 : w17.cell? ⟨gb378, 1, none⟩ = some (.string a1_1) := (blk_cell BK378.out 1).trans rfl; have hcz20_2 : w17.cell? ⟨gb378, 2, none⟩ = some (.int .i64 a1_2) := (blk_cell BK378.out 2).trans rfl; have hfz20_0 := blk_frozen BK378.out 0; have hfz20_1 := blk_frozen BK378.out 1; have hfz20_2 := blk_frozen BK378.out 2))
   go_ret
   exact ⟨by first | rfl | (simp [errW_none, errW_some] <;> rfl) | (simp [*, errW_none, errW_some] <;> rfl), by repeat (first | (with_reducible first | exact HB.out | apply below_alloc | apply pw_below_drewN | apply below_drew1 | refine below_set ?_ GE377.out | refine below_set ?_ GE378.out) | exact HB.out)⟩
 ·
  rw [if_neg c3] at H
  have c3b0 : (a0_0 == a1_0) = false := beq_eq_false_iff_ne.mpr c3
  have c3b1 : (a0_0 != a1_0) = true := bne_iff_ne.mpr c3
  obtain rfl := Option.some.inj H
  go_enter Try.func27, Try.ntmps27
  go_wp2_with (first | ((with_reducible refine gate_dst (N := 2) rfl ?_); refine box_event ?hg (N := 2) ?hd (cs := #[.int .i64 a0_0, .string a0_1, .int .i64 a0_2]) (t := 41) ?hr ?_; (case hd => rfl); (case hg => rfl); (case hr => first | (go_simp; done) | (go_simp; rfl)); intro gb377 hg w21 hbox hb; have n0_ := zA_ (below_step (zh_ HB.out) hb); have n1_ := zA_ (hbox); have n2_ := zA_ ((by rw [hg]; exact (below_size (zh_ HB.out)) : w.heap.size ≤ gb377)); have n3_ := zA_ ((by rw [hg]; exact (below_size (zh_ HB.out)) : w.heap.size ≤ gb377)); clear HB; have HB := n0_; have BK377 := n1_; have GW377 := n2_; have GE377 := n3_; clear n0_ n1_ n2_ n3_; clear hb hbox hg) | ((with_reducible refine gate_dst (N := 3) rfl ?_); refine box_event ?hg (N := 3) ?hd (cs := #[.int .i64 a1_0, .string a1_1, .int .i64 a1_2]) (t := 41) ?hr ?_; (case hd => rfl); (case hg => rfl); (case hr => first | (go_simp; done) | (go_simp; rfl)); intro gb378 hg w22 hbox hb; have n0_ := zA_ (blk_below (g := gb377) (o := .cells #[.int .i64 a0_0, .string a0_1, .int .i64 a0_2] 41 (0, 0)) (zb_ BK377.out) hb); have n1_ := zA_ (below_step (zg1_ HB.out GE377.out) hb); have n2_ := zA_ (hbox); have n3_ := zA_ ((by rw [hg]; exact (below_size (zg1_ HB.out GE377.out)) : w.heap.size ≤ gb378)); have n4_ := zA_ ((by rw [hg]; exact (below_size (zg1_ HB.out GE377.out)) : w.heap.size ≤ gb378)); have n5_ := zA_ ((by rw [hg]; exact Nat.ne_of_lt (blk_lt (g := gb377) (o := .cells #[.int .i64 a0_0, .string a0_1, .int .i64 a0_2] 41 (0, 0)) (zb_ BK377.out)) : gb377 ≠ gb378)); have n6_ := zA_ ((by rw [hg]; exact Nat.ne_of_gt (blk_lt (g := gb377) (o := .cells #[.int .i64 a0_0, .string a0_1, .int .i64 a0_2] 41 (0, 0)) (zb_ BK377.out)) : gb378 ≠ gb377)); clear BK377 HB; have BK377 := n0_; have HB := n1_; have BK378 := n2_; have GW378 := n3_; have GE378 := n4_; have NB377_378 := n5_; have NB378_377 := n6_; clear n0_ n1_ n2_ n3_ n4_ n5_ n6_; clear hb hbox hg; have hnb23 := NB377_378.out; have hnc23 := NB378_377.out; have hcz24_0 : w22.cell? ⟨gb377, 0, none⟩ = some (.int .i64 a0_0) := (blk_cell BK377.out 0).trans rfl; have hcz24_1 : w22.cell? ⟨gb377, 1, none⟩ = some (.string a0_1) := (blk_cell BK377.out 1).trans rfl; have hcz24_2 : w22.cell? ⟨gb377, 2, none⟩ = some (.int .i64 a0_2) := (blk_cell BK377.out 2).trans rfl; have hfz24_0 := blk_frozen BK377.out 0; have hfz24_1 := blk_frozen BK377.out 1; have hfz24_2 := blk_frozen BK377.out 2; have hcz25_0 : w22.cell? ⟨gb378, 0, none⟩ = some (.int .i64 a1_0) := (blk_cell BK378.out 0).trans rfl; have hcz25_1 : w22.cell? ⟨gb378, 1, none⟩ = some (.string a1_1) := (blk_cell BK378.out 1).trans rfl; have hcz25_2 : w22.cell? ⟨gb378, 2, none⟩ = some (.int .i64 a1_2) := (blk_cell BK378.out 2).trans rfl; have hfz25_0 := blk_frozen BK378.out 0; have hfz25_1 := blk_frozen BK378.out 1; have hfz25_2 := blk_frozen BK378.out 2))
  go_ret
  exact ⟨by first | rfl | (simp [errW_none, errW_some] <;> rfl) | (simp [*, errW_none, errW_some] <;> rfl), by repeat (first | (with_reducible first | exact HB.out | apply below_alloc | apply pw_below_drewN | apply below_drew1 | refine below_set ?_ GE377.out | refine below_set ?_ GE378.out) | exact HB.out)⟩

end Go.Proofs.Ytibnmnkembbgeaa.Q
