/- For each Go function that the laws of this text reach: a Lean function, and the proof that the Go function returns what the Lean function tells, wherever it tells some value. Written by a program of this session. -/
import Derived.Test.YtibnmnkembbgeaaKFnExactMetaActs0
import Derived.Test.YtibnmnkembbgeaaKFnExactMetaActs4
namespace Go.Proofs.Ytibnmnkembbgeaa.Q
open Go.RowKit Go.Proofs.YtibnmnkembbgeaaW.PrintWords Go.Proofs.YtibnmnkembbgeaaW.PrintLast Go.Proofs.YtibnmnkembbgeaaW.PrintMore
attribute [local go_sem] max2_int min2_int max_two min_two max_three min_three max_four min_four Instr.field asAgg   -- for this text's walks alone
set_option linter.unusedVariables false
set_option linter.unusedSimpArgs false
/-! ### impl_getNum: function 146 -/
mutual
def impl_getNum.l0 : Nat → ByteArray → Int → Int → Int → Option (Int × Int × Int)
 | 0, _, _, _, _ => none
 | k + 1, x0, x1, x7, x8 => if x1 ≥ (wrap64 ((x0.size : Int) - x8)) then (some (0, 0, 4)) else (if 0 ≤ (wrap64 (x1 + x8)) then (if (wrap64 (x1 + x8)) < (x0.size : Int) then (if x8 = 9 then (impl_getNum.j1 k x0 x1 x7 x8 (bt x0 (wrap64 (x1 + x8))) (decide ((bt x0 (wrap64 (x1 + x8))) > 1))) else (impl_getNum.j1 k x0 x1 x7 x8 (bt x0 (wrap64 (x1 + x8))) false)) else (none)) else (none))
def impl_getNum.j1 : Nat → ByteArray → Int → Int → Int → Int → Bool → Option (Int × Int × Int)
 | 0, _, _, _, _, _, _ => none
 | k + 1, x0, x1, x7, x8, x9, x31 => if x31 = true then (some (0, 0, 3)) else (if 0 ≤ (wrap64 (7 * x8)) then (if x9 > 127 then (impl_getNum.l0 k x0 x1 (Go.bits .or .u64 x7 (shl .u64 (IntKind.u64.wrap (Go.bits .and .u8 x9 127)) (wrap64 (7 * x8)))) (wrap64 (x8 + 1))) else (if x9 = 0 then (impl_getNum.j2 k x1 (Go.bits .or .u64 x7 (shl .u64 (IntKind.u64.wrap (Go.bits .and .u8 x9 127)) (wrap64 (7 * x8)))) x8 (decide (x8 > 0))) else (impl_getNum.j2 k x1 (Go.bits .or .u64 x7 (shl .u64 (IntKind.u64.wrap (Go.bits .and .u8 x9 127)) (wrap64 (7 * x8)))) x8 false))) else (none))
def impl_getNum.j2 : Nat → Int → Int → Int → Bool → Option (Int × Int × Int)
 | 0, _, _, _, _ => none
 | k + 1, x1, x7, x8, x47 => if x47 = true then (some (0, 0, 3)) else (if (Go.bits .and .u64 x7 1) = 1 then (some (Go.bits .xor .i64 (-1) (wrap64 (x7 / 2)), wrap64 ((wrap64 (x1 + x8)) + 1), 0)) else (some (wrap64 (x7 / 2), wrap64 ((wrap64 (x1 + x8)) + 1), 0)))
end
def impl_getNum.f (k : Nat) (a0 : ByteArray) (a1 : Int) : Option (Int × Int × Int) := if a1 < 0 then (some (0, 0, 1)) else (impl_getNum.l0 k a0 a1 0 0)
theorem impl_getNum.mono_l : ∀ k, (∀ y0 y1 y2 y3, LeO (impl_getNum.l0 k y0 y1 y2 y3) (impl_getNum.l0 (k + 1) y0 y1 y2 y3)) ∧ (∀ y0 y1 y2 y3 y4 y5, LeO (impl_getNum.j1 k y0 y1 y2 y3 y4 y5) (impl_getNum.j1 (k + 1) y0 y1 y2 y3 y4 y5)) ∧ (∀ y0 y1 y2 y3, LeO (impl_getNum.j2 k y0 y1 y2 y3) (impl_getNum.j2 (k + 1) y0 y1 y2 y3))
 | 0 => ⟨fun _ _ _ _ r h => by simp [impl_getNum.l0] at h, fun _ _ _ _ _ _ r h => by simp [impl_getNum.j1] at h, fun _ _ _ _ r h => by simp [impl_getNum.j2] at h⟩
 | k + 1 => by
  obtain ⟨ih0, ih1, ih2⟩ := impl_getNum.mono_l k
  refine ⟨?_, ?_, ?_⟩
  ·
   intro y0 y1 y2 y3
   unfold impl_getNum.l0
   repeat' first
   | (with_reducible exact ih0 _ _ _ _)
   | (with_reducible exact ih1 _ _ _ _ _ _)
   | (with_reducible exact ih2 _ _ _ _)
   | (with_reducible exact LeO.refl _)
   | (with_reducible exact LeO.none _)
   | (with_reducible refine LeO.ite ?_ ?_)
   | (with_reducible refine LeO.bind ?_ (fun _ => ?_))
   | exact ih0 _ _ _ _
   | exact ih1 _ _ _ _ _ _
   | exact ih2 _ _ _ _
   | exact LeO.none _
   | refine LeO.ite ?_ ?_
   | refine LeO.bind ?_ (fun _ => ?_)
  ·
   intro y0 y1 y2 y3 y4 y5
   unfold impl_getNum.j1
   repeat' first
   | (with_reducible exact ih0 _ _ _ _)
   | (with_reducible exact ih1 _ _ _ _ _ _)
   | (with_reducible exact ih2 _ _ _ _)
   | (with_reducible exact LeO.refl _)
   | (with_reducible exact LeO.none _)
   | (with_reducible refine LeO.ite ?_ ?_)
   | (with_reducible refine LeO.bind ?_ (fun _ => ?_))
   | exact ih0 _ _ _ _
   | exact ih1 _ _ _ _ _ _
   | exact ih2 _ _ _ _
   | exact LeO.none _
   | refine LeO.ite ?_ ?_
   | refine LeO.bind ?_ (fun _ => ?_)
  ·
   intro y0 y1 y2 y3
   unfold impl_getNum.j2
   repeat' first
   | (with_reducible exact ih0 _ _ _ _)
   | (with_reducible exact ih1 _ _ _ _ _ _)
   | (with_reducible exact ih2 _ _ _ _)
   | (with_reducible exact LeO.refl _)
   | (with_reducible exact LeO.none _)
   | (with_reducible refine LeO.ite ?_ ?_)
   | (with_reducible refine LeO.bind ?_ (fun _ => ?_))
   | exact ih0 _ _ _ _
   | exact ih1 _ _ _ _ _ _
   | exact ih2 _ _ _ _
   | exact LeO.none _
   | refine LeO.ite ?_ ?_
   | refine LeO.bind ?_ (fun _ => ?_)
theorem impl_getNum.mono : ∀ a0 a1 k, LeO (impl_getNum.f k a0 a1) (impl_getNum.f (k + 1) a0 a1) := by
 intro a0 a1 k
 obtain ⟨ih0, ih1, ih2⟩ := impl_getNum.mono_l k
 unfold impl_getNum.f
 repeat' first
   | (with_reducible exact ih0 _ _ _ _)
   | (with_reducible exact ih1 _ _ _ _ _ _)
   | (with_reducible exact ih2 _ _ _ _)
   | (with_reducible exact LeO.refl _)
   | (with_reducible exact LeO.none _)
   | (with_reducible refine LeO.ite ?_ ?_)
   | (with_reducible refine LeO.bind ?_ (fun _ => ?_))
   | exact ih0 _ _ _ _
   | exact ih1 _ _ _ _ _ _
   | exact ih2 _ _ _ _
   | exact LeO.none _
   | refine LeO.ite ?_ ?_
   | refine LeO.bind ?_ (fun _ => ?_)
set_option maxHeartbeats 8000000 in
set_option maxRecDepth 100000 in
theorem impl_getNum.calls (k : Nat) (a0 : ByteArray) (a1 : Int) (r1 : Int) (r2 : Int) (r3 : Int) (w : World) (h : impl_getNum.f k a0 a1 = some (r1, r2, r3)) :
  Calls Try.prog 146 #[.string a0, .int .i64 a1] w fun e w' => e = .returned (.tuple #[.int .i64 r1, .int .i64 r2, .int .i64 r3]) ∧ Drawn0 w w' := by
 have H : (if a1 < 0 then (some (0, 0, 1)) else (impl_getNum.l0 k a0 a1 0 0)) = some (r1, r2, r3) := h
 clear h
 by_cases c3 : a1 < 0
 ·
  rw [if_pos c3] at H
  have c3b0 : decide (a1 < 0) = true := decide_eq_true c3
  clear c3
  simp only [Option.some.injEq, Prod.mk.injEq] at H
  obtain ⟨rfl, rfl, rfl⟩ := H
  go_enter Try.func146, Try.ntmps146
  go_wp2
  go_ret3
  exact ⟨by first | rfl | (simp; done) | (simp [*]; done), by repeat (first | exact Drawn0.refl _ | apply Drawn0.step)⟩
 ·
  rw [if_neg c3] at H
  have c3b0 : decide (a1 < 0) = false := decide_eq_false c3
  clear c3
  have H' := zA_ H
  clear H
  go_enter Try.func146, Try.ntmps146
  go_wp2
  go_loopg [7, 8] k (fun kq v7 v8 w' => ∃ (x7_1 : Int) (x8_1 : Int), v7 = .int .u64 x7_1 ∧ v8 = .int .i64 x8_1 ∧ Aside0 (impl_getNum.l0 kq a0 a1 x7_1 x8_1 = some (r1, r2, r3)) ∧ Aside0 (kq ≤ k) ∧ Drawn0 w w')
  case atStart => exact ⟨(0), (0), (by first | rfl | (simp; done) | (simp [*]; done)), (by first | rfl | (simp; done) | (simp [*]; done)), H', ⟨Nat.le_refl _⟩, by repeat (first | exact Drawn0.refl _ | apply Drawn0.step)⟩
  case round =>
   clear H'
   try clear c1
   try clear p2
   try clear c3
   try clear c3b0
   obtain ⟨x7_1, x8_1, rfl, rfl, HA, HK1, ⟨m1, rfl⟩⟩ := hrel
   cases gk with
   | zero => exact absurd HA.out (by simp [impl_getNum.l0])
   | succ k1 =>
    have H := HA.out
    clear HA
    simp only [impl_getNum.l0] at H
    by_cases c4 : a1 ≥ (wrap64 ((a0.size : Int) - x8_1))
    ·
     rw [if_pos c4] at H
     have c4b0 : decide ((wrap64 ((a0.size : Int) - x8_1)) ≤ a1) = true := decide_eq_true c4
     clear c4
     simp only [Option.some.injEq, Prod.mk.injEq] at H
     obtain ⟨rfl, rfl, rfl⟩ := H
     go_wp2
     go_ret3
     exact ⟨by first | rfl | (simp; done) | (simp [*]; done), by repeat (first | exact Drawn0.refl _ | apply Drawn0.step)⟩
    ·
     rw [if_neg c4] at H
     have c4b0 : decide ((wrap64 ((a0.size : Int) - x8_1)) ≤ a1) = false := decide_eq_false c4
     clear c4
     obtain ⟨ji5, hji5⟩ : ∃ j_ : Int, (wrap64 (a1 + x8_1)) = j_ := ⟨_, rfl⟩
     replace H : (if 0 ≤ (ji5) then (if (ji5) < (a0.size : Int) then (if x8_1 = 9 then (impl_getNum.j1 k1 a0 a1 x7_1 x8_1 (bt a0 (ji5)) (decide ((bt a0 (ji5)) > 1))) else (impl_getNum.j1 k1 a0 a1 x7_1 x8_1 (bt a0 (ji5)) false)) else (none)) else (none)) = some (r1, r2, r3) := by first | (rw [hji5] at H; exact H) | (simp only [hji5] at H ⊢; exact H)
     have hji5w : (IntKind.i64.wrap (a1 + x8_1)) = ji5 := (i64_w _).trans hji5
     by_cases c6 : 0 ≤ (ji5)
     ·
      rw [if_pos c6] at H
      have c6b0 : decide (0 ≤ (ji5)) = true := decide_eq_true c6
      clear c6
      by_cases c7 : (ji5) < (a0.size : Int)
      ·
       rw [if_pos c7] at H
       have c7b0 : decide ((ji5) < (a0.size : Int)) = true := decide_eq_true c7
       clear c7
       have HC9 := zA_ H
       clear H
       have p8 : 0 ≤ ((ji5) : Int) := of_decide_eq_true (by first | (with_reducible assumption) | assumption)
       have q8 : (ji5) < (a0.size : Int) := of_decide_eq_true (by first | (with_reducible assumption) | assumption)
       have hx8 := bt_at a0 (ji5)
       replace p8 := eq_true p8
       replace q8 := eq_true q8
       go_upto_region 9 with (fail)
       go_cut [31] (fun v31 wc => ∃ (kq : Nat) (x31_8 : Bool), v31 = .bool x31_8 ∧ Aside0 (impl_getNum.j1 kq a0 a1 x7_1 x8_1 (bt a0 (ji5)) x31_8 = some (r1, r2, r3)) ∧ Aside0 (kq ≤ k1) ∧ Drawn0 w wc)
       case first =>
        have H := HC9.out
        clear HC9
        by_cases c10 : x8_1 = 9
        ·
         rw [if_pos c10] at H
         have c10b0 : (x8_1 == 9) = true := beq_iff_eq.mpr c10
         have c10b1 : (x8_1 != 9) = false := bne_eq_false_iff_eq.mpr c10
         clear c10
         (first | rw [c10b0] | (simp only [i64_w, i32_w]; rw [c10b0]) | skip)
         have H' := zA_ H
         clear H
         go_wp2
         go_meet
         case rel => exact ⟨_, (decide ((bt a0 (ji5)) > 1)), (by first | rfl | (simp; done) | (simp only [← hji5] <;> (first | rfl | simp)) | (simp [*]; done)), H', ⟨by have := HK1.out; first | omega | exact Nat.le_refl _⟩, by repeat (first | exact Drawn0.refl _ | apply Drawn0.step)⟩
        ·
         rw [if_neg c10] at H
         have c10b0 : (x8_1 == 9) = false := beq_eq_false_iff_ne.mpr c10
         have c10b1 : (x8_1 != 9) = true := bne_iff_ne.mpr c10
         (first | rw [c10b0] | (simp only [i64_w, i32_w]; rw [c10b0]) | skip)
         have H' := zA_ H
         clear H
         go_wp2
         go_meet
         case rel => exact ⟨_, (false), (by first | rfl | (simp; done) | (simp [*]; done)), H', ⟨by have := HK1.out; first | omega | exact Nat.le_refl _⟩, by repeat (first | exact Drawn0.refl _ | apply Drawn0.step)⟩
       case rest =>
        clear HC9
        try clear c1
        try clear p2
        try clear c3
        try clear c3b0
        try clear c4
        try clear c4b0
        try clear c6
        try clear c6b0
        try clear p6
        try clear c7
        try clear c7b0
        try clear p8
        try clear q8
        try clear hx8
        try clear c10
        try clear c10b0
        try clear c10b1
        try clear p2
        try clear p8
        try clear q8
        obtain ⟨kq, x31_8, rfl, HA, HJ8, ⟨mc8, rfl⟩⟩ := hcut
        cases kq with
        | zero => exact absurd HA.out (by simp [impl_getNum.j1])
        | succ kj8 =>
         have H := HA.out
         clear HA
         simp only [impl_getNum.j1] at H
         by_cases c11 : x31_8 = true
         ·
          subst c11
          have H1 : (some (0, 0, 3)) = some (r1, r2, r3) := by rw [if_pos rfl] at H; exact H
          clear H
          have H := H1
          clear H1
          simp only [Option.some.injEq, Prod.mk.injEq] at H
          obtain ⟨rfl, rfl, rfl⟩ := H
          go_wp2
          go_ret3
          exact ⟨by first | rfl | (simp; done) | (simp only [← hji5] <;> (first | rfl | simp)) | (simp [*]; done), by repeat (first | exact Drawn0.refl _ | apply Drawn0.step)⟩
         ·
          replace c11 := Bool.eq_false_iff.mpr c11
          subst c11
          have H1 : (if 0 ≤ (wrap64 (7 * x8_1)) then (if (bt a0 (ji5)) > 127 then (impl_getNum.l0 kj8 a0 a1 (Go.bits .or .u64 x7_1 (shl .u64 (IntKind.u64.wrap (Go.bits .and .u8 (bt a0 (ji5)) 127)) (wrap64 (7 * x8_1)))) (wrap64 (x8_1 + 1))) else (if (bt a0 (ji5)) = 0 then (impl_getNum.j2 kj8 a1 (Go.bits .or .u64 x7_1 (shl .u64 (IntKind.u64.wrap (Go.bits .and .u8 (bt a0 (ji5)) 127)) (wrap64 (7 * x8_1)))) x8_1 (decide (x8_1 > 0))) else (impl_getNum.j2 kj8 a1 (Go.bits .or .u64 x7_1 (shl .u64 (IntKind.u64.wrap (Go.bits .and .u8 (bt a0 (ji5)) 127)) (wrap64 (7 * x8_1)))) x8_1 false))) else (none)) = some (r1, r2, r3) := by rw [if_neg (show ¬ (false = true) by decide)] at H; exact H
          clear H
          have H := H1
          clear H1
          obtain ⟨ji12, hji12⟩ : ∃ j_ : Int, (wrap64 (7 * x8_1)) = j_ := ⟨_, rfl⟩
          replace H : (if 0 ≤ (ji12) then (if (bt a0 (ji5)) > 127 then (impl_getNum.l0 kj8 a0 a1 (Go.bits .or .u64 x7_1 (shl .u64 (IntKind.u64.wrap (Go.bits .and .u8 (bt a0 (ji5)) 127)) (ji12))) (wrap64 (x8_1 + 1))) else (if (bt a0 (ji5)) = 0 then (impl_getNum.j2 kj8 a1 (Go.bits .or .u64 x7_1 (shl .u64 (IntKind.u64.wrap (Go.bits .and .u8 (bt a0 (ji5)) 127)) (ji12))) x8_1 (decide (x8_1 > 0))) else (impl_getNum.j2 kj8 a1 (Go.bits .or .u64 x7_1 (shl .u64 (IntKind.u64.wrap (Go.bits .and .u8 (bt a0 (ji5)) 127)) (ji12))) x8_1 false))) else (none)) = some (r1, r2, r3) := by first | (rw [hji12] at H; exact H) | (simp only [hji12] at H ⊢; exact H)
          have hji12w : (IntKind.i64.wrap (7 * x8_1)) = ji12 := (i64_w _).trans hji12
          by_cases c13 : 0 ≤ (ji12)
          ·
           rw [if_pos c13] at H
           have c13b0 := eq_true c13
           have c13b1 : decide (0 ≤ (ji12)) = true := decide_eq_true c13
           clear c13
           obtain ⟨ji14, hji14⟩ : ∃ j_ : Int, (shl .u64 (IntKind.u64.wrap (Go.bits .and .u8 (bt a0 (ji5)) 127)) (ji12)) = j_ := ⟨_, rfl⟩
           replace H : (if (bt a0 (ji5)) > 127 then (impl_getNum.l0 kj8 a0 a1 (Go.bits .or .u64 x7_1 (ji14)) (wrap64 (x8_1 + 1))) else (if (bt a0 (ji5)) = 0 then (impl_getNum.j2 kj8 a1 (Go.bits .or .u64 x7_1 (ji14)) x8_1 (decide (x8_1 > 0))) else (impl_getNum.j2 kj8 a1 (Go.bits .or .u64 x7_1 (ji14)) x8_1 false))) = some (r1, r2, r3) := by first | (rw [hji14] at H; exact H) | (simp only [hji14] at H ⊢; exact H)
           have hji14_ : (IntKind.u64.wrap ((IntKind.u64.wrap (Go.bits .and .u8 (bt a0 (ji5)) 127)) * 2 ^ min (ji12).toNat 64)) = ji14 := hji14
           have hji14z : (ji12) ≤ 64 → (IntKind.u64.wrap ((IntKind.u64.wrap (Go.bits .and .u8 (bt a0 (ji5)) 127)) * 2 ^ (ji12).toNat)) = ji14 := shl_small hji14
           by_cases c15 : (bt a0 (ji5)) > 127
           ·
            rw [if_pos c15] at H
            have c15b0 : decide (127 < (bt a0 (ji5))) = true := decide_eq_true c15
            clear c15
            have H' := zA_ H
            clear H
            go_wp2
            go_roundg kj8
            case measure => have := HK1.out; have := HJ8.out; omega
            case rel => exact ⟨(Go.bits .or .u64 x7_1 (ji14)), (wrap64 (x8_1 + 1)), (by first | rfl | (simp; done) | (simp only [← hji14] <;> (first | rfl | simp)) | (simp [*]; done)), (by first | rfl | (simp; done) | (simp [*]; done)), H', ⟨by have := HK1.out; have := HJ8.out; omega⟩, by repeat (first | exact Drawn0.refl _ | apply Drawn0.step)⟩
           ·
            rw [if_neg c15] at H
            have c15b0 : decide (127 < (bt a0 (ji5))) = false := decide_eq_false c15
            clear c15
            have HC16 := zA_ H
            clear H
            go_upto_region 13 with (fail)
            go_cut [47] (fun v47 wc => ∃ (kq : Nat) (x47_15 : Bool), v47 = .bool x47_15 ∧ Aside0 (impl_getNum.j2 kq a1 (Go.bits .or .u64 x7_1 (ji14)) x8_1 x47_15 = some (r1, r2, r3)) ∧ Aside0 (kq ≤ kj8) ∧ Drawn0 w wc)
            case first =>
             have H := HC16.out
             clear HC16
             by_cases c17 : (bt a0 (ji5)) = 0
             ·
              rw [if_pos c17] at H
              have c17b0 : ((bt a0 (ji5)) == 0) = true := beq_iff_eq.mpr c17
              have c17b1 : ((bt a0 (ji5)) != 0) = false := bne_eq_false_iff_eq.mpr c17
              clear c17
              (first | rw [c17b0] | (simp only [i64_w, i32_w]; rw [c17b0]) | skip)
              have H' := zA_ H
              clear H
              go_wp2
              go_meet
              case rel => exact ⟨_, (decide (x8_1 > 0)), (by first | rfl | (simp; done) | (simp [*]; done)), H', ⟨by have := HK1.out; have := HJ8.out; first | omega | exact Nat.le_refl _⟩, by repeat (first | exact Drawn0.refl _ | apply Drawn0.step)⟩
             ·
              rw [if_neg c17] at H
              have c17b0 : ((bt a0 (ji5)) == 0) = false := beq_eq_false_iff_ne.mpr c17
              have c17b1 : ((bt a0 (ji5)) != 0) = true := bne_iff_ne.mpr c17
              (first | rw [c17b0] | (simp only [i64_w, i32_w]; rw [c17b0]) | skip)
              have H' := zA_ H
              clear H
              go_wp2
              go_meet
              case rel => exact ⟨_, (false), (by first | rfl | (simp; done) | (simp [*]; done)), H', ⟨by have := HK1.out; have := HJ8.out; first | omega | exact Nat.le_refl _⟩, by repeat (first | exact Drawn0.refl _ | apply Drawn0.step)⟩
            case rest =>
             clear HC16
             try clear c1
             try clear p2
             try clear c3
             try clear c3b0
             try clear c4
             try clear c4b0
             try clear c6
             try clear c6b0
             try clear p6
             try clear c7
             try clear c7b0
             try clear c8
             try clear p8
             try clear q8
             try clear hx8
             try clear c10
             try clear c10b0
             try clear c10b1
             try clear c11
             try clear c13
             try clear c13b0
             try clear c13b1
             try clear c14
             try clear c15
             try clear c15b0
             try clear c17
             try clear c17b0
             try clear c17b1
             try clear p2
             try clear p6
             try clear p8
             try clear q8
             obtain ⟨kq, x47_15, rfl, HA, HJ15, ⟨mc15, rfl⟩⟩ := hcut
             cases kq with
             | zero => exact absurd HA.out (by simp [impl_getNum.j2])
             | succ kj15 =>
              have H := HA.out
              clear HA
              simp only [impl_getNum.j2] at H
              by_cases c18 : x47_15 = true
              ·
               subst c18
               have H1 : (some (0, 0, 3)) = some (r1, r2, r3) := by rw [if_pos rfl] at H; exact H
               clear H
               have H := H1
               clear H1
               simp only [Option.some.injEq, Prod.mk.injEq] at H
               obtain ⟨rfl, rfl, rfl⟩ := H
               go_wp2
               go_ret3
               exact ⟨by first | rfl | (simp; done) | (simp only [← hji5, ← hji12, ← hji14] <;> (first | rfl | simp)) | (simp [*]; done), by repeat (first | exact Drawn0.refl _ | apply Drawn0.step)⟩
              ·
               replace c18 := Bool.eq_false_iff.mpr c18
               subst c18
               have H1 : (if (Go.bits .and .u64 (Go.bits .or .u64 x7_1 (ji14)) 1) = 1 then (some (Go.bits .xor .i64 (-1) (wrap64 ((Go.bits .or .u64 x7_1 (ji14)) / 2)), wrap64 ((wrap64 (a1 + x8_1)) + 1), 0)) else (some (wrap64 ((Go.bits .or .u64 x7_1 (ji14)) / 2), wrap64 ((wrap64 (a1 + x8_1)) + 1), 0))) = some (r1, r2, r3) := by rw [if_neg (show ¬ (false = true) by decide)] at H; exact H
               clear H
               have H := H1
               clear H1
               by_cases c19 : (Go.bits .and .u64 (Go.bits .or .u64 x7_1 (ji14)) 1) = 1
               ·
                rw [if_pos c19] at H
                have c19b0 : ((Go.bits .and .u64 (Go.bits .or .u64 x7_1 (ji14)) 1) == 1) = true := beq_iff_eq.mpr c19
                have c19b1 : ((Go.bits .and .u64 (Go.bits .or .u64 x7_1 (ji14)) 1) != 1) = false := bne_eq_false_iff_eq.mpr c19
                clear c19
                simp only [Option.some.injEq, Prod.mk.injEq] at H
                obtain ⟨rfl, rfl, rfl⟩ := H
                go_wp2
                go_ret3
                exact ⟨by first | rfl | (simp; done) | (simp only [← hji5, ← hji12, ← hji14] <;> (first | rfl | simp)) | (simp [*]; done), by repeat (first | exact Drawn0.refl _ | apply Drawn0.step)⟩
               ·
                rw [if_neg c19] at H
                have c19b0 : ((Go.bits .and .u64 (Go.bits .or .u64 x7_1 (ji14)) 1) == 1) = false := beq_eq_false_iff_ne.mpr c19
                have c19b1 : ((Go.bits .and .u64 (Go.bits .or .u64 x7_1 (ji14)) 1) != 1) = true := bne_iff_ne.mpr c19
                simp only [Option.some.injEq, Prod.mk.injEq] at H
                obtain ⟨rfl, rfl, rfl⟩ := H
                go_wp2
                go_ret3
                exact ⟨by first | rfl | (simp; done) | (simp only [← hji5, ← hji12, ← hji14] <;> (first | rfl | simp)) | (simp [*]; done), by repeat (first | exact Drawn0.refl _ | apply Drawn0.step)⟩
          ·
           rw [if_neg c13] at H
           exact absurd H (by simp)
      ·
       rw [if_neg c7] at H
       exact absurd H (by simp)
     ·
      rw [if_neg c6] at H
      exact absurd H (by simp)

/-- A state of type 147 at block g of W; what its slices lead to came in by w0. -/
def IsS147 (w0 W : World) (g : Nat) (f0 : ByteArray) (f1 : Int) (f2 : Bool) : Prop := W.heap[g]? = some (.cells #[.string f0, .int .i64 f1, .bool f2] 147 (0, 0)) ∧ w0.heap.size ≤ g
theorem IsS147.grown {w0 W : World} {g : Nat} {f0 : ByteArray} {f1 : Int} {f2 : Bool} {W1 : World} {row : Option Nat} (h : IsS147 w0 W g f0 f1 f2) (hw : W.grownBy W1 row) (hne : some g ≠ row) : IsS147 w0 W1 g f0 f1 f2 := by
 obtain ⟨hb, hg⟩ := h
 exact ⟨blk_grown hb hw hne, hg⟩
theorem IsS147.own_neN {w0 W : World} {g : Nat} {f0 : ByteArray} {f1 : Int} {f2 : Bool} {α : Type} {d : Kd α} {e : Nat} {base : Nat} {ok : Nat → Prop} {v : Value} {xs : List α} (h : IsS147 w0 W g f0 f1 f2) (ho : Kd.N d e W base ok v xs) (ht : e ≠ 147) : some g ≠ v.ownBlock := by
 obtain ⟨hb, hg⟩ := h
 exact Kd.N_ne ho hb ht
theorem IsS147.fresh {w0 W : World} {g : Nat} {f0 : ByteArray} {f1 : Int} {f2 : Bool} (h : IsS147 w0 W g f0 f1 f2) : ∀ k, W.heap.size ≤ k → k ≠ g := by
 obtain ⟨hb, hg⟩ := h
 exact Kd.freshB hb
theorem IsS147.kept {w0 W : World} {g : Nat} {f0 : ByteArray} {f1 : Int} {f2 : Bool} {W1 : World} {S : Nat → Prop} (h : IsS147 w0 W g f0 f1 f2) (hk : Kept W W1 S) (hne : ¬ S g) : IsS147 w0 W1 g f0 f1 f2 := by
 obtain ⟨hb, hg⟩ := h
 exact ⟨blk_kept hb hk hne, hg⟩
theorem IsS147.below {w0 W : World} {g : Nat} {f0 : ByteArray} {f1 : Int} {f2 : Bool} {W1 : World} (h : IsS147 w0 W g f0 f1 f2) (hw : Below W.heap.size W W1) : IsS147 w0 W1 g f0 f1 f2 := h.grown (grown_of_below hw none) (by simp)
theorem IsS147.alloc {w0 W : World} {g : Nat} {f0 : ByteArray} {f1 : Int} {f2 : Bool} (h : IsS147 w0 W g f0 f1 f2) (o : Obj) : IsS147 w0 (W.alloc o) g f0 f1 f2 := h.below (below_alloc (Below.refl _ _) o)
theorem IsS147.drewN {w0 W : World} {g : Nat} {f0 : ByteArray} {f1 : Int} {f2 : Bool} (h : IsS147 w0 W g f0 f1 f2) (m : Nat) : IsS147 w0 (W.drewN m) g f0 f1 f2 := h
theorem IsS147.drew {w0 W : World} {g : Nat} {f0 : ByteArray} {f1 : Int} {f2 : Bool} (h : IsS147 w0 W g f0 f1 f2) : IsS147 w0 W.drew g f0 f1 f2 := h
theorem IsS147.at_ {w0 W : World} {g : Nat} {f0 : ByteArray} {f1 : Int} {f2 : Bool} {w' : World} {m : Nat} (hq : W.drewN m = w') (h : IsS147 w0 W g f0 f1 f2) : IsS147 w0 w' g f0 f1 f2 := by subst hq; exact IsS147.drewN h m
theorem IsS147.apart {w0 W : World} {g : Nat} {f0 : ByteArray} {f1 : Int} {f2 : Bool} {α : Type} {d : Kd α} {e : Nat} {base : Nat} {ok : Nat → Prop} {v : Value} {xs : List α} (h : IsS147 w0 W g f0 f1 f2) (ho : d.R e W base ok v xs) (ht : ∀ q, q ∈ e :: d.E → q ≠ 147) : d.R e W base (fun k => ok k ∧ k ≠ g) v xs := by
 obtain ⟨hb, hg⟩ := h
 exact Kd.R_types ho hb ht
theorem IsS147.own_ne {w0 W : World} {g : Nat} {f0 : ByteArray} {f1 : Int} {f2 : Bool} {α : Type} {d : Kd α} {e : Nat} {base : Nat} {ok : Nat → Prop} {v : Value} {xs : List α} (h : IsS147 w0 W g f0 f1 f2) (ho : d.R e W base ok v xs) (ht : e ≠ 147) : some g ≠ v.ownBlock := by
 obtain ⟨hb, hg⟩ := h
 exact Kd.R_ne ho hb ht
theorem IsS147.apartQ {w0 W : World} {g : Nat} {f0 : ByteArray} {f1 : Int} {f2 : Bool} {α : Type} {d : Kd α} {e : Nat} {base : Nat} {ok : Nat → Prop} {v : Value} {xs : List α} (h : IsS147 w0 W g f0 f1 f2) (ho : d.Q e W base ok v xs) (ht : ∀ q, q ∈ e :: d.E → q ≠ 147) : d.Q e W base (fun k => ok k ∧ k ≠ g) v xs := by
 obtain ⟨hb, hg⟩ := h
 exact Kd.Q_types ho hb ht
theorem IsS147.own_neQ {w0 W : World} {g : Nat} {f0 : ByteArray} {f1 : Int} {f2 : Bool} {α : Type} {d : Kd α} {e : Nat} {base : Nat} {ok : Nat → Prop} {v : Value} {xs : List α} (h : IsS147 w0 W g f0 f1 f2) (ho : d.Q e W base ok v xs) (ht : e ≠ 147) : some g ≠ v.ownBlock := by
 obtain ⟨hb, hg⟩ := h
 exact Kd.Q_ne ho hb ht
theorem IsS147.apartS {w0 W : World} {g : Nat} {f0 : ByteArray} {f1 : Int} {f2 : Bool} {α : Type} {d : Kd α} {e : Nat} {base : Nat} {ok : Nat → Prop} {v : Value} {xs : List α} (h : IsS147 w0 W g f0 f1 f2) (ho : d.S e W base ok v xs) (ht : ∀ q, q ∈ e :: d.E → q ≠ 147) : d.S e W base (fun k => ok k ∧ k ≠ g) v xs := by
 obtain ⟨hb, hg⟩ := h
 exact Kd.S_types ho hb ht
theorem IsS147.own_neS {w0 W : World} {g : Nat} {f0 : ByteArray} {f1 : Int} {f2 : Bool} {α : Type} {d : Kd α} {e : Nat} {base : Nat} {ok : Nat → Prop} {v : Value} {xs : List α} (h : IsS147 w0 W g f0 f1 f2) (ho : d.S e W base ok v xs) (ht : e ≠ 147) : some g ≠ v.ownBlock := by
 obtain ⟨hb, hg⟩ := h
 exact Kd.S_ne ho hb ht
theorem IsS147.lt {w0 W : World} {g : Nat} {f0 : ByteArray} {f1 : Int} {f2 : Bool} (h : IsS147 w0 W g f0 f1 f2) : g < W.heap.size := by
 obtain ⟨hb, hg⟩ := h
 exact blk_lt hb
theorem IsS147.ge {w0 W : World} {g : Nat} {f0 : ByteArray} {f1 : Int} {f2 : Bool} (h : IsS147 w0 W g f0 f1 f2) : w0.heap.size ≤ g := by
 obtain ⟨hb, hg⟩ := h
 exact hg
theorem IsS147.ne_blk {w0 W : World} {g : Nat} {f0 : ByteArray} {f1 : Int} {f2 : Bool} {a : Nat} {cs : Array Value} {t : TypeId} {fr : Nat × Nat} (h : IsS147 w0 W g f0 f1 f2) (hb2 : W.heap[a]? = some (.cells cs t fr)) (ht : t ≠ 147) : g ≠ a := by
 obtain ⟨hb, hg⟩ := h
 rintro rfl
 rw [hb] at hb2
 injection hb2 with hb2
 injection hb2 with _ ht2
 exact ht ht2.symm
theorem IsS147.far {w0 W : World} {g : Nat} {f0 : ByteArray} {f1 : Int} {f2 : Bool} {p : Addr} (h : IsS147 w0 W g f0 f1 f2) (hne : g ≠ p.block) (u : Value) : IsS147 w0 (W.setCell p u) g f0 f1 f2 := by
 obtain ⟨hb, hg⟩ := h
 exact ⟨blk_far hb hne u, hg⟩
theorem cellS147_0 {W : World} {g : Nat} {f0 : ByteArray} {f1 : Int} {f2 : Bool} (h : W.heap[g]? = some (.cells #[.string f0, .int .i64 f1, .bool f2] 147 (0, 0))) : W.cell? ⟨g, 0, none⟩ = some (.string f0) := (blk_cell h 0).trans rfl
theorem IsS147.set_0 {w0 W : World} {g : Nat} {f0 : ByteArray} {f1 : Int} {f2 : Bool} (h : IsS147 w0 W g f0 f1 f2) (x : ByteArray) : IsS147 w0 (W.setCell ⟨g, 0, none⟩ (.string x)) g x f1 f2 := by
 obtain ⟨hb, hg⟩ := h
 exact ⟨by simpa using blk_set hb 0 (.string x), hg⟩
theorem cellS147_1 {W : World} {g : Nat} {f0 : ByteArray} {f1 : Int} {f2 : Bool} (h : W.heap[g]? = some (.cells #[.string f0, .int .i64 f1, .bool f2] 147 (0, 0))) : W.cell? ⟨g, 1, none⟩ = some (.int .i64 f1) := (blk_cell h 1).trans rfl
theorem IsS147.set_1 {w0 W : World} {g : Nat} {f0 : ByteArray} {f1 : Int} {f2 : Bool} (h : IsS147 w0 W g f0 f1 f2) (x : Int) : IsS147 w0 (W.setCell ⟨g, 1, none⟩ (.int .i64 x)) g f0 x f2 := by
 obtain ⟨hb, hg⟩ := h
 exact ⟨by simpa using blk_set hb 1 (.int .i64 x), hg⟩
theorem cellS147_2 {W : World} {g : Nat} {f0 : ByteArray} {f1 : Int} {f2 : Bool} (h : W.heap[g]? = some (.cells #[.string f0, .int .i64 f1, .bool f2] 147 (0, 0))) : W.cell? ⟨g, 2, none⟩ = some (.bool f2) := (blk_cell h 2).trans rfl
theorem IsS147.set_2 {w0 W : World} {g : Nat} {f0 : ByteArray} {f1 : Int} {f2 : Bool} (h : IsS147 w0 W g f0 f1 f2) (x : Bool) : IsS147 w0 (W.setCell ⟨g, 2, none⟩ (.bool x)) g f0 f1 x := by
 obtain ⟨hb, hg⟩ := h
 exact ⟨by simpa using blk_set hb 2 (.bool x), hg⟩
theorem IsS147.new (w0 W : World) (f0 : ByteArray) (f1 : Int) (f2 : Bool) (hB : Below w0.heap.size w0 W) : IsS147 w0 (W.alloc (.cells #[.string f0, .int .i64 f1, .bool f2] 147)) W.heap.size f0 f1 f2 := ⟨by simpa using heap_alloc_new W _, hB.size⟩

/-! ### impl_reader_num: function 136 -/
def impl_reader_num.f (k : Nat) (s0_0 : ByteArray) (s0_1 : Int) (s0_2 : Bool) : Option (Int × ByteArray × Int × Bool) := (impl_getNum.f k s0_0 s0_1).bind fun bt363 => (if bt363.2.2 = 0 then (some (bt363.1, s0_0, bt363.2.1, s0_2)) else (some (0, s0_0, s0_1, true)))
theorem impl_reader_num.mono : ∀ a0 a1 a2 k, LeO (impl_reader_num.f k a0 a1 a2) (impl_reader_num.f (k + 1) a0 a1 a2) := by
 intro a0 a1 a2 k
 unfold impl_reader_num.f
 repeat' first
   | (with_reducible exact impl_getNum.mono _ _ _)
   | (with_reducible exact LeO.refl _)
   | (with_reducible exact LeO.none _)
   | (with_reducible refine LeO.ite ?_ ?_)
   | (with_reducible refine LeO.bind ?_ (fun _ => ?_))
   | exact impl_getNum.mono _ _ _
   | exact LeO.none _
   | refine LeO.ite ?_ ?_
   | refine LeO.bind ?_ (fun _ => ?_)
set_option maxHeartbeats 8000000 in
set_option maxRecDepth 100000 in
theorem impl_reader_num.calls (k : Nat) (g : Nat) (s0_0 : ByteArray) (s0_1 : Int) (s0_2 : Bool) (r1 : Int) (r2 : ByteArray) (r3 : Int) (r4 : Bool) (w0 w : World) (hI : IsS147 w0 w g s0_0 s0_1 s0_2) (hB : Below w0.heap.size w0 w) (h : impl_reader_num.f k s0_0 s0_1 s0_2 = some (r1, r2, r3, r4)) :
  Calls Try.prog 136 #[.pointer (some ⟨g, 0, none⟩)] w fun e w' => e = .returned (.int .i64 r1) ∧ IsS147 w0 w' g r2 r3 r4 ∧ Below w0.heap.size w0 w' ∧ KeepBut w w' g none := by
 have HI0 := zA_ hI
 have HK := zA_ (KeepBut.refl w g none)
 have HL := zA_ hB.size
 clear hI
 have HW0 := zA_ hB.size
 have HB := zA_ hB
 clear hB
 have H : ((impl_getNum.f k s0_0 s0_1).bind fun bt363 => (if bt363.2.2 = 0 then (some (bt363.1, s0_0, bt363.2.1, s0_2)) else (some (0, s0_0, s0_1, true)))) = some (r1, r2, r3, r4) := h
 clear h
 replace H := Option.bind_eq_some_iff.mp H
 obtain ⟨⟨t363, t364, t365⟩, A20, H⟩ := H
 replace H : (if t365 = 0 then (some (t363, s0_0, t364, s0_2)) else (some (0, s0_0, s0_1, true))) = some (r1, r2, r3, r4) := H
 have A2 := zA_ A20
 clear A20
 by_cases c3 : t365 = 0
 ·
  rw [if_pos c3] at H
  have c3b0 : (t365 == 0) = true := beq_iff_eq.mpr c3
  have c3b1 : (t365 != 0) = false := bne_eq_false_iff_eq.mpr c3
  clear c3
  simp only [Option.some.injEq, Prod.mk.injEq] at H
  obtain ⟨rfl, rfl, rfl, rfl⟩ := H
  obtain ⟨HGz4, hgz4⟩ := HI0.out
  have hcz4_0 := cellS147_0 HGz4
  have hcz4_1 := cellS147_1 HGz4
  have hcz4_2 := cellS147_2 HGz4
  have hfz4_0 := blk_frozen HGz4 0
  have hfz4_1 := blk_frozen HGz4 1
  have hfz4_2 := blk_frozen HGz4 2
  clear HGz4 hgz4
  go_enter Try.func136, Try.ntmps136
  go_wp2_with (first | (go_at_call 146; (with_reducible refine (impl_getNum.calls k s0_0 s0_1 t363 t364 t365 _ A2.out).mono ?_); rintro e w' ⟨rfl, ⟨nd, rfl⟩⟩; (try first | exact ⟨rfl, _, World.drewN_drewN _ _ _⟩ | exact ⟨rfl, _, Eq.trans (World.drewN_drewN _ _ _) (congrArg (World.drewN _) (Nat.add_assoc _ _ _))⟩)))
  repeat (go_quiet (first | (go_at_call 146; (with_reducible refine (impl_getNum.calls k s0_0 s0_1 t363 t364 t365 _ A2.out).mono ?_); rintro e w' ⟨rfl, ⟨nd, rfl⟩⟩; (try first | exact ⟨rfl, _, World.drewN_drewN _ _ _⟩ | exact ⟨rfl, _, Eq.trans (World.drewN_drewN _ _ _) (congrArg (World.drewN _) (Nat.add_assoc _ _ _))⟩))); try go_wp2_with (first | (go_at_call 146; (with_reducible refine (impl_getNum.calls k s0_0 s0_1 t363 t364 t365 _ A2.out).mono ?_); rintro e w' ⟨rfl, ⟨nd, rfl⟩⟩; (try first | exact ⟨rfl, _, World.drewN_drewN _ _ _⟩ | exact ⟨rfl, _, Eq.trans (World.drewN_drewN _ _ _) (congrArg (World.drewN _) (Nat.add_assoc _ _ _))⟩))))
  go_ret
  exact ⟨by first | rfl | (simp [errW_none, errW_some] <;> rfl) | (simp [*, errW_none, errW_some] <;> rfl), by repeat (first | (with_reducible first | exact HI0.out | apply IsS147.alloc | apply IsS147.drewN | apply IsS147.drew | apply IsS147.set_0 | apply IsS147.set_1 | apply IsS147.set_2) | exact HI0.out), by repeat (first | (with_reducible first | exact HB.out | apply below_alloc | apply pw_below_drewN | apply below_drew1 | refine below_set ?_ (IsS147.ge HI0.out)) | exact HB.out), by repeat (first | (with_reducible first | exact HK.out | apply KeepBut.set_ | apply keep_drewN | apply keep_drew | apply keep_alloc) | exact HK.out)⟩
 ·
  rw [if_neg c3] at H
  have c3b0 : (t365 == 0) = false := beq_eq_false_iff_ne.mpr c3
  have c3b1 : (t365 != 0) = true := bne_iff_ne.mpr c3
  simp only [Option.some.injEq, Prod.mk.injEq] at H
  obtain ⟨rfl, rfl, rfl, rfl⟩ := H
  obtain ⟨HGz5, hgz5⟩ := HI0.out
  have hcz5_0 := cellS147_0 HGz5
  have hcz5_1 := cellS147_1 HGz5
  have hcz5_2 := cellS147_2 HGz5
  have hfz5_0 := blk_frozen HGz5 0
  have hfz5_1 := blk_frozen HGz5 1
  have hfz5_2 := blk_frozen HGz5 2
  clear HGz5 hgz5
  go_enter Try.func136, Try.ntmps136
  go_wp2_with (first | (go_at_call 146; (with_reducible refine (impl_getNum.calls k s0_0 s0_1 t363 t364 t365 _ A2.out).mono ?_); rintro e w' ⟨rfl, ⟨nd, rfl⟩⟩; (try first | exact ⟨rfl, _, World.drewN_drewN _ _ _⟩ | exact ⟨rfl, _, Eq.trans (World.drewN_drewN _ _ _) (congrArg (World.drewN _) (Nat.add_assoc _ _ _))⟩)))
  repeat (go_quiet (first | (go_at_call 146; (with_reducible refine (impl_getNum.calls k s0_0 s0_1 t363 t364 t365 _ A2.out).mono ?_); rintro e w' ⟨rfl, ⟨nd, rfl⟩⟩; (try first | exact ⟨rfl, _, World.drewN_drewN _ _ _⟩ | exact ⟨rfl, _, Eq.trans (World.drewN_drewN _ _ _) (congrArg (World.drewN _) (Nat.add_assoc _ _ _))⟩))); try go_wp2_with (first | (go_at_call 146; (with_reducible refine (impl_getNum.calls k s0_0 s0_1 t363 t364 t365 _ A2.out).mono ?_); rintro e w' ⟨rfl, ⟨nd, rfl⟩⟩; (try first | exact ⟨rfl, _, World.drewN_drewN _ _ _⟩ | exact ⟨rfl, _, Eq.trans (World.drewN_drewN _ _ _) (congrArg (World.drewN _) (Nat.add_assoc _ _ _))⟩))))
  go_ret
  exact ⟨by first | rfl | (simp [errW_none, errW_some] <;> rfl) | (simp [*, errW_none, errW_some] <;> rfl), by repeat (first | (with_reducible first | exact HI0.out | apply IsS147.alloc | apply IsS147.drewN | apply IsS147.drew | apply IsS147.set_0 | apply IsS147.set_1 | apply IsS147.set_2) | exact HI0.out), by repeat (first | (with_reducible first | exact HB.out | apply below_alloc | apply pw_below_drewN | apply below_drew1 | refine below_set ?_ (IsS147.ge HI0.out)) | exact HB.out), by repeat (first | (with_reducible first | exact HK.out | apply KeepBut.set_ | apply keep_drewN | apply keep_drew | apply keep_alloc) | exact HK.out)⟩

/-! ### impl_getText: function 147 -/
def impl_getText.f (k : Nat) (a0 : ByteArray) (a1 : Int) : Option (ByteArray × Int × Int) := (impl_getNum.f k a0 a1).bind fun bt366 => (if bt366.2.2 = 0 then ((impl_within.f bt366.1 0 8000).bind fun t369 => (if t369 = true then (if bt366.1 > (wrap64 ((a0.size : Int) - bt366.2.1)) then (some ((⟨#[]⟩ : ByteArray), 0, 4)) else (if 0 ≤ bt366.2.1 then (if bt366.2.1 ≤ (wrap64 (bt366.2.1 + bt366.1)) then (if (wrap64 (bt366.2.1 + bt366.1)) ≤ (a0.size : Int) then (some (a0.extract (bt366.2.1 : Int).toNat ((wrap64 (bt366.2.1 + bt366.1)) : Int).toNat, wrap64 (bt366.2.1 + bt366.1), 0)) else (none)) else (none)) else (none))) else (some ((⟨#[]⟩ : ByteArray), 0, 3)))) else (some ((⟨#[]⟩ : ByteArray), 0, bt366.2.2)))
theorem impl_getText.mono : ∀ a0 a1 k, LeO (impl_getText.f k a0 a1) (impl_getText.f (k + 1) a0 a1) := by
 intro a0 a1 k
 unfold impl_getText.f
 repeat' first
   | (with_reducible exact impl_getNum.mono _ _ _)
   | (with_reducible exact LeO.refl _)
   | (with_reducible exact LeO.none _)
   | (with_reducible refine LeO.ite ?_ ?_)
   | (with_reducible refine LeO.bind ?_ (fun _ => ?_))
   | exact impl_getNum.mono _ _ _
   | exact LeO.none _
   | refine LeO.ite ?_ ?_
   | refine LeO.bind ?_ (fun _ => ?_)
set_option maxHeartbeats 8000000 in
set_option maxRecDepth 100000 in
theorem impl_getText.calls (k : Nat) (a0 : ByteArray) (a1 : Int) (r1 : ByteArray) (r2 : Int) (r3 : Int) (w : World) (h : impl_getText.f k a0 a1 = some (r1, r2, r3)) :
  Calls Try.prog 147 #[.string a0, .int .i64 a1] w fun e w' => e = .returned (.tuple #[.string r1, .int .i64 r2, .int .i64 r3]) ∧ Drawn0 w w' := by
 have H : ((impl_getNum.f k a0 a1).bind fun bt366 => (if bt366.2.2 = 0 then ((impl_within.f bt366.1 0 8000).bind fun t369 => (if t369 = true then (if bt366.1 > (wrap64 ((a0.size : Int) - bt366.2.1)) then (some ((⟨#[]⟩ : ByteArray), 0, 4)) else (if 0 ≤ bt366.2.1 then (if bt366.2.1 ≤ (wrap64 (bt366.2.1 + bt366.1)) then (if (wrap64 (bt366.2.1 + bt366.1)) ≤ (a0.size : Int) then (some (a0.extract (bt366.2.1 : Int).toNat ((wrap64 (bt366.2.1 + bt366.1)) : Int).toNat, wrap64 (bt366.2.1 + bt366.1), 0)) else (none)) else (none)) else (none))) else (some ((⟨#[]⟩ : ByteArray), 0, 3)))) else (some ((⟨#[]⟩ : ByteArray), 0, bt366.2.2)))) = some (r1, r2, r3) := h
 clear h
 replace H := Option.bind_eq_some_iff.mp H
 obtain ⟨⟨t366, t367, t368⟩, A30, H⟩ := H
 replace H : (if t368 = 0 then ((impl_within.f t366 0 8000).bind fun t369 => (if t369 = true then (if t366 > (wrap64 ((a0.size : Int) - t367)) then (some ((⟨#[]⟩ : ByteArray), 0, 4)) else (if 0 ≤ t367 then (if t367 ≤ (wrap64 (t367 + t366)) then (if (wrap64 (t367 + t366)) ≤ (a0.size : Int) then (some (a0.extract (t367 : Int).toNat ((wrap64 (t367 + t366)) : Int).toNat, wrap64 (t367 + t366), 0)) else (none)) else (none)) else (none))) else (some ((⟨#[]⟩ : ByteArray), 0, 3)))) else (some ((⟨#[]⟩ : ByteArray), 0, t368))) = some (r1, r2, r3) := H
 have A3 := zA_ A30
 clear A30
 by_cases c4 : t368 = 0
 ·
  rw [if_pos c4] at H
  have c4b0 : (t368 == 0) = true := beq_iff_eq.mpr c4
  have c4b1 : (t368 != 0) = false := bne_eq_false_iff_eq.mpr c4
  clear c4
  replace H := Option.bind_eq_some_iff.mp H
  obtain ⟨t369, A50, H⟩ := H
  replace H : (if t369 = true then (if t366 > (wrap64 ((a0.size : Int) - t367)) then (some ((⟨#[]⟩ : ByteArray), 0, 4)) else (if 0 ≤ t367 then (if t367 ≤ (wrap64 (t367 + t366)) then (if (wrap64 (t367 + t366)) ≤ (a0.size : Int) then (some (a0.extract (t367 : Int).toNat ((wrap64 (t367 + t366)) : Int).toNat, wrap64 (t367 + t366), 0)) else (none)) else (none)) else (none))) else (some ((⟨#[]⟩ : ByteArray), 0, 3))) = some (r1, r2, r3) := H
  have A5 := zA_ A50
  clear A50
  by_cases c6 : t369 = true
  ·
   subst c6
   have H1 : (if t366 > (wrap64 ((a0.size : Int) - t367)) then (some ((⟨#[]⟩ : ByteArray), 0, 4)) else (if 0 ≤ t367 then (if t367 ≤ (wrap64 (t367 + t366)) then (if (wrap64 (t367 + t366)) ≤ (a0.size : Int) then (some (a0.extract (t367 : Int).toNat ((wrap64 (t367 + t366)) : Int).toNat, wrap64 (t367 + t366), 0)) else (none)) else (none)) else (none))) = some (r1, r2, r3) := by rw [if_pos rfl] at H; exact H
   clear H
   have H := H1
   clear H1
   by_cases c7 : t366 > (wrap64 ((a0.size : Int) - t367))
   ·
    rw [if_pos c7] at H
    have c7b0 : decide ((wrap64 ((a0.size : Int) - t367)) < t366) = true := decide_eq_true c7
    clear c7
    simp only [Option.some.injEq, Prod.mk.injEq] at H
    obtain ⟨rfl, rfl, rfl⟩ := H
    go_enter Try.func147, Try.ntmps147
    go_wp2_with (first | ((with_reducible refine gate_callee (f := 146) rfl ?_); refine goesL_ (some 13) rfl rfl Try.func146 (by kernel_rfl) rfl #[.string a0, .int .i64 a1] rfl zs_ ?_; (with_reducible refine (impl_getNum.calls k a0 a1 t366 t367 t368 _ A3.out).mono ?_); rintro e w' ⟨rfl, ⟨nd, rfl⟩⟩; refine ⟨_, rfl, ?_⟩) | ((with_reducible refine gate_callee (f := 116) rfl ?_); refine goesL_ (some 23) rfl rfl Try.func116 (by kernel_rfl) rfl #[.int .i64 t366, .int .i64 0, .int .i64 8000] rfl zs_ ?_; (with_reducible refine (impl_within.calls t366 0 8000 true _ A5.out).mono ?_); rintro e w' ⟨rfl, ⟨nd, rfl⟩⟩; refine ⟨_, rfl, ?_⟩))
    go_ret3
    exact ⟨by first | rfl | (simp; done) | (simp [*]; done), by repeat (first | exact Drawn0.refl _ | apply Drawn0.step)⟩
   ·
    rw [if_neg c7] at H
    have c7b0 : decide ((wrap64 ((a0.size : Int) - t367)) < t366) = false := decide_eq_false c7
    clear c7
    by_cases c8 : 0 ≤ t367
    ·
     rw [if_pos c8] at H
     have c8b0 := eq_true c8
     have c8b1 : decide (0 ≤ t367) = true := decide_eq_true c8
     clear c8
     by_cases c9 : t367 ≤ (wrap64 (t367 + t366))
     ·
      rw [if_pos c9] at H
      have c9b0 := eq_true c9
      have c9b1 : decide (t367 ≤ (wrap64 (t367 + t366))) = true := decide_eq_true c9
      by_cases c10 : (wrap64 (t367 + t366)) ≤ (a0.size : Int)
      ·
       rw [if_pos c10] at H
       have c10b0 := eq_true c10
       have c10b1 : decide ((wrap64 (t367 + t366)) ≤ (a0.size : Int)) = true := decide_eq_true c10
       simp only [Option.some.injEq, Prod.mk.injEq] at H
       obtain ⟨rfl, rfl, rfl⟩ := H
       go_enter Try.func147, Try.ntmps147
       go_wp2_with (first | ((with_reducible refine gate_callee (f := 146) rfl ?_); refine goesL_ (some 13) rfl rfl Try.func146 (by kernel_rfl) rfl #[.string a0, .int .i64 a1] rfl zs_ ?_; (with_reducible refine (impl_getNum.calls k a0 a1 t366 t367 t368 _ A3.out).mono ?_); rintro e w' ⟨rfl, ⟨nd, rfl⟩⟩; refine ⟨_, rfl, ?_⟩) | ((with_reducible refine gate_callee (f := 116) rfl ?_); refine goesL_ (some 23) rfl rfl Try.func116 (by kernel_rfl) rfl #[.int .i64 t366, .int .i64 0, .int .i64 8000] rfl zs_ ?_; (with_reducible refine (impl_within.calls t366 0 8000 true _ A5.out).mono ?_); rintro e w' ⟨rfl, ⟨nd, rfl⟩⟩; refine ⟨_, rfl, ?_⟩))
       go_ret3
       exact ⟨by first | rfl | (simp; done) | (simp [*]; done), by repeat (first | exact Drawn0.refl _ | apply Drawn0.step)⟩
      ·
       rw [if_neg c10] at H
       exact absurd H (by simp)
     ·
      rw [if_neg c9] at H
      exact absurd H (by simp)
    ·
     rw [if_neg c8] at H
     exact absurd H (by simp)
  ·
   replace c6 := Bool.eq_false_iff.mpr c6
   subst c6
   have H1 : (some ((⟨#[]⟩ : ByteArray), 0, 3)) = some (r1, r2, r3) := by rw [if_neg (show ¬ (false = true) by decide)] at H; exact H
   clear H
   have H := H1
   clear H1
   simp only [Option.some.injEq, Prod.mk.injEq] at H
   obtain ⟨rfl, rfl, rfl⟩ := H
   go_enter Try.func147, Try.ntmps147
   go_wp2_with (first | ((with_reducible refine gate_callee (f := 146) rfl ?_); refine goesL_ (some 13) rfl rfl Try.func146 (by kernel_rfl) rfl #[.string a0, .int .i64 a1] rfl zs_ ?_; (with_reducible refine (impl_getNum.calls k a0 a1 t366 t367 t368 _ A3.out).mono ?_); rintro e w' ⟨rfl, ⟨nd, rfl⟩⟩; refine ⟨_, rfl, ?_⟩) | ((with_reducible refine gate_callee (f := 116) rfl ?_); refine goesL_ (some 23) rfl rfl Try.func116 (by kernel_rfl) rfl #[.int .i64 t366, .int .i64 0, .int .i64 8000] rfl zs_ ?_; (with_reducible refine (impl_within.calls t366 0 8000 false _ A5.out).mono ?_); rintro e w' ⟨rfl, ⟨nd, rfl⟩⟩; refine ⟨_, rfl, ?_⟩))
   go_ret3
   exact ⟨by first | rfl | (simp; done) | (simp [*]; done), by repeat (first | exact Drawn0.refl _ | apply Drawn0.step)⟩
 ·
  rw [if_neg c4] at H
  have c4b0 : (t368 == 0) = false := beq_eq_false_iff_ne.mpr c4
  have c4b1 : (t368 != 0) = true := bne_iff_ne.mpr c4
  simp only [Option.some.injEq, Prod.mk.injEq] at H
  obtain ⟨rfl, rfl, rfl⟩ := H
  go_enter Try.func147, Try.ntmps147
  go_wp2_with (first | ((with_reducible refine gate_callee (f := 146) rfl ?_); refine goesL_ (some 13) rfl rfl Try.func146 (by kernel_rfl) rfl #[.string a0, .int .i64 a1] rfl zs_ ?_; (with_reducible refine (impl_getNum.calls k a0 a1 t366 t367 t368 _ A3.out).mono ?_); rintro e w' ⟨rfl, ⟨nd, rfl⟩⟩; refine ⟨_, rfl, ?_⟩))
  go_ret3
  exact ⟨by first | rfl | (simp; done) | (simp [*]; done), by repeat (first | exact Drawn0.refl _ | apply Drawn0.step)⟩

/-! ### impl_reader_word: function 137 -/
def impl_reader_word.f (k : Nat) (s0_0 : ByteArray) (s0_1 : Int) (s0_2 : Bool) : Option (ByteArray × ByteArray × Int × Bool) := (impl_getText.f k s0_0 s0_1).bind fun bt370 => (if bt370.2.2 = 0 then (some (bt370.1, s0_0, bt370.2.1, s0_2)) else (some ((⟨#[]⟩ : ByteArray), s0_0, s0_1, true)))
theorem impl_reader_word.mono : ∀ a0 a1 a2 k, LeO (impl_reader_word.f k a0 a1 a2) (impl_reader_word.f (k + 1) a0 a1 a2) := by
 intro a0 a1 a2 k
 unfold impl_reader_word.f
 repeat' first
   | (with_reducible exact impl_getText.mono _ _ _)
   | (with_reducible exact LeO.refl _)
   | (with_reducible exact LeO.none _)
   | (with_reducible refine LeO.ite ?_ ?_)
   | (with_reducible refine LeO.bind ?_ (fun _ => ?_))
   | exact impl_getText.mono _ _ _
   | exact LeO.none _
   | refine LeO.ite ?_ ?_
   | refine LeO.bind ?_ (fun _ => ?_)
set_option maxHeartbeats 8000000 in
set_option maxRecDepth 100000 in
theorem impl_reader_word.calls (k : Nat) (g : Nat) (s0_0 : ByteArray) (s0_1 : Int) (s0_2 : Bool) (r1 : ByteArray) (r2 : ByteArray) (r3 : Int) (r4 : Bool) (w0 w : World) (hI : IsS147 w0 w g s0_0 s0_1 s0_2) (hB : Below w0.heap.size w0 w) (h : impl_reader_word.f k s0_0 s0_1 s0_2 = some (r1, r2, r3, r4)) :
  Calls Try.prog 137 #[.pointer (some ⟨g, 0, none⟩)] w fun e w' => e = .returned (.string r1) ∧ IsS147 w0 w' g r2 r3 r4 ∧ Below w0.heap.size w0 w' ∧ KeepBut w w' g none := by
 have HI0 := zA_ hI
 have HK := zA_ (KeepBut.refl w g none)
 have HL := zA_ hB.size
 clear hI
 have HW0 := zA_ hB.size
 have HB := zA_ hB
 clear hB
 have H : ((impl_getText.f k s0_0 s0_1).bind fun bt370 => (if bt370.2.2 = 0 then (some (bt370.1, s0_0, bt370.2.1, s0_2)) else (some ((⟨#[]⟩ : ByteArray), s0_0, s0_1, true)))) = some (r1, r2, r3, r4) := h
 clear h
 replace H := Option.bind_eq_some_iff.mp H
 obtain ⟨⟨t370, t371, t372⟩, A20, H⟩ := H
 replace H : (if t372 = 0 then (some (t370, s0_0, t371, s0_2)) else (some ((⟨#[]⟩ : ByteArray), s0_0, s0_1, true))) = some (r1, r2, r3, r4) := H
 have A2 := zA_ A20
 clear A20
 by_cases c3 : t372 = 0
 ·
  rw [if_pos c3] at H
  have c3b0 : (t372 == 0) = true := beq_iff_eq.mpr c3
  have c3b1 : (t372 != 0) = false := bne_eq_false_iff_eq.mpr c3
  clear c3
  simp only [Option.some.injEq, Prod.mk.injEq] at H
  obtain ⟨rfl, rfl, rfl, rfl⟩ := H
  obtain ⟨HGz4, hgz4⟩ := HI0.out
  have hcz4_0 := cellS147_0 HGz4
  have hcz4_1 := cellS147_1 HGz4
  have hcz4_2 := cellS147_2 HGz4
  have hfz4_0 := blk_frozen HGz4 0
  have hfz4_1 := blk_frozen HGz4 1
  have hfz4_2 := blk_frozen HGz4 2
  clear HGz4 hgz4
  go_enter Try.func137, Try.ntmps137
  go_wp2_with (first | (go_at_call 147; (with_reducible refine (impl_getText.calls k s0_0 s0_1 t370 t371 t372 _ A2.out).mono ?_); rintro e w' ⟨rfl, ⟨nd, rfl⟩⟩; (try first | exact ⟨rfl, _, World.drewN_drewN _ _ _⟩ | exact ⟨rfl, _, Eq.trans (World.drewN_drewN _ _ _) (congrArg (World.drewN _) (Nat.add_assoc _ _ _))⟩)))
  repeat (go_quiet (first | (go_at_call 147; (with_reducible refine (impl_getText.calls k s0_0 s0_1 t370 t371 t372 _ A2.out).mono ?_); rintro e w' ⟨rfl, ⟨nd, rfl⟩⟩; (try first | exact ⟨rfl, _, World.drewN_drewN _ _ _⟩ | exact ⟨rfl, _, Eq.trans (World.drewN_drewN _ _ _) (congrArg (World.drewN _) (Nat.add_assoc _ _ _))⟩))); try go_wp2_with (first | (go_at_call 147; (with_reducible refine (impl_getText.calls k s0_0 s0_1 t370 t371 t372 _ A2.out).mono ?_); rintro e w' ⟨rfl, ⟨nd, rfl⟩⟩; (try first | exact ⟨rfl, _, World.drewN_drewN _ _ _⟩ | exact ⟨rfl, _, Eq.trans (World.drewN_drewN _ _ _) (congrArg (World.drewN _) (Nat.add_assoc _ _ _))⟩))))
  go_ret
  exact ⟨by first | rfl | (simp [errW_none, errW_some] <;> rfl) | (simp [*, errW_none, errW_some] <;> rfl), by repeat (first | (with_reducible first | exact HI0.out | apply IsS147.alloc | apply IsS147.drewN | apply IsS147.drew | apply IsS147.set_0 | apply IsS147.set_1 | apply IsS147.set_2) | exact HI0.out), by repeat (first | (with_reducible first | exact HB.out | apply below_alloc | apply pw_below_drewN | apply below_drew1 | refine below_set ?_ (IsS147.ge HI0.out)) | exact HB.out), by repeat (first | (with_reducible first | exact HK.out | apply KeepBut.set_ | apply keep_drewN | apply keep_drew | apply keep_alloc) | exact HK.out)⟩
 ·
  rw [if_neg c3] at H
  have c3b0 : (t372 == 0) = false := beq_eq_false_iff_ne.mpr c3
  have c3b1 : (t372 != 0) = true := bne_iff_ne.mpr c3
  simp only [Option.some.injEq, Prod.mk.injEq] at H
  obtain ⟨rfl, rfl, rfl, rfl⟩ := H
  obtain ⟨HGz5, hgz5⟩ := HI0.out
  have hcz5_0 := cellS147_0 HGz5
  have hcz5_1 := cellS147_1 HGz5
  have hcz5_2 := cellS147_2 HGz5
  have hfz5_0 := blk_frozen HGz5 0
  have hfz5_1 := blk_frozen HGz5 1
  have hfz5_2 := blk_frozen HGz5 2
  clear HGz5 hgz5
  go_enter Try.func137, Try.ntmps137
  go_wp2_with (first | (go_at_call 147; (with_reducible refine (impl_getText.calls k s0_0 s0_1 t370 t371 t372 _ A2.out).mono ?_); rintro e w' ⟨rfl, ⟨nd, rfl⟩⟩; (try first | exact ⟨rfl, _, World.drewN_drewN _ _ _⟩ | exact ⟨rfl, _, Eq.trans (World.drewN_drewN _ _ _) (congrArg (World.drewN _) (Nat.add_assoc _ _ _))⟩)))
  repeat (go_quiet (first | (go_at_call 147; (with_reducible refine (impl_getText.calls k s0_0 s0_1 t370 t371 t372 _ A2.out).mono ?_); rintro e w' ⟨rfl, ⟨nd, rfl⟩⟩; (try first | exact ⟨rfl, _, World.drewN_drewN _ _ _⟩ | exact ⟨rfl, _, Eq.trans (World.drewN_drewN _ _ _) (congrArg (World.drewN _) (Nat.add_assoc _ _ _))⟩))); try go_wp2_with (first | (go_at_call 147; (with_reducible refine (impl_getText.calls k s0_0 s0_1 t370 t371 t372 _ A2.out).mono ?_); rintro e w' ⟨rfl, ⟨nd, rfl⟩⟩; (try first | exact ⟨rfl, _, World.drewN_drewN _ _ _⟩ | exact ⟨rfl, _, Eq.trans (World.drewN_drewN _ _ _) (congrArg (World.drewN _) (Nat.add_assoc _ _ _))⟩))))
  go_ret
  exact ⟨by first | rfl | (simp [errW_none, errW_some] <;> rfl) | (simp [*, errW_none, errW_some] <;> rfl), by repeat (first | (with_reducible first | exact HI0.out | apply IsS147.alloc | apply IsS147.drewN | apply IsS147.drew | apply IsS147.set_0 | apply IsS147.set_1 | apply IsS147.set_2) | exact HI0.out), by repeat (first | (with_reducible first | exact HB.out | apply below_alloc | apply pw_below_drewN | apply below_drew1 | refine below_set ?_ (IsS147.ge HI0.out)) | exact HB.out), by repeat (first | (with_reducible first | exact HK.out | apply KeepBut.set_ | apply keep_drewN | apply keep_drew | apply keep_alloc) | exact HK.out)⟩

/-! ### impl_metaRead: function 86 -/
def impl_metaRead.out (n : Int) (t : ByteArray) (size at_ : Int) (bad : Bool) : Int × ByteArray × Int :=
 if bad = true then (0, ⟨#[]⟩, 3) else if at_ = size then (if 1 ≤ n ∧ n ≤ 1000000 then (if (t.size : Int) > 80 then (0, ⟨#[]⟩, 3) else (n, t, 0)) else (0, ⟨#[]⟩, 3)) else (0, ⟨#[]⟩, 3)
def impl_metaRead.f (k : Nat) (a0 : ByteArray) : Option (Int × ByteArray × Int) := (impl_unseal.f k a0).bind fun u => (if u.2 = 0 then ((impl_reader_num.f k u.1 0 false).bind fun n => ((impl_reader_word.f k n.2.1 n.2.2.1 n.2.2.2).bind fun t => (some (impl_metaRead.out n.1 t.1 (u.1.size : Int) t.2.2.1 t.2.2.2)))) else (some (0, (⟨#[]⟩ : ByteArray), u.2)))
theorem impl_metaRead.mono : ∀ a0 k, LeO (impl_metaRead.f k a0) (impl_metaRead.f (k + 1) a0) := by
 intro a0 k
 unfold impl_metaRead.f
 refine LeO.bind (impl_unseal.mono _ _) (fun u => LeO.ite (LeO.bind (impl_reader_num.mono _ _ _ _) (fun n => LeO.bind (impl_reader_word.mono _ _ _ _) (fun t => LeO.refl _))) (LeO.refl _))
theorem impl_metaRead.within_ (a lo hi : Int) (d : Bool) (hd : decide (lo ≤ a ∧ a ≤ hi) = d) : impl_within.f a lo hi = some d := by
 rw [← hd]
 unfold impl_within.f
 by_cases h1 : a ≥ lo
 ·
  rw [if_pos h1]; congr 1; rw [Bool.eq_iff_iff]; simp; omega
 ·
  rw [if_neg h1]; congr 1; rw [eq_comm, decide_eq_false_iff_not]; omega
set_option maxHeartbeats 8000000 in
set_option maxRecDepth 100000 in
theorem impl_metaRead.calls (k : Nat) (a0 : ByteArray) (r1 : Int) (r2 : ByteArray) (r3 : Int) (w : World) (h : impl_metaRead.f k a0 = some (r1, r2, r3)) :
  Calls Try.prog 86 #[.string a0] w fun e w' => e = .returned (.agg #[.int .i64 r1, .string r2, .int .i64 r3]) ∧ Below w.heap.size w w' := by
 unfold impl_metaRead.f at h
 have hu41 := Try.underlying41
 have hu147 := Try.underlying147
 obtain ⟨u, hu, h⟩ := Option.bind_eq_some_iff.1 h
 obtain ⟨u1, u2⟩ := u
 have HU := zA_ hu
 clear hu
 have HG0 := zA_ (blk_new w (.cells #[.int .i64 0, .string ⟨#[]⟩, .int .i64 0] 41))
 by_cases h0 : u2 = 0
 ·
  simp only [h0, if_true] at h
  obtain ⟨n, hn, h⟩ := Option.bind_eq_some_iff.1 h
  obtain ⟨n1, n2, n3, n4⟩ := n
  obtain ⟨t, ht, h⟩ := Option.bind_eq_some_iff.1 h
  obtain ⟨t1, t2, t3, t4⟩ := t
  have HN := zA_ hn
  have HT := zA_ ht
  have HO := zA_ h
  clear hn ht h
  subst h0
  have HO2 := HO.out
  simp only [Option.some.injEq] at HO2
  unfold impl_metaRead.out at HO2
  clear HO
  cases t4 with
  | true =>
   simp only [if_true, Prod.mk.injEq] at HO2
   obtain ⟨rfl, rfl, rfl⟩ := HO2
   go_enter Try.func86, Try.ntmps86
   go_wp2_with (first
    | (go_at_call 135; refine (impl_unseal.calls k a0 u1 0 _ HU.out).mono ?_; rintro e w1 ⟨rfl, hb1⟩; have HB1 := zA_ (show Below w.heap.size w w1 from below_step (by repeat (first | exact Below.refl _ _ | apply pw_below_drewN | apply below_drew1 | apply below_alloc)) hb1); have HG1 := zA_ (blk_below (by exact HG0.out) hb1); clear hb1)
    | (go_at_call 136; have HS1 := zA_ (show IsS147 w (w1.alloc (.cells #[.string u1, .int .i64 0, .bool false] 147)) w1.heap.size u1 0 false from ⟨blk_new _ _, HB1.out.size⟩); refine (impl_reader_num.calls k _ u1 0 false n1 n2 n3 n4 w _ (by exact HS1.out) (by repeat (first | exact HB1.out | apply pw_below_drewN | apply below_drew1 | apply below_alloc)) HN.out).mono ?_; rintro e w2 ⟨rfl, hs2, hb2, hk2⟩; have HS2 := zA_ hs2; have HB2 := zA_ hb2; have HG2 := zA_ (hk2.blk (blk_alloc HG1.out _) (Nat.ne_of_lt (blk_lt HG1.out)) (by simp)); clear hs2 hb2 hk2)
    | (go_at_call 137; refine (impl_reader_word.calls k _ n2 n3 n4 t1 t2 t3 _ w _ (by exact HS2.out) (by exact HB2.out) HT.out).mono ?_; rintro e w3 ⟨rfl, hs3, hb3, hk3⟩; have HS3 := zA_ hs3; have HB3 := zA_ hb3; have HG3 := zA_ (hk3.blk HG2.out (Nat.ne_of_lt (blk_lt HG1.out)) (by simp)); have sc0 := blk_cell HS3.out.1 0; have sc1 := blk_cell HS3.out.1 1; have sc2 := blk_cell HS3.out.1 2; have c0 := blk_cell HG3.out 0; have c1 := blk_cell HG3.out 1; have c2 := blk_cell HG3.out 2; have f0 := blk_frozen HG3.out 0; have f1 := blk_frozen HG3.out 1; have f2 := blk_frozen HG3.out 2; clear hs3 hb3 hk3))
   refine bodyPost_ret (results_cell_row rfl _ _ w.heap.size 41 #[.int .i64 0, .string ⟨#[]⟩, .int .i64 3] (0, 0) _ rfl (by refine blk_put (cs := #[.int .i64 0, .string ⟨#[]⟩, .int .i64 0]) ?_ 2 _ rfl; refine blk_put (cs := #[.int .i64 0, .string ⟨#[]⟩, .int .i64 0]) ?_ 1 _ rfl; refine blk_put (cs := #[.int .i64 0, .string ⟨#[]⟩, .int .i64 0]) ?_ 0 _ rfl; (repeat (first | exact HG3.out | refine blk_drewN ?_ _ | refine blk_drew ?_))) Try.underlying41 rfl (by kernel_rfl)) rfl ?_
   exact ⟨rfl, (((show Below w.heap.size w _ from by first | exact HB3.out | exact pw_below_drewN HB3.out _).setCell (Nat.le_refl _) _).setCell (Nat.le_refl _) _).setCell (Nat.le_refl _) _⟩
  | false =>
   simp only [Bool.false_eq_true, if_false] at HO2
   by_cases h3 : t3 = (u1.size : Int)
   ·
    have e0 : (t3 == (u1.size : Int)) = true := beq_iff_eq.mpr h3
    have e1 : (t3 != (u1.size : Int)) = false := bne_eq_false_iff_eq.mpr h3
    simp only [if_pos h3] at HO2
    clear h3
    by_cases h4 : 1 ≤ n1 ∧ n1 ≤ 1000000
    ·
     have HW := zA_ (impl_metaRead.within_ n1 1 1000000 true (decide_eq_true h4))
     simp only [if_pos h4] at HO2
     clear h4
     by_cases h5 : (t1.size : Int) > 80
     ·
      have g0 : decide ((t1.size : Int) > 80) = true := decide_eq_true h5
      have g1 : decide (80 < t1.size) = true := decide_eq_true (by omega)
      simp only [if_pos h5, Prod.mk.injEq] at HO2
      obtain ⟨rfl, rfl, rfl⟩ := HO2
      clear h5
      go_enter Try.func86, Try.ntmps86
      go_wp2_with (first
       | (go_at_call 135; refine (impl_unseal.calls k a0 u1 0 _ HU.out).mono ?_; rintro e w1 ⟨rfl, hb1⟩; have HB1 := zA_ (show Below w.heap.size w w1 from below_step (by repeat (first | exact Below.refl _ _ | apply pw_below_drewN | apply below_drew1 | apply below_alloc)) hb1); have HG1 := zA_ (blk_below (by exact HG0.out) hb1); clear hb1)
       | (go_at_call 136; have HS1 := zA_ (show IsS147 w (w1.alloc (.cells #[.string u1, .int .i64 0, .bool false] 147)) w1.heap.size u1 0 false from ⟨blk_new _ _, HB1.out.size⟩); refine (impl_reader_num.calls k _ u1 0 false n1 n2 n3 n4 w _ (by exact HS1.out) (by repeat (first | exact HB1.out | apply pw_below_drewN | apply below_drew1 | apply below_alloc)) HN.out).mono ?_; rintro e w2 ⟨rfl, hs2, hb2, hk2⟩; have HS2 := zA_ hs2; have HB2 := zA_ hb2; have HG2 := zA_ (hk2.blk (blk_alloc HG1.out _) (Nat.ne_of_lt (blk_lt HG1.out)) (by simp)); clear hs2 hb2 hk2)
       | (go_at_call 137; refine (impl_reader_word.calls k _ n2 n3 n4 t1 t2 t3 _ w _ (by exact HS2.out) (by exact HB2.out) HT.out).mono ?_; rintro e w3 ⟨rfl, hs3, hb3, hk3⟩; have HS3 := zA_ hs3; have HB3 := zA_ hb3; have HG3 := zA_ (hk3.blk HG2.out (Nat.ne_of_lt (blk_lt HG1.out)) (by simp)); have sc0 := blk_cell HS3.out.1 0; have sc1 := blk_cell HS3.out.1 1; have sc2 := blk_cell HS3.out.1 2; have c0 := blk_cell HG3.out 0; have c1 := blk_cell HG3.out 1; have c2 := blk_cell HG3.out 2; have f0 := blk_frozen HG3.out 0; have f1 := blk_frozen HG3.out 1; have f2 := blk_frozen HG3.out 2; clear hs3 hb3 hk3)
       | (go_at_call 116; refine (impl_within.calls _ _ _ _ _ HW.out).mono ?_; rintro e w4 ⟨rfl, ⟨n4, rfl⟩⟩))
      refine bodyPost_ret (results_cell_row rfl _ _ w.heap.size 41 #[.int .i64 0, .string ⟨#[]⟩, .int .i64 3] (0, 0) _ rfl (by refine blk_put (cs := #[.int .i64 0, .string ⟨#[]⟩, .int .i64 0]) ?_ 2 _ rfl; refine blk_put (cs := #[.int .i64 0, .string ⟨#[]⟩, .int .i64 0]) ?_ 1 _ rfl; refine blk_put (cs := #[.int .i64 0, .string ⟨#[]⟩, .int .i64 0]) ?_ 0 _ rfl; (repeat (first | exact HG3.out | refine blk_drewN ?_ _ | refine blk_drew ?_))) Try.underlying41 rfl (by kernel_rfl)) rfl ?_
      exact ⟨rfl, (((show Below w.heap.size w _ from by first | exact HB3.out | exact pw_below_drewN HB3.out _).setCell (Nat.le_refl _) _).setCell (Nat.le_refl _) _).setCell (Nat.le_refl _) _⟩
     ·
      have g0 : decide ((t1.size : Int) > 80) = false := decide_eq_false h5
      have g1 : decide (80 < t1.size) = false := decide_eq_false (by omega)
      simp only [if_neg h5, Prod.mk.injEq] at HO2
      obtain ⟨rfl, rfl, rfl⟩ := HO2
      clear h5
      go_enter Try.func86, Try.ntmps86
      go_wp2_with (first
       | (go_at_call 135; refine (impl_unseal.calls k a0 u1 0 _ HU.out).mono ?_; rintro e w1 ⟨rfl, hb1⟩; have HB1 := zA_ (show Below w.heap.size w w1 from below_step (by repeat (first | exact Below.refl _ _ | apply pw_below_drewN | apply below_drew1 | apply below_alloc)) hb1); have HG1 := zA_ (blk_below (by exact HG0.out) hb1); clear hb1)
       | (go_at_call 136; have HS1 := zA_ (show IsS147 w (w1.alloc (.cells #[.string u1, .int .i64 0, .bool false] 147)) w1.heap.size u1 0 false from ⟨blk_new _ _, HB1.out.size⟩); refine (impl_reader_num.calls k _ u1 0 false n1 n2 n3 n4 w _ (by exact HS1.out) (by repeat (first | exact HB1.out | apply pw_below_drewN | apply below_drew1 | apply below_alloc)) HN.out).mono ?_; rintro e w2 ⟨rfl, hs2, hb2, hk2⟩; have HS2 := zA_ hs2; have HB2 := zA_ hb2; have HG2 := zA_ (hk2.blk (blk_alloc HG1.out _) (Nat.ne_of_lt (blk_lt HG1.out)) (by simp)); clear hs2 hb2 hk2)
       | (go_at_call 137; refine (impl_reader_word.calls k _ n2 n3 n4 t1 t2 t3 _ w _ (by exact HS2.out) (by exact HB2.out) HT.out).mono ?_; rintro e w3 ⟨rfl, hs3, hb3, hk3⟩; have HS3 := zA_ hs3; have HB3 := zA_ hb3; have HG3 := zA_ (hk3.blk HG2.out (Nat.ne_of_lt (blk_lt HG1.out)) (by simp)); have sc0 := blk_cell HS3.out.1 0; have sc1 := blk_cell HS3.out.1 1; have sc2 := blk_cell HS3.out.1 2; have c0 := blk_cell HG3.out 0; have c1 := blk_cell HG3.out 1; have c2 := blk_cell HG3.out 2; have f0 := blk_frozen HG3.out 0; have f1 := blk_frozen HG3.out 1; have f2 := blk_frozen HG3.out 2; clear hs3 hb3 hk3)
       | (go_at_call 116; refine (impl_within.calls _ _ _ _ _ HW.out).mono ?_; rintro e w4 ⟨rfl, ⟨n4, rfl⟩⟩))
      refine bodyPost_ret (results_cell_row rfl _ _ w.heap.size 41 #[.int .i64 n1, .string t1, .int .i64 0] (0, 0) _ rfl (by refine blk_put (cs := #[.int .i64 n1, .string t1, .int .i64 0]) ?_ 2 _ rfl; refine blk_put (cs := #[.int .i64 n1, .string ⟨#[]⟩, .int .i64 0]) ?_ 1 _ rfl; refine blk_put (cs := #[.int .i64 0, .string ⟨#[]⟩, .int .i64 0]) ?_ 0 _ rfl; (repeat (first | exact HG3.out | refine blk_drewN ?_ _ | refine blk_drew ?_))) Try.underlying41 rfl (by kernel_rfl)) rfl ?_
      exact ⟨rfl, (((show Below w.heap.size w _ from by first | exact HB3.out | exact pw_below_drewN HB3.out _).setCell (Nat.le_refl _) _).setCell (Nat.le_refl _) _).setCell (Nat.le_refl _) _⟩
    ·
     have HW := zA_ (impl_metaRead.within_ n1 1 1000000 false (decide_eq_false h4))
     simp only [if_neg h4, Prod.mk.injEq] at HO2
     obtain ⟨rfl, rfl, rfl⟩ := HO2
     clear h4
     go_enter Try.func86, Try.ntmps86
     go_wp2_with (first
      | (go_at_call 135; refine (impl_unseal.calls k a0 u1 0 _ HU.out).mono ?_; rintro e w1 ⟨rfl, hb1⟩; have HB1 := zA_ (show Below w.heap.size w w1 from below_step (by repeat (first | exact Below.refl _ _ | apply pw_below_drewN | apply below_drew1 | apply below_alloc)) hb1); have HG1 := zA_ (blk_below (by exact HG0.out) hb1); clear hb1)
      | (go_at_call 136; have HS1 := zA_ (show IsS147 w (w1.alloc (.cells #[.string u1, .int .i64 0, .bool false] 147)) w1.heap.size u1 0 false from ⟨blk_new _ _, HB1.out.size⟩); refine (impl_reader_num.calls k _ u1 0 false n1 n2 n3 n4 w _ (by exact HS1.out) (by repeat (first | exact HB1.out | apply pw_below_drewN | apply below_drew1 | apply below_alloc)) HN.out).mono ?_; rintro e w2 ⟨rfl, hs2, hb2, hk2⟩; have HS2 := zA_ hs2; have HB2 := zA_ hb2; have HG2 := zA_ (hk2.blk (blk_alloc HG1.out _) (Nat.ne_of_lt (blk_lt HG1.out)) (by simp)); clear hs2 hb2 hk2)
      | (go_at_call 137; refine (impl_reader_word.calls k _ n2 n3 n4 t1 t2 t3 _ w _ (by exact HS2.out) (by exact HB2.out) HT.out).mono ?_; rintro e w3 ⟨rfl, hs3, hb3, hk3⟩; have HS3 := zA_ hs3; have HB3 := zA_ hb3; have HG3 := zA_ (hk3.blk HG2.out (Nat.ne_of_lt (blk_lt HG1.out)) (by simp)); have sc0 := blk_cell HS3.out.1 0; have sc1 := blk_cell HS3.out.1 1; have sc2 := blk_cell HS3.out.1 2; have c0 := blk_cell HG3.out 0; have c1 := blk_cell HG3.out 1; have c2 := blk_cell HG3.out 2; have f0 := blk_frozen HG3.out 0; have f1 := blk_frozen HG3.out 1; have f2 := blk_frozen HG3.out 2; clear hs3 hb3 hk3)
      | (go_at_call 116; refine (impl_within.calls _ _ _ _ _ HW.out).mono ?_; rintro e w4 ⟨rfl, ⟨n4, rfl⟩⟩))
     refine bodyPost_ret (results_cell_row rfl _ _ w.heap.size 41 #[.int .i64 0, .string ⟨#[]⟩, .int .i64 3] (0, 0) _ rfl (by refine blk_put (cs := #[.int .i64 0, .string ⟨#[]⟩, .int .i64 0]) ?_ 2 _ rfl; refine blk_put (cs := #[.int .i64 0, .string ⟨#[]⟩, .int .i64 0]) ?_ 1 _ rfl; refine blk_put (cs := #[.int .i64 0, .string ⟨#[]⟩, .int .i64 0]) ?_ 0 _ rfl; (repeat (first | exact HG3.out | refine blk_drewN ?_ _ | refine blk_drew ?_))) Try.underlying41 rfl (by kernel_rfl)) rfl ?_
     exact ⟨rfl, (((show Below w.heap.size w _ from by first | exact HB3.out | exact pw_below_drewN HB3.out _).setCell (Nat.le_refl _) _).setCell (Nat.le_refl _) _).setCell (Nat.le_refl _) _⟩
   ·
    have e0 : (t3 == (u1.size : Int)) = false := beq_eq_false_iff_ne.mpr h3
    have e1 : (t3 != (u1.size : Int)) = true := bne_iff_ne.mpr h3
    simp only [if_neg h3, Prod.mk.injEq] at HO2
    obtain ⟨rfl, rfl, rfl⟩ := HO2
    clear h3
    go_enter Try.func86, Try.ntmps86
    go_wp2_with (first
     | (go_at_call 135; refine (impl_unseal.calls k a0 u1 0 _ HU.out).mono ?_; rintro e w1 ⟨rfl, hb1⟩; have HB1 := zA_ (show Below w.heap.size w w1 from below_step (by repeat (first | exact Below.refl _ _ | apply pw_below_drewN | apply below_drew1 | apply below_alloc)) hb1); have HG1 := zA_ (blk_below (by exact HG0.out) hb1); clear hb1)
     | (go_at_call 136; have HS1 := zA_ (show IsS147 w (w1.alloc (.cells #[.string u1, .int .i64 0, .bool false] 147)) w1.heap.size u1 0 false from ⟨blk_new _ _, HB1.out.size⟩); refine (impl_reader_num.calls k _ u1 0 false n1 n2 n3 n4 w _ (by exact HS1.out) (by repeat (first | exact HB1.out | apply pw_below_drewN | apply below_drew1 | apply below_alloc)) HN.out).mono ?_; rintro e w2 ⟨rfl, hs2, hb2, hk2⟩; have HS2 := zA_ hs2; have HB2 := zA_ hb2; have HG2 := zA_ (hk2.blk (blk_alloc HG1.out _) (Nat.ne_of_lt (blk_lt HG1.out)) (by simp)); clear hs2 hb2 hk2)
     | (go_at_call 137; refine (impl_reader_word.calls k _ n2 n3 n4 t1 t2 t3 _ w _ (by exact HS2.out) (by exact HB2.out) HT.out).mono ?_; rintro e w3 ⟨rfl, hs3, hb3, hk3⟩; have HS3 := zA_ hs3; have HB3 := zA_ hb3; have HG3 := zA_ (hk3.blk HG2.out (Nat.ne_of_lt (blk_lt HG1.out)) (by simp)); have sc0 := blk_cell HS3.out.1 0; have sc1 := blk_cell HS3.out.1 1; have sc2 := blk_cell HS3.out.1 2; have c0 := blk_cell HG3.out 0; have c1 := blk_cell HG3.out 1; have c2 := blk_cell HG3.out 2; have f0 := blk_frozen HG3.out 0; have f1 := blk_frozen HG3.out 1; have f2 := blk_frozen HG3.out 2; clear hs3 hb3 hk3))
    refine bodyPost_ret (results_cell_row rfl _ _ w.heap.size 41 #[.int .i64 0, .string ⟨#[]⟩, .int .i64 3] (0, 0) _ rfl (by refine blk_put (cs := #[.int .i64 0, .string ⟨#[]⟩, .int .i64 0]) ?_ 2 _ rfl; refine blk_put (cs := #[.int .i64 0, .string ⟨#[]⟩, .int .i64 0]) ?_ 1 _ rfl; refine blk_put (cs := #[.int .i64 0, .string ⟨#[]⟩, .int .i64 0]) ?_ 0 _ rfl; (repeat (first | exact HG3.out | refine blk_drewN ?_ _ | refine blk_drew ?_))) Try.underlying41 rfl (by kernel_rfl)) rfl ?_
    exact ⟨rfl, (((show Below w.heap.size w _ from by first | exact HB3.out | exact pw_below_drewN HB3.out _).setCell (Nat.le_refl _) _).setCell (Nat.le_refl _) _).setCell (Nat.le_refl _) _⟩
 ·
  simp only [h0, if_false] at h
  simp only [Option.some.injEq, Prod.mk.injEq] at h
  obtain ⟨rfl, rfl, rfl⟩ := h
  have b0 : (u2 == 0) = false := beq_eq_false_iff_ne.mpr h0
  have b1 : (u2 != 0) = true := bne_iff_ne.mpr h0
  clear h0
  go_enter Try.func86, Try.ntmps86
  go_wp2_with (first
   | (go_at_call 135; refine (impl_unseal.calls k a0 u1 u2 _ HU.out).mono ?_; rintro e w1 ⟨rfl, hb1⟩; have HB1 := zA_ (show Below w.heap.size w w1 from below_step (by repeat (first | exact Below.refl _ _ | apply pw_below_drewN | apply below_drew1 | apply below_alloc)) hb1); have hg1 := blk_below (by exact HG0.out) hb1; have HG1 := zA_ hg1; have c0 := blk_cell hg1 0; have c1 := blk_cell hg1 1; have c2 := blk_cell hg1 2; have f0 := blk_frozen hg1 0; have f1 := blk_frozen hg1 1; have f2 := blk_frozen hg1 2; clear hb1 hg1))
  refine bodyPost_ret (results_cell_row rfl _ _ w.heap.size 41 #[.int .i64 0, .string ⟨#[]⟩, .int .i64 u2] (0, 0) _ rfl (by refine blk_put (cs := #[.int .i64 0, .string ⟨#[]⟩, .int .i64 0]) ?_ 2 _ rfl; refine blk_put (cs := #[.int .i64 0, .string ⟨#[]⟩, .int .i64 0]) ?_ 1 _ rfl; refine blk_put (cs := #[.int .i64 0, .string ⟨#[]⟩, .int .i64 0]) ?_ 0 _ rfl; (repeat (first | exact HG1.out | refine blk_drewN ?_ _ | refine blk_drew ?_))) Try.underlying41 rfl (by kernel_rfl)) rfl ?_
  exact ⟨rfl, (((show Below w.heap.size w _ from by first | exact HB1.out | exact pw_below_drewN HB1.out _).setCell (Nat.le_refl _) _).setCell (Nat.le_refl _) _).setCell (Nat.le_refl _) _⟩


/-! ### spec_FlashRight: function 15 -/
mutual
def spec_FlashRight.j0 : Nat → Bool → List ByteArray → List (S92) → Option (Bool)
 | 0, _, _, _ => none
 | k + 1, x24, x109000, x109001 => if x24 = true then (some false) else (spec_FlashRight.l0 k 0 x109000 x109001)
def spec_FlashRight.l0 : Nat → Int → List ByteArray → List (S92) → Option (Bool)
 | 0, _, _, _ => none
 | k + 1, x3, x109000, x109001 => if x3 < (x109000.length : Int) then (if 0 ≤ x3 then (if ((rdOf ByteArray.empty x109000 x3).size : Int) > 96 then (some false) else (spec_FlashRight.l0 k (wrap64 (x3 + 1)) x109000 x109001)) else (none)) else (spec_FlashRight.l1 k 0 x109000 x109001)
def spec_FlashRight.l1 : Nat → Int → List ByteArray → List (S92) → Option (Bool)
 | 0, _, _, _ => none
 | k + 1, x4, x109000, x109001 => if x4 < (x109001.length : Int) then (if 0 ≤ x4 then ((spec_l03Is.f ((rd_T92 x109001 x4).f0) 0 (wrap64 ((x109000.length : Int) - 1))).bind fun t111 => (if t111 = true then (spec_FlashRight.j3 k x4 (decide ((((rd_T92 x109001 x4).f1).size : Int) > 96)) x109000 x109001) else (spec_FlashRight.j3 k x4 true x109000 x109001))) else (none)) else (some true)
def spec_FlashRight.j3 : Nat → Int → Bool → List ByteArray → List (S92) → Option (Bool)
 | 0, _, _, _, _ => none
 | k + 1, x4, x67, x109000, x109001 => if x67 = true then (some false) else (spec_FlashRight.l2 k x4 0 x109000 x109001)
def spec_FlashRight.l2 : Nat → Int → Int → List ByteArray → List (S92) → Option (Bool)
 | 0, _, _, _, _ => none
 | k + 1, x4, x5, x109000, x109001 => if x5 < x4 then (if 0 ≤ x5 then (if x5 < (x109001.length : Int) then (if 0 ≤ x4 then (if x4 < (x109001.length : Int) then (if ((rd_T92 x109001 x5).f0) = ((rd_T92 x109001 x4).f0) then (some false) else (spec_FlashRight.l2 k x4 (wrap64 (x5 + 1)) x109000 x109001)) else (none)) else (none)) else (none)) else (none)) else (spec_FlashRight.l1 k (wrap64 (x4 + 1)) x109000 x109001)
end
def spec_FlashRight.f (k : Nat) (l0_0 : List ByteArray) (l0_1 : List (S92)) : Option (Bool) := if (l0_0.length : Int) < 1 then (spec_FlashRight.j0 k true l0_0 l0_1) else (if (l0_0.length : Int) > 40 then (spec_FlashRight.j0 k true l0_0 l0_1) else (spec_FlashRight.j0 k (decide ((l0_1.length : Int) > (l0_0.length : Int))) l0_0 l0_1))
theorem spec_FlashRight.mono_l : ∀ k, (∀ y0 y1 y2, LeO (spec_FlashRight.j0 k y0 y1 y2) (spec_FlashRight.j0 (k + 1) y0 y1 y2)) ∧ (∀ y0 y1 y2, LeO (spec_FlashRight.l0 k y0 y1 y2) (spec_FlashRight.l0 (k + 1) y0 y1 y2)) ∧ (∀ y0 y1 y2, LeO (spec_FlashRight.l1 k y0 y1 y2) (spec_FlashRight.l1 (k + 1) y0 y1 y2)) ∧ (∀ y0 y1 y2 y3, LeO (spec_FlashRight.j3 k y0 y1 y2 y3) (spec_FlashRight.j3 (k + 1) y0 y1 y2 y3)) ∧ (∀ y0 y1 y2 y3, LeO (spec_FlashRight.l2 k y0 y1 y2 y3) (spec_FlashRight.l2 (k + 1) y0 y1 y2 y3))
 | 0 => ⟨fun _ _ _ r h => by simp [spec_FlashRight.j0] at h, fun _ _ _ r h => by simp [spec_FlashRight.l0] at h, fun _ _ _ r h => by simp [spec_FlashRight.l1] at h, fun _ _ _ _ r h => by simp [spec_FlashRight.j3] at h, fun _ _ _ _ r h => by simp [spec_FlashRight.l2] at h⟩
 | k + 1 => by
  obtain ⟨ih0, ih1, ih2, ih3, ih4⟩ := spec_FlashRight.mono_l k
  refine ⟨?_, ?_, ?_, ?_, ?_⟩
  ·
   intro y0 y1 y2
   unfold spec_FlashRight.j0
   repeat' first
   | (with_reducible exact ih0 _ _ _)
   | (with_reducible exact ih1 _ _ _)
   | (with_reducible exact ih2 _ _ _)
   | (with_reducible exact ih3 _ _ _ _)
   | (with_reducible exact ih4 _ _ _ _)
   | (with_reducible exact LeO.refl _)
   | (with_reducible exact LeO.none _)
   | (with_reducible refine LeO.ite ?_ ?_)
   | (with_reducible refine LeO.bind ?_ (fun _ => ?_))
   | exact ih0 _ _ _
   | exact ih1 _ _ _
   | exact ih2 _ _ _
   | exact ih3 _ _ _ _
   | exact ih4 _ _ _ _
   | exact LeO.none _
   | refine LeO.ite ?_ ?_
   | refine LeO.bind ?_ (fun _ => ?_)
  ·
   intro y0 y1 y2
   unfold spec_FlashRight.l0
   repeat' first
   | (with_reducible exact ih0 _ _ _)
   | (with_reducible exact ih1 _ _ _)
   | (with_reducible exact ih2 _ _ _)
   | (with_reducible exact ih3 _ _ _ _)
   | (with_reducible exact ih4 _ _ _ _)
   | (with_reducible exact LeO.refl _)
   | (with_reducible exact LeO.none _)
   | (with_reducible refine LeO.ite ?_ ?_)
   | (with_reducible refine LeO.bind ?_ (fun _ => ?_))
   | exact ih0 _ _ _
   | exact ih1 _ _ _
   | exact ih2 _ _ _
   | exact ih3 _ _ _ _
   | exact ih4 _ _ _ _
   | exact LeO.none _
   | refine LeO.ite ?_ ?_
   | refine LeO.bind ?_ (fun _ => ?_)
  ·
   intro y0 y1 y2
   unfold spec_FlashRight.l1
   repeat' first
   | (with_reducible exact ih0 _ _ _)
   | (with_reducible exact ih1 _ _ _)
   | (with_reducible exact ih2 _ _ _)
   | (with_reducible exact ih3 _ _ _ _)
   | (with_reducible exact ih4 _ _ _ _)
   | (with_reducible exact LeO.refl _)
   | (with_reducible exact LeO.none _)
   | (with_reducible refine LeO.ite ?_ ?_)
   | (with_reducible refine LeO.bind ?_ (fun _ => ?_))
   | exact ih0 _ _ _
   | exact ih1 _ _ _
   | exact ih2 _ _ _
   | exact ih3 _ _ _ _
   | exact ih4 _ _ _ _
   | exact LeO.none _
   | refine LeO.ite ?_ ?_
   | refine LeO.bind ?_ (fun _ => ?_)
  ·
   intro y0 y1 y2 y3
   unfold spec_FlashRight.j3
   repeat' first
   | (with_reducible exact ih0 _ _ _)
   | (with_reducible exact ih1 _ _ _)
   | (with_reducible exact ih2 _ _ _)
   | (with_reducible exact ih3 _ _ _ _)
   | (with_reducible exact ih4 _ _ _ _)
   | (with_reducible exact LeO.refl _)
   | (with_reducible exact LeO.none _)
   | (with_reducible refine LeO.ite ?_ ?_)
   | (with_reducible refine LeO.bind ?_ (fun _ => ?_))
   | exact ih0 _ _ _
   | exact ih1 _ _ _
   | exact ih2 _ _ _
   | exact ih3 _ _ _ _
   | exact ih4 _ _ _ _
   | exact LeO.none _
   | refine LeO.ite ?_ ?_
   | refine LeO.bind ?_ (fun _ => ?_)
  ·
   intro y0 y1 y2 y3
   unfold spec_FlashRight.l2
   repeat' first
   | (with_reducible exact ih0 _ _ _)
   | (with_reducible exact ih1 _ _ _)
   | (with_reducible exact ih2 _ _ _)
   | (with_reducible exact ih3 _ _ _ _)
   | (with_reducible exact ih4 _ _ _ _)
   | (with_reducible exact LeO.refl _)
   | (with_reducible exact LeO.none _)
   | (with_reducible refine LeO.ite ?_ ?_)
   | (with_reducible refine LeO.bind ?_ (fun _ => ?_))
   | exact ih0 _ _ _
   | exact ih1 _ _ _
   | exact ih2 _ _ _
   | exact ih3 _ _ _ _
   | exact ih4 _ _ _ _
   | exact LeO.none _
   | refine LeO.ite ?_ ?_
   | refine LeO.bind ?_ (fun _ => ?_)
theorem spec_FlashRight.mono : ∀ a0 a1 k, LeO (spec_FlashRight.f k a0 a1) (spec_FlashRight.f (k + 1) a0 a1) := by
 intro a0 a1 k
 obtain ⟨ih0, ih1, ih2, ih3, ih4⟩ := spec_FlashRight.mono_l k
 unfold spec_FlashRight.f
 repeat' first
   | (with_reducible exact ih0 _ _ _)
   | (with_reducible exact ih1 _ _ _)
   | (with_reducible exact ih2 _ _ _)
   | (with_reducible exact ih3 _ _ _ _)
   | (with_reducible exact ih4 _ _ _ _)
   | (with_reducible exact LeO.refl _)
   | (with_reducible exact LeO.none _)
   | (with_reducible refine LeO.ite ?_ ?_)
   | (with_reducible refine LeO.bind ?_ (fun _ => ?_))
   | exact ih0 _ _ _
   | exact ih1 _ _ _
   | exact ih2 _ _ _
   | exact ih3 _ _ _ _
   | exact ih4 _ _ _ _
   | exact LeO.none _
   | refine LeO.ite ?_ ?_
   | refine LeO.bind ?_ (fun _ => ?_)
set_option maxHeartbeats 8000000 in
set_option maxRecDepth 100000 in
theorem spec_FlashRight.calls (k : Nat) (A0_0 : Option Addr) (c0_0 : Nat) (l0_0 : List ByteArray) (A0_1 : Option Addr) (c0_1 : Nat) (l0_1 : List (S92)) (r : Bool) (w : World) (hr0_0 : Kd.C Kd.string w A0_0 l0_0.length l0_0) (hc0_0 : l0_0.length ≤ c0_0) (hr0_1 : Kd.C k92 w A0_1 l0_1.length l0_1) (hc0_1 : l0_1.length ≤ c0_1) (h : spec_FlashRight.f k l0_0 l0_1 = some r) :
  Calls Try.prog 15 #[.agg #[.slice A0_0 l0_0.length c0_0, .slice A0_1 l0_1.length c0_1]] w fun e w' => e = .returned (.bool r) ∧ Below w.heap.size w w' := by
 have hu30 := Try.underlying30
 have HR0_0 := zA_ hr0_0
 have HC0_0 := zA_ hc0_0
 clear hr0_0 hc0_0
 have HR0_1 := zA_ hr0_1
 have HC0_1 := zA_ hc0_1
 clear hr0_1 hc0_1
 have HB := zA_ (Below.refl w.heap.size w)
 have H : (if (l0_0.length : Int) < 1 then (spec_FlashRight.j0 k true l0_0 l0_1) else (if (l0_0.length : Int) > 40 then (spec_FlashRight.j0 k true l0_0 l0_1) else (spec_FlashRight.j0 k (decide ((l0_1.length : Int) > (l0_0.length : Int))) l0_0 l0_1))) = some r := h
 clear h
 have HC2 := zA_ H
 clear H
 go_enter Try.func15, Try.ntmps15
 go_upto_region 1 with (first | ((with_reducible refine gate_dst (N := 1) rfl ?_); (try (refine gate_guard (by rfl) ?_; dsimp only)); refine box_event ?hg (N := 1) ?hd (cs := #[.slice A0_0 l0_0.length c0_0, .slice A0_1 l0_1.length c0_1]) (t := 30) ?hr ?_; (case hd => rfl); (case hg => rfl); (case hr => first | (go_simp; done) | (go_simp; rfl)); intro gb108 hg w3 hbox hb; have n0_ := zA_ (below_step (zh_ HB.out) hb); have n1_ := zA_ (hbox); have n2_ := zA_ ((by rw [hg]; exact (below_size (zh_ HB.out)) : w.heap.size ≤ gb108)); have n3_ := zA_ ((by rw [hg]; exact (below_size (zh_ HB.out)) : w.heap.size ≤ gb108)); clear HB; have HB := n0_; have BK108 := n1_; have GW108 := n2_; have GE108 := n3_; clear n0_ n1_ n2_ n3_; clear hb hbox hg))
 repeat (go_quiet (first | ((with_reducible refine gate_dst (N := 1) rfl ?_); (try (refine gate_guard (by rfl) ?_; dsimp only)); refine box_event ?hg (N := 1) ?hd (cs := #[.slice A0_0 l0_0.length c0_0, .slice A0_1 l0_1.length c0_1]) (t := 30) ?hr ?_; (case hd => rfl); (case hg => rfl); (case hr => first | (go_simp; done) | (go_simp; rfl)); intro gb108 hg w3 hbox hb; have n0_ := zA_ (below_step (zh_ HB.out) hb); have n1_ := zA_ (hbox); have n2_ := zA_ ((by rw [hg]; exact (below_size (zh_ HB.out)) : w.heap.size ≤ gb108)); have n3_ := zA_ ((by rw [hg]; exact (below_size (zh_ HB.out)) : w.heap.size ≤ gb108)); clear HB; have HB := n0_; have BK108 := n1_; have GW108 := n2_; have GE108 := n3_; clear n0_ n1_ n2_ n3_; clear hb hbox hg)); go_upto_region 1 with (first | ((with_reducible refine gate_dst (N := 1) rfl ?_); (try (refine gate_guard (by rfl) ?_; dsimp only)); refine box_event ?hg (N := 1) ?hd (cs := #[.slice A0_0 l0_0.length c0_0, .slice A0_1 l0_1.length c0_1]) (t := 30) ?hr ?_; (case hd => rfl); (case hg => rfl); (case hr => first | (go_simp; done) | (go_simp; rfl)); intro gb108 hg w3 hbox hb; have n0_ := zA_ (below_step (zh_ HB.out) hb); have n1_ := zA_ (hbox); have n2_ := zA_ ((by rw [hg]; exact (below_size (zh_ HB.out)) : w.heap.size ≤ gb108)); have n3_ := zA_ ((by rw [hg]; exact (below_size (zh_ HB.out)) : w.heap.size ≤ gb108)); clear HB; have HB := n0_; have BK108 := n1_; have GW108 := n2_; have GE108 := n3_; clear n0_ n1_ n2_ n3_; clear hb hbox hg)))
 (try simp only [Act.put, List.setIfInBounds_toArray, List.set_cons_zero, List.set_cons_succ])
 go_cut [24] (fun v24 wc => ∃ (kq : Nat) (x24_1 : Bool), v24 = .bool x24_1 ∧ Aside0 (spec_FlashRight.j0 kq x24_1 l0_0 l0_1 = some r) ∧ Aside0 (kq ≤ k) ∧ Aside0 (wc.heap[gb108]? = some (.cells #[(.slice A0_0 l0_0.length c0_0), (.slice A0_1 l0_1.length c0_1)] 30 (0, 0))) ∧ Aside0 (Below w.heap.size w wc))
 case first =>
  have H := HC2.out
  clear HC2
  by_cases c4 : (l0_0.length : Int) < 1
  ·
   rw [if_pos c4] at H
   have c4b0 : decide ((l0_0.length : Int) < 1) = true := decide_eq_true c4
   have c4b1 : decide (l0_0.length < 1) = true := decide_eq_true (by omega)
   clear c4
   (first | rw [c4b0] | (simp only [i64_w, i32_w]; rw [c4b0]) | skip)
   have H' := zA_ H
   clear H
   have hcz5_0 : w3.cell? ⟨gb108, 0, none⟩ = some (.slice A0_0 l0_0.length c0_0) := (blk_cell BK108.out 0).trans rfl
   have hcz5_1 : w3.cell? ⟨gb108, 1, none⟩ = some (.slice A0_1 l0_1.length c0_1) := (blk_cell BK108.out 1).trans rfl
   have hfz5_0 := blk_frozen BK108.out 0
   have hfz5_1 := blk_frozen BK108.out 1
   go_wp2
   repeat (go_quiet (fail); try go_wp2)
   go_meet
   case rel => exact ⟨_, (true), (by first | rfl | (simp; done) | (simp [*]; done)), H', ⟨by first | omega | exact Nat.le_refl _⟩, ⟨zb_ BK108.out⟩, ⟨zg1_ HB.out GE108.out⟩⟩
  ·
   rw [if_neg c4] at H
   have c4b0 : decide ((l0_0.length : Int) < 1) = false := decide_eq_false c4
   have c4b1 : decide (l0_0.length < 1) = false := decide_eq_false (by omega)
   clear c4
   (first | rw [c4b0] | (simp only [i64_w, i32_w]; rw [c4b0]) | skip)
   by_cases c6 : (l0_0.length : Int) > 40
   ·
    rw [if_pos c6] at H
    have c6b0 : decide (40 < (l0_0.length : Int)) = true := decide_eq_true c6
    have c6b1 : decide (40 < l0_0.length) = true := decide_eq_true (by omega)
    clear c6
    have H' := zA_ H
    clear H
    have hcz7_0 : w3.cell? ⟨gb108, 0, none⟩ = some (.slice A0_0 l0_0.length c0_0) := (blk_cell BK108.out 0).trans rfl
    have hcz7_1 : w3.cell? ⟨gb108, 1, none⟩ = some (.slice A0_1 l0_1.length c0_1) := (blk_cell BK108.out 1).trans rfl
    have hfz7_0 := blk_frozen BK108.out 0
    have hfz7_1 := blk_frozen BK108.out 1
    go_wp2
    repeat (go_quiet (fail); try go_wp2)
    go_meet
    case rel => exact ⟨_, (true), (by first | rfl | (simp; done) | (simp [*]; done)), H', ⟨by first | omega | exact Nat.le_refl _⟩, ⟨zb_ BK108.out⟩, ⟨zg1_ HB.out GE108.out⟩⟩
   ·
    rw [if_neg c6] at H
    have c6b0 : decide (40 < (l0_0.length : Int)) = false := decide_eq_false c6
    have c6b1 : decide (40 < l0_0.length) = false := decide_eq_false (by omega)
    clear c6
    have H' := zA_ H
    clear H
    have hcz8_0 : w3.cell? ⟨gb108, 0, none⟩ = some (.slice A0_0 l0_0.length c0_0) := (blk_cell BK108.out 0).trans rfl
    have hcz8_1 : w3.cell? ⟨gb108, 1, none⟩ = some (.slice A0_1 l0_1.length c0_1) := (blk_cell BK108.out 1).trans rfl
    have hfz8_0 := blk_frozen BK108.out 0
    have hfz8_1 := blk_frozen BK108.out 1
    go_wp2
    repeat (go_quiet (fail); try go_wp2)
    go_meet
    case rel => exact ⟨_, (decide ((l0_1.length : Int) > (l0_0.length : Int))), (by first | rfl | (simp; done) | (simp [*]; done)), H', ⟨by first | omega | exact Nat.le_refl _⟩, ⟨zb_ BK108.out⟩, ⟨zg1_ HB.out GE108.out⟩⟩
 case rest =>
  clear HC2
  try clear c1
  try clear p2
  try clear c4
  try clear c4b0
  try clear c4b1
  try clear c6
  try clear c6b0
  try clear c6b1
  try clear hcz5_0
  try clear hcz5_1
  try clear hcz7_0
  try clear hcz7_1
  try clear hcz8_0
  try clear hcz8_1
  try clear hfz5_0
  try clear hfz5_1
  try clear hfz7_0
  try clear hfz7_1
  try clear hfz8_0
  try clear hfz8_1
  obtain ⟨kq, x24_1, rfl, HA, HJ1, BK108, HB⟩ := hcut
  cases kq with
  | zero => exact absurd HA.out (by simp [spec_FlashRight.j0])
  | succ kj1 =>
   have H := HA.out
   clear HA
   simp only [spec_FlashRight.j0] at H
   by_cases c9 : x24_1 = true
   ·
    subst c9
    have H1 : (some false) = some r := by rw [if_pos rfl] at H; exact H
    clear H
    have H := H1
    clear H1
    obtain rfl := Option.some.inj H
    go_wp2
    repeat (go_quiet (fail); try go_wp2)
    go_ret
    exact ⟨by first | rfl | (simp [errW_none, errW_some] <;> rfl) | (simp [*, errW_none, errW_some] <;> rfl), by repeat (first | (with_reducible first | exact HB.out | apply below_alloc | apply pw_below_drewN | apply below_drew1 | refine below_set ?_ GE108.out) | exact HB.out)⟩
   ·
    replace c9 := Bool.eq_false_iff.mpr c9
    subst c9
    have H1 : (spec_FlashRight.l0 kj1 0 l0_0 l0_1) = some r := by rw [if_neg (show ¬ (false = true) by decide)] at H; exact H
    clear H
    have H := H1
    clear H1
    have H' := zA_ H
    clear H
    go_wp2
    repeat (go_quiet (fail); try go_wp2)
    go_loopg [3] kj1 (fun kq v3 w' => ∃ (x3_2 : Int), v3 = .int .i64 x3_2 ∧ Aside0 (spec_FlashRight.l0 kq x3_2 l0_0 l0_1 = some r) ∧ Aside0 (kq ≤ kj1) ∧ Aside0 (w'.heap[gb108]? = some (.cells #[(.slice A0_0 l0_0.length c0_0), (.slice A0_1 l0_1.length c0_1)] 30 (0, 0))) ∧ Aside0 (Below w.heap.size w w'))
    case atStart => exact ⟨(0), (by first | rfl | (simp; done) | (simp [*]; done)), H', ⟨Nat.le_refl _⟩, ⟨zb_ BK108.out⟩, ⟨zg1_ HB.out GE108.out⟩⟩
    case round =>
     clear H'
     try clear c1
     try clear p2
     try clear c4
     try clear c4b0
     try clear c4b1
     try clear c6
     try clear c6b0
     try clear c6b1
     try clear c9
     try clear hcz5_0
     try clear hcz5_1
     try clear hcz7_0
     try clear hcz7_1
     try clear hcz8_0
     try clear hcz8_1
     try clear hfz5_0
     try clear hfz5_1
     try clear hfz7_0
     try clear hfz7_1
     try clear hfz8_0
     try clear hfz8_1
     try clear p2
     obtain ⟨x3_2, rfl, HA, HK2, BK108, HB⟩ := hrel
     cases gk with
     | zero => exact absurd HA.out (by simp [spec_FlashRight.l0])
     | succ k2 =>
      have H := HA.out
      clear HA
      simp only [spec_FlashRight.l0] at H
      by_cases c10 : x3_2 < (l0_0.length : Int)
      ·
       rw [if_pos c10] at H
       have c10b0 : decide (x3_2 < (l0_0.length : Int)) = true := decide_eq_true c10
       clear c10
       by_cases c11 : 0 ≤ x3_2
       ·
        rw [if_pos c11] at H
        have c11b0 : decide (0 ≤ x3_2) = true := decide_eq_true c11
        clear c11
        by_cases c12 : ((rdOf ByteArray.empty l0_0 x3_2).size : Int) > 96
        ·
         rw [if_pos c12] at H
         have c12b0 : decide (96 < ((rdOf ByteArray.empty l0_0 x3_2).size : Int)) = true := decide_eq_true c12
         have c12b1 : decide (96 < (rdOf ByteArray.empty l0_0 x3_2).size) = true := decide_eq_true (by omega)
         clear c12
         obtain rfl := Option.some.inj H
         have hcz13_0 : wr.cell? ⟨gb108, 0, none⟩ = some (.slice A0_0 l0_0.length c0_0) := (blk_cell BK108.out 0).trans rfl
         have hcz13_1 : wr.cell? ⟨gb108, 1, none⟩ = some (.slice A0_1 l0_1.length c0_1) := (blk_cell BK108.out 1).trans rfl
         have hfz13_0 := blk_frozen BK108.out 0
         have hfz13_1 := blk_frozen BK108.out 1
         have p109 : 0 ≤ (x3_2 : Int) := of_decide_eq_true (by first | (with_reducible assumption) | assumption)
         have q109 : x3_2 < (l0_0.length : Int) := of_decide_eq_true (by first | (with_reducible assumption) | assumption)
         obtain ⟨ad109, e109, hx109_0⟩ := Kd.at_string HR0_0.out x3_2 p109 q109
         cases e109
         replace hx109_0 := (HB.out.cell (World.block_lt_of_cell? _ _ hx109_0)).trans hx109_0
         replace p109 := eq_true p109
         replace q109 := eq_true q109
         go_wp2
         repeat (go_quiet (fail); try go_wp2)
         go_ret
         exact ⟨by first | rfl | (simp [errW_none, errW_some] <;> rfl) | (simp [*, errW_none, errW_some] <;> rfl), by repeat (first | (with_reducible first | exact HB.out | apply below_alloc | apply pw_below_drewN | apply below_drew1 | refine below_set ?_ GE108.out) | exact HB.out)⟩
        ·
         rw [if_neg c12] at H
         have c12b0 : decide (96 < ((rdOf ByteArray.empty l0_0 x3_2).size : Int)) = false := decide_eq_false c12
         have c12b1 : decide (96 < (rdOf ByteArray.empty l0_0 x3_2).size) = false := decide_eq_false (by omega)
         clear c12
         have H' := zA_ H
         clear H
         have hcz14_0 : wr.cell? ⟨gb108, 0, none⟩ = some (.slice A0_0 l0_0.length c0_0) := (blk_cell BK108.out 0).trans rfl
         have hcz14_1 : wr.cell? ⟨gb108, 1, none⟩ = some (.slice A0_1 l0_1.length c0_1) := (blk_cell BK108.out 1).trans rfl
         have hfz14_0 := blk_frozen BK108.out 0
         have hfz14_1 := blk_frozen BK108.out 1
         have p109 : 0 ≤ (x3_2 : Int) := of_decide_eq_true (by first | (with_reducible assumption) | assumption)
         have q109 : x3_2 < (l0_0.length : Int) := of_decide_eq_true (by first | (with_reducible assumption) | assumption)
         obtain ⟨ad109, e109, hx109_0⟩ := Kd.at_string HR0_0.out x3_2 p109 q109
         cases e109
         replace hx109_0 := (HB.out.cell (World.block_lt_of_cell? _ _ hx109_0)).trans hx109_0
         replace p109 := eq_true p109
         replace q109 := eq_true q109
         go_wp2
         repeat (go_quiet (fail); try go_wp2)
         go_roundg k2
         case measure => have := HJ1.out; have := HK2.out; omega
         case rel => exact ⟨(wrap64 (x3_2 + 1)), (by first | rfl | (simp; done) | (simp [*]; done)), H', ⟨by have := HJ1.out; have := HK2.out; omega⟩, ⟨zb_ BK108.out⟩, ⟨zg1_ HB.out GE108.out⟩⟩
       ·
        rw [if_neg c11] at H
        exact absurd H (by simp)
      ·
       rw [if_neg c10] at H
       have c10b0 : decide (x3_2 < (l0_0.length : Int)) = false := decide_eq_false c10
       clear c10
       have H' := zA_ H
       clear H
       have hcz15_0 : wr.cell? ⟨gb108, 0, none⟩ = some (.slice A0_0 l0_0.length c0_0) := (blk_cell BK108.out 0).trans rfl
       have hcz15_1 : wr.cell? ⟨gb108, 1, none⟩ = some (.slice A0_1 l0_1.length c0_1) := (blk_cell BK108.out 1).trans rfl
       have hfz15_0 := blk_frozen BK108.out 0
       have hfz15_1 := blk_frozen BK108.out 1
       go_wp2
       repeat (go_quiet (fail); try go_wp2)
       go_loopg [4] k2 (fun kq v4 w' => ∃ (x4_3 : Int), v4 = .int .i64 x4_3 ∧ Aside0 (spec_FlashRight.l1 kq x4_3 l0_0 l0_1 = some r) ∧ Aside0 (kq ≤ k2) ∧ Aside0 (w'.heap[gb108]? = some (.cells #[(.slice A0_0 l0_0.length c0_0), (.slice A0_1 l0_1.length c0_1)] 30 (0, 0))) ∧ Aside0 (Below w.heap.size w w'))
       case atStart => exact ⟨(0), (by first | rfl | (simp; done) | (simp [*]; done)), H', ⟨Nat.le_refl _⟩, ⟨zb_ BK108.out⟩, ⟨zg1_ HB.out GE108.out⟩⟩
       case round =>
        clear H'
        try clear c1
        try clear p1
        try clear q1
        try clear hx1
        try clear p2
        try clear c4
        try clear c4b0
        try clear c4b1
        try clear c6
        try clear c6b0
        try clear c6b1
        try clear p6
        try clear c9
        try clear c10
        try clear c10b0
        try clear p10
        try clear q10
        try clear hx10
        try clear c11
        try clear c11b0
        try clear c12
        try clear c12b0
        try clear c12b1
        try clear c15
        try clear hcz13_0
        try clear hcz13_1
        try clear hcz14_0
        try clear hcz14_1
        try clear hcz15_0
        try clear hcz15_1
        try clear hcz5_0
        try clear hcz5_1
        try clear hcz7_0
        try clear hcz7_1
        try clear hcz8_0
        try clear hcz8_1
        try clear hfz13_0
        try clear hfz13_1
        try clear hfz14_0
        try clear hfz14_1
        try clear hfz15_0
        try clear hfz15_1
        try clear hfz5_0
        try clear hfz5_1
        try clear hfz7_0
        try clear hfz7_1
        try clear hfz8_0
        try clear hfz8_1
        try clear hx109_0
        try clear p109
        try clear p2
        try clear q109
        obtain ⟨x4_3, rfl, HA, HK3, BK108, HB⟩ := hrel
        cases gk with
        | zero => exact absurd HA.out (by simp [spec_FlashRight.l1])
        | succ k3 =>
         have H := HA.out
         clear HA
         simp only [spec_FlashRight.l1] at H
         by_cases c16 : x4_3 < (l0_1.length : Int)
         ·
          rw [if_pos c16] at H
          have c16b0 : decide (x4_3 < (l0_1.length : Int)) = true := decide_eq_true c16
          clear c16
          have HC17 := zA_ H
          clear H
          have hcz18_0 : wr.cell? ⟨gb108, 0, none⟩ = some (.slice A0_0 l0_0.length c0_0) := (blk_cell BK108.out 0).trans rfl
          have hcz18_1 : wr.cell? ⟨gb108, 1, none⟩ = some (.slice A0_1 l0_1.length c0_1) := (blk_cell BK108.out 1).trans rfl
          have hfz18_0 := blk_frozen BK108.out 0
          have hfz18_1 := blk_frozen BK108.out 1
          go_upto_region 11 with (fail)
          repeat (go_quiet (fail); go_upto_region 11 with (fail))
          go_cut [67] (fun v67 wc => ∃ (kq : Nat) (x67_16 : Bool), v67 = .bool x67_16 ∧ Aside0 (spec_FlashRight.j3 kq x4_3 x67_16 l0_0 l0_1 = some r) ∧ Aside0 (kq ≤ k3) ∧ Aside0 (wc.heap[gb108]? = some (.cells #[(.slice A0_0 l0_0.length c0_0), (.slice A0_1 l0_1.length c0_1)] 30 (0, 0))) ∧ Aside0 (Below w.heap.size w wc))
          case first =>
           have H := HC17.out
           clear HC17
           by_cases c19 : 0 ≤ x4_3
           ·
            rw [if_pos c19] at H
            have c19b0 : decide (0 ≤ x4_3) = true := decide_eq_true c19
            clear c19
            (first | rw [c19b0] | (simp only [i64_w, i32_w]; rw [c19b0]) | skip)
            replace H := Option.bind_eq_some_iff.mp H
            obtain ⟨t111, A200, H⟩ := H
            replace H : (if t111 = true then (spec_FlashRight.j3 k3 x4_3 (decide ((((rd_T92 l0_1 x4_3).f1).size : Int) > 96)) l0_0 l0_1) else (spec_FlashRight.j3 k3 x4_3 true l0_0 l0_1)) = some r := H
            have A20 := zA_ A200
            clear A200
            by_cases c21 : t111 = true
            ·
             subst c21
             have H1 : (spec_FlashRight.j3 k3 x4_3 (decide ((((rd_T92 l0_1 x4_3).f1).size : Int) > 96)) l0_0 l0_1) = some r := by rw [if_pos rfl] at H; exact H
             clear H
             have H := H1
             clear H1
             have H' := zA_ H
             clear H
             have hcz22_0 : wr.cell? ⟨gb108, 0, none⟩ = some (.slice A0_0 l0_0.length c0_0) := (blk_cell BK108.out 0).trans rfl
             have hcz22_1 : wr.cell? ⟨gb108, 1, none⟩ = some (.slice A0_1 l0_1.length c0_1) := (blk_cell BK108.out 1).trans rfl
             have hfz22_0 := blk_frozen BK108.out 0
             have hfz22_1 := blk_frozen BK108.out 1
             have p110 : 0 ≤ (x4_3 : Int) := of_decide_eq_true (by first | (with_reducible assumption) | assumption)
             have q110 : x4_3 < (l0_1.length : Int) := of_decide_eq_true (by first | (with_reducible assumption) | assumption)
             obtain ⟨ad110, e110, hx110_0, hx110_1⟩ := at_T92 HR0_1.out x4_3 p110 q110
             cases e110
             replace hx110_0 := (HB.out.cell (World.block_lt_of_cell? _ _ hx110_0)).trans hx110_0
             replace hx110_1 := (HB.out.cell (World.block_lt_of_cell? _ _ hx110_1)).trans hx110_1
             replace p110 := eq_true p110
             replace q110 := eq_true q110
             go_wp2_with (first | (go_at_call 71; (with_reducible refine (spec_l03Is.calls ((rd_T92 l0_1 x4_3).f0) 0 (wrap64 ((l0_0.length : Int) - 1)) true _ A20.out).mono ?_); rintro e w' ⟨rfl, ⟨nd, rfl⟩⟩; have p112 : 0 ≤ (x4_3 : Int) := of_decide_eq_true (by first | (with_reducible assumption) | assumption); have q112 : x4_3 < (l0_1.length : Int) := of_decide_eq_true (by first | (with_reducible assumption) | assumption); obtain ⟨ad112, e112, hx112_0, hx112_1⟩ := at_T92 HR0_1.out x4_3 p112 q112; obtain rfl : ad110 = ad112 := (by injection e112); replace hx112_0 := (HB.out.cell (World.block_lt_of_cell? _ _ hx112_0)).trans hx112_0; replace hx112_1 := (HB.out.cell (World.block_lt_of_cell? _ _ hx112_1)).trans hx112_1; replace p112 := eq_true p112; replace q112 := eq_true q112; (try first | exact ⟨rfl, _, World.drewN_drewN _ _ _⟩ | exact ⟨rfl, _, Eq.trans (World.drewN_drewN _ _ _) (congrArg (World.drewN _) (Nat.add_assoc _ _ _))⟩)))
             repeat (go_quiet (first | (go_at_call 71; (with_reducible refine (spec_l03Is.calls ((rd_T92 l0_1 x4_3).f0) 0 (wrap64 ((l0_0.length : Int) - 1)) true _ A20.out).mono ?_); rintro e w' ⟨rfl, ⟨nd, rfl⟩⟩; have p112 : 0 ≤ (x4_3 : Int) := of_decide_eq_true (by first | (with_reducible assumption) | assumption); have q112 : x4_3 < (l0_1.length : Int) := of_decide_eq_true (by first | (with_reducible assumption) | assumption); obtain ⟨ad112, e112, hx112_0, hx112_1⟩ := at_T92 HR0_1.out x4_3 p112 q112; obtain rfl : ad110 = ad112 := (by injection e112); replace hx112_0 := (HB.out.cell (World.block_lt_of_cell? _ _ hx112_0)).trans hx112_0; replace hx112_1 := (HB.out.cell (World.block_lt_of_cell? _ _ hx112_1)).trans hx112_1; replace p112 := eq_true p112; replace q112 := eq_true q112; (try first | exact ⟨rfl, _, World.drewN_drewN _ _ _⟩ | exact ⟨rfl, _, Eq.trans (World.drewN_drewN _ _ _) (congrArg (World.drewN _) (Nat.add_assoc _ _ _))⟩))); try go_wp2_with (first | (go_at_call 71; (with_reducible refine (spec_l03Is.calls ((rd_T92 l0_1 x4_3).f0) 0 (wrap64 ((l0_0.length : Int) - 1)) true _ A20.out).mono ?_); rintro e w' ⟨rfl, ⟨nd, rfl⟩⟩; have p112 : 0 ≤ (x4_3 : Int) := of_decide_eq_true (by first | (with_reducible assumption) | assumption); have q112 : x4_3 < (l0_1.length : Int) := of_decide_eq_true (by first | (with_reducible assumption) | assumption); obtain ⟨ad112, e112, hx112_0, hx112_1⟩ := at_T92 HR0_1.out x4_3 p112 q112; obtain rfl : ad110 = ad112 := (by injection e112); replace hx112_0 := (HB.out.cell (World.block_lt_of_cell? _ _ hx112_0)).trans hx112_0; replace hx112_1 := (HB.out.cell (World.block_lt_of_cell? _ _ hx112_1)).trans hx112_1; replace p112 := eq_true p112; replace q112 := eq_true q112; (try first | exact ⟨rfl, _, World.drewN_drewN _ _ _⟩ | exact ⟨rfl, _, Eq.trans (World.drewN_drewN _ _ _) (congrArg (World.drewN _) (Nat.add_assoc _ _ _))⟩))))
             go_meet
             case rel => exact ⟨_, (decide ((((rd_T92 l0_1 x4_3).f1).size : Int) > 96)), (by first | rfl | (simp; done) | (simp [*]; done)), H', ⟨by have := HJ1.out; have := HK2.out; have := HK3.out; first | omega | exact Nat.le_refl _⟩, ⟨zb_ BK108.out⟩, ⟨zg1_ HB.out GE108.out⟩⟩
            ·
             replace c21 := Bool.eq_false_iff.mpr c21
             subst c21
             have H1 : (spec_FlashRight.j3 k3 x4_3 true l0_0 l0_1) = some r := by rw [if_neg (show ¬ (false = true) by decide)] at H; exact H
             clear H
             have H := H1
             clear H1
             have H' := zA_ H
             clear H
             have hcz23_0 : wr.cell? ⟨gb108, 0, none⟩ = some (.slice A0_0 l0_0.length c0_0) := (blk_cell BK108.out 0).trans rfl
             have hcz23_1 : wr.cell? ⟨gb108, 1, none⟩ = some (.slice A0_1 l0_1.length c0_1) := (blk_cell BK108.out 1).trans rfl
             have hfz23_0 := blk_frozen BK108.out 0
             have hfz23_1 := blk_frozen BK108.out 1
             have p110 : 0 ≤ (x4_3 : Int) := of_decide_eq_true (by first | (with_reducible assumption) | assumption)
             have q110 : x4_3 < (l0_1.length : Int) := of_decide_eq_true (by first | (with_reducible assumption) | assumption)
             obtain ⟨ad110, e110, hx110_0, hx110_1⟩ := at_T92 HR0_1.out x4_3 p110 q110
             cases e110
             replace hx110_0 := (HB.out.cell (World.block_lt_of_cell? _ _ hx110_0)).trans hx110_0
             replace hx110_1 := (HB.out.cell (World.block_lt_of_cell? _ _ hx110_1)).trans hx110_1
             replace p110 := eq_true p110
             replace q110 := eq_true q110
             go_wp2_with (first | (go_at_call 71; (with_reducible refine (spec_l03Is.calls ((rd_T92 l0_1 x4_3).f0) 0 (wrap64 ((l0_0.length : Int) - 1)) false _ A20.out).mono ?_); rintro e w' ⟨rfl, ⟨nd, rfl⟩⟩; (try first | exact ⟨rfl, _, World.drewN_drewN _ _ _⟩ | exact ⟨rfl, _, Eq.trans (World.drewN_drewN _ _ _) (congrArg (World.drewN _) (Nat.add_assoc _ _ _))⟩)))
             repeat (go_quiet (first | (go_at_call 71; (with_reducible refine (spec_l03Is.calls ((rd_T92 l0_1 x4_3).f0) 0 (wrap64 ((l0_0.length : Int) - 1)) false _ A20.out).mono ?_); rintro e w' ⟨rfl, ⟨nd, rfl⟩⟩; (try first | exact ⟨rfl, _, World.drewN_drewN _ _ _⟩ | exact ⟨rfl, _, Eq.trans (World.drewN_drewN _ _ _) (congrArg (World.drewN _) (Nat.add_assoc _ _ _))⟩))); try go_wp2_with (first | (go_at_call 71; (with_reducible refine (spec_l03Is.calls ((rd_T92 l0_1 x4_3).f0) 0 (wrap64 ((l0_0.length : Int) - 1)) false _ A20.out).mono ?_); rintro e w' ⟨rfl, ⟨nd, rfl⟩⟩; (try first | exact ⟨rfl, _, World.drewN_drewN _ _ _⟩ | exact ⟨rfl, _, Eq.trans (World.drewN_drewN _ _ _) (congrArg (World.drewN _) (Nat.add_assoc _ _ _))⟩))))
             go_meet
             case rel => exact ⟨_, (true), (by first | rfl | (simp; done) | (simp [*]; done)), H', ⟨by have := HJ1.out; have := HK2.out; have := HK3.out; first | omega | exact Nat.le_refl _⟩, ⟨zb_ BK108.out⟩, ⟨zg1_ HB.out GE108.out⟩⟩
           ·
            rw [if_neg c19] at H
            exact absurd H (by simp)
          case rest =>
           clear HC17
           try clear c1
           try clear p1
           try clear q1
           try clear hx1
           try clear c2
           try clear p2
           try clear c4
           try clear c4b0
           try clear c4b1
           try clear c6
           try clear c6b0
           try clear c6b1
           try clear p6
           try clear c9
           try clear c10
           try clear c10b0
           try clear p10
           try clear q10
           try clear hx10
           try clear c11
           try clear c11b0
           try clear p11
           try clear q11
           try clear hx11
           try clear c12
           try clear c12b0
           try clear c12b1
           try clear c15
           try clear c16
           try clear c16b0
           try clear c19
           try clear c19b0
           try clear c21
           try clear hcz13_0
           try clear hcz13_1
           try clear hcz14_0
           try clear hcz14_1
           try clear hcz15_0
           try clear hcz15_1
           try clear hcz18_0
           try clear hcz18_1
           try clear hcz22_0
           try clear hcz22_1
           try clear hcz23_0
           try clear hcz23_1
           try clear hcz5_0
           try clear hcz5_1
           try clear hcz7_0
           try clear hcz7_1
           try clear hcz8_0
           try clear hcz8_1
           try clear hfz13_0
           try clear hfz13_1
           try clear hfz14_0
           try clear hfz14_1
           try clear hfz15_0
           try clear hfz15_1
           try clear hfz18_0
           try clear hfz18_1
           try clear hfz22_0
           try clear hfz22_1
           try clear hfz23_0
           try clear hfz23_1
           try clear hfz5_0
           try clear hfz5_1
           try clear hfz7_0
           try clear hfz7_1
           try clear hfz8_0
           try clear hfz8_1
           try clear hx109_0
           try clear hx110_0
           try clear hx110_1
           try clear hx112_0
           try clear hx112_1
           try clear p1
           try clear p10
           try clear p109
           try clear p110
           try clear p112
           try clear p2
           try clear p6
           try clear q1
           try clear q10
           try clear q109
           try clear q110
           try clear q112
           obtain ⟨kq, x67_16, rfl, HA, HJ16, BK108, HB⟩ := hcut
           cases kq with
           | zero => exact absurd HA.out (by simp [spec_FlashRight.j3])
           | succ kj16 =>
            have H := HA.out
            clear HA
            simp only [spec_FlashRight.j3] at H
            by_cases c24 : x67_16 = true
            ·
             subst c24
             have H1 : (some false) = some r := by rw [if_pos rfl] at H; exact H
             clear H
             have H := H1
             clear H1
             obtain rfl := Option.some.inj H
             go_wp2
             repeat (go_quiet (fail); try go_wp2)
             go_ret
             exact ⟨by first | rfl | (simp [errW_none, errW_some] <;> rfl) | (simp [*, errW_none, errW_some] <;> rfl), by repeat (first | (with_reducible first | exact HB.out | apply below_alloc | apply pw_below_drewN | apply below_drew1 | refine below_set ?_ GE108.out) | exact HB.out)⟩
            ·
             replace c24 := Bool.eq_false_iff.mpr c24
             subst c24
             have H1 : (spec_FlashRight.l2 kj16 x4_3 0 l0_0 l0_1) = some r := by rw [if_neg (show ¬ (false = true) by decide)] at H; exact H
             clear H
             have H := H1
             clear H1
             have H' := zA_ H
             clear H
             go_wp2
             repeat (go_quiet (fail); try go_wp2)
             go_loopg [5] kj16 (fun kq v5 w' => ∃ (x5_5 : Int), v5 = .int .i64 x5_5 ∧ Aside0 (spec_FlashRight.l2 kq x4_3 x5_5 l0_0 l0_1 = some r) ∧ Aside0 (kq ≤ kj16) ∧ Aside0 (w'.heap[gb108]? = some (.cells #[(.slice A0_0 l0_0.length c0_0), (.slice A0_1 l0_1.length c0_1)] 30 (0, 0))) ∧ Aside0 (Below w.heap.size w w'))
             case atStart => exact ⟨(0), (by first | rfl | (simp; done) | (simp [*]; done)), H', ⟨Nat.le_refl _⟩, ⟨zb_ BK108.out⟩, ⟨zg1_ HB.out GE108.out⟩⟩
             case round =>
              clear H'
              try clear c1
              try clear p1
              try clear q1
              try clear hx1
              try clear c2
              try clear p2
              try clear c4
              try clear c4b0
              try clear c4b1
              try clear c6
              try clear c6b0
              try clear c6b1
              try clear p6
              try clear c9
              try clear c10
              try clear c10b0
              try clear p10
              try clear q10
              try clear hx10
              try clear c11
              try clear c11b0
              try clear p11
              try clear q11
              try clear hx11
              try clear c12
              try clear c12b0
              try clear c12b1
              try clear c15
              try clear c16
              try clear c16b0
              try clear c19
              try clear c19b0
              try clear c21
              try clear c24
              try clear hcz13_0
              try clear hcz13_1
              try clear hcz14_0
              try clear hcz14_1
              try clear hcz15_0
              try clear hcz15_1
              try clear hcz18_0
              try clear hcz18_1
              try clear hcz22_0
              try clear hcz22_1
              try clear hcz23_0
              try clear hcz23_1
              try clear hcz5_0
              try clear hcz5_1
              try clear hcz7_0
              try clear hcz7_1
              try clear hcz8_0
              try clear hcz8_1
              try clear hfz13_0
              try clear hfz13_1
              try clear hfz14_0
              try clear hfz14_1
              try clear hfz15_0
              try clear hfz15_1
              try clear hfz18_0
              try clear hfz18_1
              try clear hfz22_0
              try clear hfz22_1
              try clear hfz23_0
              try clear hfz23_1
              try clear hfz5_0
              try clear hfz5_1
              try clear hfz7_0
              try clear hfz7_1
              try clear hfz8_0
              try clear hfz8_1
              try clear hx109_0
              try clear hx110_0
              try clear hx110_1
              try clear hx112_0
              try clear hx112_1
              try clear p1
              try clear p10
              try clear p109
              try clear p11
              try clear p110
              try clear p112
              try clear p2
              try clear p6
              try clear q1
              try clear q10
              try clear q109
              try clear q11
              try clear q110
              try clear q112
              obtain ⟨x5_5, rfl, HA, HK5, BK108, HB⟩ := hrel
              cases gk with
              | zero => exact absurd HA.out (by simp [spec_FlashRight.l2])
              | succ k5 =>
               have H := HA.out
               clear HA
               simp only [spec_FlashRight.l2] at H
               by_cases c25 : x5_5 < x4_3
               ·
                rw [if_pos c25] at H
                have c25b0 : decide (x5_5 < x4_3) = true := decide_eq_true c25
                clear c25
                by_cases c26 : 0 ≤ x5_5
                ·
                 rw [if_pos c26] at H
                 have c26b0 : decide (0 ≤ x5_5) = true := decide_eq_true c26
                 clear c26
                 by_cases c27 : x5_5 < (l0_1.length : Int)
                 ·
                  rw [if_pos c27] at H
                  have c27b0 : decide (x5_5 < (l0_1.length : Int)) = true := decide_eq_true c27
                  clear c27
                  by_cases c28 : 0 ≤ x4_3
                  ·
                   rw [if_pos c28] at H
                   have c28b0 : decide (0 ≤ x4_3) = true := decide_eq_true c28
                   clear c28
                   by_cases c29 : x4_3 < (l0_1.length : Int)
                   ·
                    rw [if_pos c29] at H
                    have c29b0 : decide (x4_3 < (l0_1.length : Int)) = true := decide_eq_true c29
                    clear c29
                    by_cases c30 : ((rd_T92 l0_1 x5_5).f0) = ((rd_T92 l0_1 x4_3).f0)
                    ·
                     rw [if_pos c30] at H
                     have c30b0 : (((rd_T92 l0_1 x5_5).f0) == ((rd_T92 l0_1 x4_3).f0)) = true := beq_iff_eq.mpr c30
                     have c30b1 : (((rd_T92 l0_1 x5_5).f0) != ((rd_T92 l0_1 x4_3).f0)) = false := bne_eq_false_iff_eq.mpr c30
                     clear c30
                     obtain rfl := Option.some.inj H
                     have hcz31_0 : wr.cell? ⟨gb108, 0, none⟩ = some (.slice A0_0 l0_0.length c0_0) := (blk_cell BK108.out 0).trans rfl
                     have hcz31_1 : wr.cell? ⟨gb108, 1, none⟩ = some (.slice A0_1 l0_1.length c0_1) := (blk_cell BK108.out 1).trans rfl
                     have hfz31_0 := blk_frozen BK108.out 0
                     have hfz31_1 := blk_frozen BK108.out 1
                     have p113 : 0 ≤ (x5_5 : Int) := of_decide_eq_true (by first | (with_reducible assumption) | assumption)
                     have q113 : x5_5 < (l0_1.length : Int) := of_decide_eq_true (by first | (with_reducible assumption) | assumption)
                     obtain ⟨ad113, e113, hx113_0, hx113_1⟩ := at_T92 HR0_1.out x5_5 p113 q113
                     cases e113
                     replace hx113_0 := (HB.out.cell (World.block_lt_of_cell? _ _ hx113_0)).trans hx113_0
                     replace hx113_1 := (HB.out.cell (World.block_lt_of_cell? _ _ hx113_1)).trans hx113_1
                     replace p113 := eq_true p113
                     replace q113 := eq_true q113
                     have p114 : 0 ≤ (x4_3 : Int) := of_decide_eq_true (by first | (with_reducible assumption) | assumption)
                     have q114 : x4_3 < (l0_1.length : Int) := of_decide_eq_true (by first | (with_reducible assumption) | assumption)
                     obtain ⟨ad114, e114, hx114_0, hx114_1⟩ := at_T92 HR0_1.out x4_3 p114 q114
                     obtain rfl : ad113 = ad114 := (by injection e114)
                     replace hx114_0 := (HB.out.cell (World.block_lt_of_cell? _ _ hx114_0)).trans hx114_0
                     replace hx114_1 := (HB.out.cell (World.block_lt_of_cell? _ _ hx114_1)).trans hx114_1
                     replace p114 := eq_true p114
                     replace q114 := eq_true q114
                     go_wp2
                     repeat (go_quiet (fail); try go_wp2)
                     go_ret
                     exact ⟨by first | rfl | (simp [errW_none, errW_some] <;> rfl) | (simp [*, errW_none, errW_some] <;> rfl), by repeat (first | (with_reducible first | exact HB.out | apply below_alloc | apply pw_below_drewN | apply below_drew1 | refine below_set ?_ GE108.out) | exact HB.out)⟩
                    ·
                     rw [if_neg c30] at H
                     have c30b0 : (((rd_T92 l0_1 x5_5).f0) == ((rd_T92 l0_1 x4_3).f0)) = false := beq_eq_false_iff_ne.mpr c30
                     have c30b1 : (((rd_T92 l0_1 x5_5).f0) != ((rd_T92 l0_1 x4_3).f0)) = true := bne_iff_ne.mpr c30
                     have H' := zA_ H
                     clear H
                     have hcz32_0 : wr.cell? ⟨gb108, 0, none⟩ = some (.slice A0_0 l0_0.length c0_0) := (blk_cell BK108.out 0).trans rfl
                     have hcz32_1 : wr.cell? ⟨gb108, 1, none⟩ = some (.slice A0_1 l0_1.length c0_1) := (blk_cell BK108.out 1).trans rfl
                     have hfz32_0 := blk_frozen BK108.out 0
                     have hfz32_1 := blk_frozen BK108.out 1
                     have p113 : 0 ≤ (x5_5 : Int) := of_decide_eq_true (by first | (with_reducible assumption) | assumption)
                     have q113 : x5_5 < (l0_1.length : Int) := of_decide_eq_true (by first | (with_reducible assumption) | assumption)
                     obtain ⟨ad113, e113, hx113_0, hx113_1⟩ := at_T92 HR0_1.out x5_5 p113 q113
                     cases e113
                     replace hx113_0 := (HB.out.cell (World.block_lt_of_cell? _ _ hx113_0)).trans hx113_0
                     replace hx113_1 := (HB.out.cell (World.block_lt_of_cell? _ _ hx113_1)).trans hx113_1
                     replace p113 := eq_true p113
                     replace q113 := eq_true q113
                     have p114 : 0 ≤ (x4_3 : Int) := of_decide_eq_true (by first | (with_reducible assumption) | assumption)
                     have q114 : x4_3 < (l0_1.length : Int) := of_decide_eq_true (by first | (with_reducible assumption) | assumption)
                     obtain ⟨ad114, e114, hx114_0, hx114_1⟩ := at_T92 HR0_1.out x4_3 p114 q114
                     obtain rfl : ad113 = ad114 := (by injection e114)
                     replace hx114_0 := (HB.out.cell (World.block_lt_of_cell? _ _ hx114_0)).trans hx114_0
                     replace hx114_1 := (HB.out.cell (World.block_lt_of_cell? _ _ hx114_1)).trans hx114_1
                     replace p114 := eq_true p114
                     replace q114 := eq_true q114
                     go_wp2
                     repeat (go_quiet (fail); try go_wp2)
                     go_roundg k5
                     case measure => have := HJ1.out; have := HK2.out; have := HK3.out; have := HJ16.out; have := HK5.out; omega
                     case rel => exact ⟨(wrap64 (x5_5 + 1)), (by first | rfl | (simp; done) | (simp [*]; done)), H', ⟨by have := HJ1.out; have := HK2.out; have := HK3.out; have := HJ16.out; have := HK5.out; omega⟩, ⟨zb_ BK108.out⟩, ⟨zg1_ HB.out GE108.out⟩⟩
                   ·
                    rw [if_neg c29] at H
                    exact absurd H (by simp)
                  ·
                   rw [if_neg c28] at H
                   exact absurd H (by simp)
                 ·
                  rw [if_neg c27] at H
                  exact absurd H (by simp)
                ·
                 rw [if_neg c26] at H
                 exact absurd H (by simp)
               ·
                rw [if_neg c25] at H
                have c25b0 : decide (x5_5 < x4_3) = false := decide_eq_false c25
                clear c25
                have H' := zA_ H
                clear H
                go_wp2
                repeat (go_quiet (fail); try go_wp2)
                go_roundg k5
                case measure => have := HJ1.out; have := HK2.out; have := HK3.out; have := HJ16.out; have := HK5.out; omega
                case rel => exact ⟨(wrap64 (x4_3 + 1)), (by first | rfl | (simp; done) | (simp [*]; done)), H', ⟨by have := HJ1.out; have := HK2.out; have := HK3.out; have := HJ16.out; have := HK5.out; omega⟩, ⟨zb_ BK108.out⟩, ⟨zg1_ HB.out GE108.out⟩⟩
         ·
          rw [if_neg c16] at H
          have c16b0 : decide (x4_3 < (l0_1.length : Int)) = false := decide_eq_false c16
          clear c16
          obtain rfl := Option.some.inj H
          have hcz33_0 : wr.cell? ⟨gb108, 0, none⟩ = some (.slice A0_0 l0_0.length c0_0) := (blk_cell BK108.out 0).trans rfl
          have hcz33_1 : wr.cell? ⟨gb108, 1, none⟩ = some (.slice A0_1 l0_1.length c0_1) := (blk_cell BK108.out 1).trans rfl
          have hfz33_0 := blk_frozen BK108.out 0
          have hfz33_1 := blk_frozen BK108.out 1
          go_wp2
          repeat (go_quiet (fail); try go_wp2)
          go_ret
          exact ⟨by first | rfl | (simp [errW_none, errW_some] <;> rfl) | (simp [*, errW_none, errW_some] <;> rfl), by repeat (first | (with_reducible first | exact HB.out | apply below_alloc | apply pw_below_drewN | apply below_drew1 | refine below_set ?_ GE108.out) | exact HB.out)⟩

end Go.Proofs.Ytibnmnkembbgeaa.Q
