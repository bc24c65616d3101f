/- What is written is read, no other sector is turned; what is synced stays when the power goes; an unsynced sector is then what it was, what was written, or a beginning of it; for every draw. Part 5. -/
import Derived.Test.YtboobfpmmaaogaaKFnFlash4
import Derived.Laws.BitsAllLaws
import Derived.Laws.Strings
namespace Go.Proofs.Ytboobfpmmaaogaa.Q
open Go.RowKit Go.Proofs.YtboobfpmmaaogaaW.PrintWords Go.Proofs.YtboobfpmmaaogaaW.PrintLast Go.Proofs.YtboobfpmmaaogaaW.PrintMore
attribute [local go_sem] max2_int min2_int max_two min_two max_three min_three max_four min_four Instr.field asAgg
set_option linter.unusedVariables false
set_option linter.unusedSimpArgs false
set_option maxHeartbeats 8000000
set_option maxRecDepth 100000
mutual
def laws_FnFlash.j0 : Nat → List Int → List Int → Bool → Option (Bool)
 | 0, _, _, _ => none
 | k + 1, x0, x1, x32 => if x32 = true then (some true) else ((spec_DrawFlashWrite.f k x0).bind fun bt601 => ((impl_FlashWrite.f bt601.1 bt601.2.1 bt601.2.2.1 bt601.2.2.2).bind fun bt610 => ((spec_DrawFlashCrash.f k x1).bind fun bt619 => ((impl_FlashCrash.f bt619.1 bt619.2.1 bt619.2.2).bind fun bt629 => ((impl_FlashSync.f bt619.1 bt619.2.1).bind fun bt636 => ((spec_DrawFlashRead.f k x0).bind fun bt645 => ((spec_DrawFlashNew.f k x1).bind fun t653 => ((spec_DrawTorn.f k x1).bind fun bt654 => ((spec_FlashWrite.f k bt601.1 bt601.2.1 bt601.2.2.1 bt601.2.2.2).bind fun bt657 => ((laws_lwFlashes.f k bt610.1 bt610.2.1 bt610.2.2.1 bt610.2.2.2 bt657.1 bt657.2.1 bt657.2.2.1 bt657.2.2.2).bind fun t665 => (if t665 = true then ((spec_FlashCrash.f k bt619.1 bt619.2.1 bt619.2.2).bind fun bt666 => ((laws_lwFlash.f k bt629.1 bt629.2 bt666.1 bt666.2).bind fun t672 => (if t672 = true then ((spec_FlashSync.f k bt619.1 bt619.2.1).bind fun bt673 => ((laws_lwFlashes.f k bt636.1 bt636.2.1 bt636.2.2.1 bt636.2.2.2 bt673.1 bt673.2.1 bt673.2.2.1 bt673.2.2.2).bind fun t681 => (if t681 = true then ((impl_FlashRead.f bt645.1 bt645.2.1 bt645.2.2).bind fun bt682 => ((spec_FlashRead.f k bt645.1 bt645.2.1 bt645.2.2).bind fun bt690 => ((laws_lwFlashes.f k bt682.1 bt682.2.1 bt682.2.2.1 bt682.2.2.2 bt690.1 bt690.2.1 bt690.2.2.1 bt690.2.2.2).bind fun t698 => (if t698 = true then ((impl_FlashNew.f t653).bind fun bt699 => ((spec_FlashNew.f t653).bind fun bt705 => ((laws_lwFlash.f k bt699.1 bt699.2 bt705.1 bt705.2).bind fun t711 => (if t711 = true then ((impl_Torn.f bt654.1 bt654.2.1 bt654.2.2).bind fun t712 => ((spec_Torn.f k bt654.1 bt654.2.1 bt654.2.2).bind fun t713 => (if t712.toList = t713.toList then ((impl_FlashRight.f bt619.1 bt619.2.1).bind fun t714 => ((spec_FlashRight.f k bt619.1 bt619.2.1).bind fun t715 => (if (t714 != t715) = true then (none) else (if bt610.2.2.2 = 0 then (laws_FnFlash.l0 k bt601.2.2.1 bt601.2.2.2 bt619.2.2 0 bt601.1 bt601.2.1 bt610.1 bt610.2.1 bt610.2.2.1 bt610.2.2.2 bt619.1 bt619.2.1 bt629.1 bt629.2 bt636.1 bt636.2.1 bt636.2.2.1 bt636.2.2.2) else (laws_FnFlash.j2 k bt619.2.2 bt619.1 bt619.2.1 bt629.1 bt629.2 bt636.1 bt636.2.1 bt636.2.2.1 bt636.2.2.2))))) else (none)))) else (none))))) else (none))))) else (none)))) else (none)))) else (none))))))))))))
def laws_FnFlash.j2 : Nat → List Int → List ByteArray → List (S83) → List ByteArray → List (S83) → List ByteArray → List (S83) → ByteArray → Int → Option (Bool)
 | 0, _, _, _, _, _, _, _, _, _ => none
 | k + 1, x10, x629000, x629001, x636000, x636001, x645000, x645001, x645002, x645003 => if x645003 = 0 then ((impl_FlashCrash.f x645000 x645001 x10).bind fun bt789 => (laws_FnFlash.l1 k 0 x629000 x629001 x636000 x636001 x645000 x645001 x645002 x645003 bt789.1 bt789.2)) else (some true)
def laws_FnFlash.l1 : Nat → Int → List ByteArray → List (S83) → List ByteArray → List (S83) → List ByteArray → List (S83) → ByteArray → Int → List ByteArray → List (S83) → Option (Bool)
 | 0, _, _, _, _, _, _, _, _, _, _, _ => none
 | k + 1, x22, x629000, x629001, x636000, x636001, x645000, x645001, x645002, x645003, x796000, x796001 => if x22 < (x629000.length : Int) then ((spec_FlashRead.f k x629000 x629001 x22).bind fun bt796 => (if 0 ≤ x22 then (if x22 < (x636000.length : Int) then ((impl_FlashRead.f x796000 x796001 x22).bind fun bt805 => (if bt805.2.2.1.toList = bt796.2.2.1.toList then (if (rdOf ByteArray.empty x636000 x22).toList = (rdOf ByteArray.empty x629000 x22).toList then (laws_FnFlash.l1 k (wrap64 (x22 + 1)) x629000 x629001 x636000 x636001 x645000 x645001 x645002 x645003 x796000 x796001) else (if ((rdOf ByteArray.empty x636000 x22).size : Int) > (bt796.2.2.1.size : Int) then (none) else (if 0 ≤ ((rdOf ByteArray.empty x636000 x22).size : Int) then (if ((rdOf ByteArray.empty x636000 x22).size : Int) ≤ (bt796.2.2.1.size : Int) then (if (bt796.2.2.1.extract 0 (((rdOf ByteArray.empty x636000 x22).size : Int) : Int).toNat).toList = (rdOf ByteArray.empty x636000 x22).toList then (laws_FnFlash.l1 k (wrap64 (x22 + 1)) x629000 x629001 x636000 x636001 x645000 x645001 x645002 x645003 x796000 x796001) else (none)) else (none)) else (none)))) else (none))) else (none)) else (none))) else (if (x636001.length : Int) = 0 then (some ((x645001.length : Int) == 0)) else (none))
def laws_FnFlash.l0 : Nat → Int → ByteArray → List Int → Int → List ByteArray → List (S83) → List ByteArray → List (S83) → ByteArray → Int → List ByteArray → List (S83) → List ByteArray → List (S83) → List ByteArray → List (S83) → ByteArray → Int → Option (Bool)
 | 0, _, _, _, _, _, _, _, _, _, _, _, _, _, _, _, _, _, _ => none
 | k + 1, x6, x7, x10, x19, x610000, x610001, x619000, x619001, x619002, x619003, x629000, x629001, x636000, x636001, x645000, x645001, x645002, x645003 => if x19 < (x610000.length : Int) then ((spec_FlashRead.f k x610000 x610001 x19).bind fun bt765 => (if x19 = x6 then ((impl_FlashRead.f x619000 x619001 x19).bind fun bt773 => (if bt773.2.2.1.toList = x7.toList then (laws_FnFlash.l0 k x6 x7 x10 (wrap64 (x19 + 1)) x610000 x610001 x619000 x619001 x619002 x619003 x629000 x629001 x636000 x636001 x645000 x645001 x645002 x645003) else (none))) else ((impl_FlashRead.f x619000 x619001 x19).bind fun bt781 => (if bt781.2.2.1.toList = bt765.2.2.1.toList then (laws_FnFlash.l0 k x6 x7 x10 (wrap64 (x19 + 1)) x610000 x610001 x619000 x619001 x619002 x619003 x629000 x629001 x636000 x636001 x645000 x645001 x645002 x645003) else (none))))) else (laws_FnFlash.j2 k x10 x629000 x629001 x636000 x636001 x645000 x645001 x645002 x645003)
end
def laws_FnFlash.f (k : Nat) (l0 : List Int) (l1 : List Int) : Option (Bool) := if (l0.length : Int) > 1048576 then (laws_FnFlash.j0 k l0 l1 true) else (laws_FnFlash.j0 k l0 l1 (decide ((l1.length : Int) > 1048576)))
def laws_FnFlash.T11 : Bool × List (List Nat × List Nat) := (true, [([], []), ([], []), ([], []), ([], []), ([1, 2, 3], [1, 2, 3]), ([0, 4, 4], [0, 4]), ([5], [5]), ([6, 5], [6]), ([7], [7]), ([7], [7]), ([7], [7]), ([9, 10, 7, 7], [7, 9, 10]), ([8, 11, 11, 7], [7, 8, 11]), ([12, 7], [7, 12]), ([7, 13], [7, 13]), ([14, 12], [14]), ([15], [15]), ([15], [15]), ([17, 15, 15], [15, 17]), ([16, 18, 18, 15], [15, 16, 18]), ([19, 15], [15, 19]), ([15, 20], [15, 20]), ([21, 19], [21]), ([22], [22]), ([22], [22]), ([23, 24, 22, 22], [22, 23, 24]), ([22], [22]), ([22], [22]), ([26, 27, 25, 22], [22, 26, 27]), ([25, 28, 28, 22], [22, 25, 28]), ([29, 22], [22, 29]), ([22, 30], [22, 30]), ([31, 29], [31]), ([32], [32]), ([33, 32, 32], [32, 33]), ([32], [32]), ([35, 34, 32], [32, 35]), ([34, 36, 36, 32], [32, 34, 36]), ([37, 32], [32, 37]), ([32, 38], [32, 38]), ([39, 37], [39]), ([40], [40]), ([40], [40]), ([40], [40]), ([41, 42, 43, 40, 40], [40, 41, 42, 43]), ([40], [40]), ([40], [40]), ([40], [40]), ([45, 46, 47, 44, 40], [40, 45, 46, 47]), ([44, 48, 40], [40, 44, 48]), ([40, 49], [40, 49]), ([50, 48], [50]), ([51], [51]), ([52, 51, 51], [51, 52]), ([51], [51]), ([54, 53, 51], [51, 54]), ([53, 55, 51], [51, 53, 55]), ([51, 56], [51, 56])])
def laws_FnFlash.B11 : List Nat := [0, 0, 0, 0, 14, 31, 63, 127, 255, 255, 255, 1791, 4095, 8191, 16383, 32767, 65535, 65535, 196607, 524287, 1048575, 2097151, 4194303, 8388607, 8388607, 33554431, 8388607, 8388607, 268435455, 536870911, 1073741823, 2147483647, 4294967295, 8589934591, 17179869183, 8589934591, 68719476735, 137438953471, 274877906943, 549755813887, 1099511627775, 2199023255551, 2199023255551, 2199023255551, 17592186044415, 2199023255551, 2199023255551, 2199023255551, 281474976710655, 562949953421311, 1125899906842623, 2251799813685247, 4503599627370495, 9007199254740991, 4503599627370495, 36028797018963967, 72057594037927935, 144115188075855871]
theorem laws_FnFlash.tab11 : rtab .any (opsOf Try.f3 11) = laws_FnFlash.T11 := by kernel_rfl
theorem laws_FnFlash.bits11 : waitsOk laws_FnFlash.T11.2 laws_FnFlash.B11 = true := by kernel_rfl
theorem laws_FnFlash.calls (k : Nat) (A0 : Option Addr) (c0 : Nat) (l0 : List Int) (A1 : Option Addr) (c1 : Nat) (l1 : List Int) (r : Bool) (w : World) (hr0 : Kd.C (Kd.int .u8) w A0 l0.length l0) (hc0 : l0.length ≤ c0) (hr1 : Kd.C (Kd.int .u8) w A1 l1.length l1) (hc1 : l1.length ≤ c1) (h : laws_FnFlash.f k l0 l1 = some r) :
 Calls Try.prog 3 #[.slice A0 l0.length c0, .slice A1 l1.length c1] w fun e w' => e = .returned (.bool r) ∧ Below w.heap.size w w' := by
 have hu26 := Try.underlying26
 have hu30 := Try.underlying30
 have HR0 := zA_ hr0
 have HC0 := zA_ hc0
 clear hr0 hc0
 have HR1 := zA_ hr1
 have HC1 := zA_ hc1
 clear hr1 hc1
 have HB := zA_ (Below.refl w.heap.size w)
 have H : (if (l0.length : Int) > 1048576 then (laws_FnFlash.j0 k l0 l1 true) else (laws_FnFlash.j0 k l0 l1 (decide ((l1.length : Int) > 1048576)))) = some r := h
 clear h
 have HC3 := zA_ H
 clear H
 go_enter Try.func3, Try.ntmps3
 go_upto_region 1 with (fail)
 go_cut [32] (fun v32 wc => ∃ (kq : Nat) (x32_2 : Bool), v32 = .bool x32_2 ∧ Aside0 (laws_FnFlash.j0 kq l0 l1 x32_2 = some r) ∧ Aside0 (kq ≤ k) ∧ Aside0 (Below w.heap.size w wc))
 case first =>
  have H := HC3.out
  clear HC3
  by_cases c4 : (l0.length : Int) > 1048576
  ·
   rw [if_pos c4] at H
   have c4b0 : decide (1048576 < (l0.length : Int)) = true := decide_eq_true c4
   have c4b1 : decide (1048576 < l0.length) = true := decide_eq_true (by omega)
   clear c4
   (first | rw [c4b0] | (simp only [i64_w, i32_w]; rw [c4b0]) | skip)
   as_aux_lemma =>
    have H' := zA_ H
    clear H
    go_wp2
    go_meet
    case rel => exact ⟨_, (true), βLb, H', ⟨βNb⟩, ⟨zh_ HB.out⟩⟩
  ·
   rw [if_neg c4] at H
   have c4b0 : decide (1048576 < (l0.length : Int)) = false := decide_eq_false c4
   have c4b1 : decide (1048576 < l0.length) = false := decide_eq_false (by omega)
   clear c4
   (first | rw [c4b0] | (simp only [i64_w, i32_w]; rw [c4b0]) | skip)
   as_aux_lemma =>
    have H' := zA_ H
    clear H
    go_wp2
    go_meet
    case rel => exact ⟨_, (decide ((l1.length : Int) > 1048576)), βLb, H', ⟨βNb⟩, ⟨zh_ HB.out⟩⟩
 case rest =>
  clear HC3
  try clear c1
  try clear p2
  try clear c3
  try clear c4
  try clear c4b0
  try clear c4b1
  obtain ⟨kq, x32_2, rfl, HA, HJ2, HB⟩ := hcut
  cases kq with
  | zero => exact absurd HA.out (by simp [laws_FnFlash.j0])
  | succ kj2 =>
   have H := HA.out
   clear HA
   simp only [laws_FnFlash.j0] at H
   by_cases c5 : x32_2 = true
   ·
    subst c5
    have H1 : (some true) = some r := by rw [if_pos rfl] at H; exact H
    clear H
    have H := H1
    clear H1
    as_aux_lemma =>
     obtain rfl := Option.some.inj H
     go_wp2
     go_ret
     exact ⟨βFb, βCb⟩
   ·
    replace c5 := Bool.eq_false_iff.mpr c5
    subst c5
    have H1 : ((spec_DrawFlashWrite.f kj2 l0).bind fun bt601 => ((impl_FlashWrite.f bt601.1 bt601.2.1 bt601.2.2.1 bt601.2.2.2).bind fun bt610 => ((spec_DrawFlashCrash.f kj2 l1).bind fun bt619 => ((impl_FlashCrash.f bt619.1 bt619.2.1 bt619.2.2).bind fun bt629 => ((impl_FlashSync.f bt619.1 bt619.2.1).bind fun bt636 => ((spec_DrawFlashRead.f kj2 l0).bind fun bt645 => ((spec_DrawFlashNew.f kj2 l1).bind fun t653 => ((spec_DrawTorn.f kj2 l1).bind fun bt654 => ((spec_FlashWrite.f kj2 bt601.1 bt601.2.1 bt601.2.2.1 bt601.2.2.2).bind fun bt657 => ((laws_lwFlashes.f kj2 bt610.1 bt610.2.1 bt610.2.2.1 bt610.2.2.2 bt657.1 bt657.2.1 bt657.2.2.1 bt657.2.2.2).bind fun t665 => (if t665 = true then ((spec_FlashCrash.f kj2 bt619.1 bt619.2.1 bt619.2.2).bind fun bt666 => ((laws_lwFlash.f kj2 bt629.1 bt629.2 bt666.1 bt666.2).bind fun t672 => (if t672 = true then ((spec_FlashSync.f kj2 bt619.1 bt619.2.1).bind fun bt673 => ((laws_lwFlashes.f kj2 bt636.1 bt636.2.1 bt636.2.2.1 bt636.2.2.2 bt673.1 bt673.2.1 bt673.2.2.1 bt673.2.2.2).bind fun t681 => (if t681 = true then ((impl_FlashRead.f bt645.1 bt645.2.1 bt645.2.2).bind fun bt682 => ((spec_FlashRead.f kj2 bt645.1 bt645.2.1 bt645.2.2).bind fun bt690 => ((laws_lwFlashes.f kj2 bt682.1 bt682.2.1 bt682.2.2.1 bt682.2.2.2 bt690.1 bt690.2.1 bt690.2.2.1 bt690.2.2.2).bind fun t698 => (if t698 = true then ((impl_FlashNew.f t653).bind fun bt699 => ((spec_FlashNew.f t653).bind fun bt705 => ((laws_lwFlash.f kj2 bt699.1 bt699.2 bt705.1 bt705.2).bind fun t711 => (if t711 = true then ((impl_Torn.f bt654.1 bt654.2.1 bt654.2.2).bind fun t712 => ((spec_Torn.f kj2 bt654.1 bt654.2.1 bt654.2.2).bind fun t713 => (if t712.toList = t713.toList then ((impl_FlashRight.f bt619.1 bt619.2.1).bind fun t714 => ((spec_FlashRight.f kj2 bt619.1 bt619.2.1).bind fun t715 => (if (t714 != t715) = true then (none) else (if bt610.2.2.2 = 0 then (laws_FnFlash.l0 kj2 bt601.2.2.1 bt601.2.2.2 bt619.2.2 0 bt601.1 bt601.2.1 bt610.1 bt610.2.1 bt610.2.2.1 bt610.2.2.2 bt619.1 bt619.2.1 bt629.1 bt629.2 bt636.1 bt636.2.1 bt636.2.2.1 bt636.2.2.2) else (laws_FnFlash.j2 kj2 bt619.2.2 bt619.1 bt619.2.1 bt629.1 bt629.2 bt636.1 bt636.2.1 bt636.2.2.1 bt636.2.2.2))))) else (none)))) else (none))))) else (none))))) else (none)))) else (none)))) else (none)))))))))))) = some r := by rw [if_neg (show ¬ (false = true) by decide)] at H; exact H
    clear H
    have H := H1
    clear H1
    replace H := Option.bind_eq_some_iff.mp H
    obtain ⟨⟨t601, t604, t607, t608⟩, A60, H⟩ := H
    (try dsimp -simprocs only at H)
    have A6 := zA_ A60
    clear A60
    replace H := Option.bind_eq_some_iff.mp H
    obtain ⟨⟨t610, t613, t616, t617⟩, A70, H⟩ := H
    (try dsimp -simprocs only at H)
    have A7 := zA_ A70
    clear A70
    replace H := Option.bind_eq_some_iff.mp H
    obtain ⟨⟨t619, t622, t625⟩, A80, H⟩ := H
    (try dsimp -simprocs only at H)
    have A8 := zA_ A80
    clear A80
    replace H := Option.bind_eq_some_iff.mp H
    obtain ⟨⟨t629, t632⟩, A90, H⟩ := H
    (try dsimp -simprocs only at H)
    have A9 := zA_ A90
    clear A90
    replace H := Option.bind_eq_some_iff.mp H
    obtain ⟨⟨t636, t639, t642, t643⟩, A100, H⟩ := H
    (try dsimp -simprocs only at H)
    have A10 := zA_ A100
    clear A100
    replace H := Option.bind_eq_some_iff.mp H
    obtain ⟨⟨t645, t648, t651⟩, A110, H⟩ := H
    (try dsimp -simprocs only at H)
    have A11 := zA_ A110
    clear A110
    replace H := Option.bind_eq_some_iff.mp H
    obtain ⟨t653, A120, H⟩ := H
    (try dsimp -simprocs only at H)
    have A12 := zA_ A120
    clear A120
    replace H := Option.bind_eq_some_iff.mp H
    obtain ⟨⟨t654, t655, t656⟩, A130, H⟩ := H
    (try dsimp -simprocs only at H)
    have A13 := zA_ A130
    clear A130
    replace H := Option.bind_eq_some_iff.mp H
    obtain ⟨⟨t657, t660, t663, t664⟩, A140, H⟩ := H
    (try dsimp -simprocs only at H)
    have A14 := zA_ A140
    clear A140
    replace H := Option.bind_eq_some_iff.mp H
    obtain ⟨t665, A150, H⟩ := H
    (try dsimp -simprocs only at H)
    have A15 := zA_ A150
    clear A150
    by_cases c16 : t665 = true
    ·
     subst c16
     have H1 : ((spec_FlashCrash.f kj2 t619 t622 t625).bind fun bt666 => ((laws_lwFlash.f kj2 t629 t632 bt666.1 bt666.2).bind fun t672 => (if t672 = true then ((spec_FlashSync.f kj2 t619 t622).bind fun bt673 => ((laws_lwFlashes.f kj2 t636 t639 t642 t643 bt673.1 bt673.2.1 bt673.2.2.1 bt673.2.2.2).bind fun t681 => (if t681 = true then ((impl_FlashRead.f t645 t648 t651).bind fun bt682 => ((spec_FlashRead.f kj2 t645 t648 t651).bind fun bt690 => ((laws_lwFlashes.f kj2 bt682.1 bt682.2.1 bt682.2.2.1 bt682.2.2.2 bt690.1 bt690.2.1 bt690.2.2.1 bt690.2.2.2).bind fun t698 => (if t698 = true then ((impl_FlashNew.f t653).bind fun bt699 => ((spec_FlashNew.f t653).bind fun bt705 => ((laws_lwFlash.f kj2 bt699.1 bt699.2 bt705.1 bt705.2).bind fun t711 => (if t711 = true then ((impl_Torn.f t654 t655 t656).bind fun t712 => ((spec_Torn.f kj2 t654 t655 t656).bind fun t713 => (if t712.toList = t713.toList then ((impl_FlashRight.f t619 t622).bind fun t714 => ((spec_FlashRight.f kj2 t619 t622).bind fun t715 => (if (t714 != t715) = true then (none) else (if t617 = 0 then (laws_FnFlash.l0 kj2 t607 t608 t625 0 t601 t604 t610 t613 t616 t617 t619 t622 t629 t632 t636 t639 t642 t643) else (laws_FnFlash.j2 kj2 t625 t619 t622 t629 t632 t636 t639 t642 t643))))) else (none)))) else (none))))) else (none))))) else (none)))) else (none)))) = some r := by rw [if_pos rfl] at H; exact H
     clear H
     have H := H1
     clear H1
     replace H := Option.bind_eq_some_iff.mp H
     obtain ⟨⟨t666, t669⟩, A170, H⟩ := H
     (try dsimp -simprocs only at H)
     have A17 := zA_ A170
     clear A170
     replace H := Option.bind_eq_some_iff.mp H
     obtain ⟨t672, A180, H⟩ := H
     (try dsimp -simprocs only at H)
     have A18 := zA_ A180
     clear A180
     by_cases c19 : t672 = true
     ·
      subst c19
      have H1 : ((spec_FlashSync.f kj2 t619 t622).bind fun bt673 => ((laws_lwFlashes.f kj2 t636 t639 t642 t643 bt673.1 bt673.2.1 bt673.2.2.1 bt673.2.2.2).bind fun t681 => (if t681 = true then ((impl_FlashRead.f t645 t648 t651).bind fun bt682 => ((spec_FlashRead.f kj2 t645 t648 t651).bind fun bt690 => ((laws_lwFlashes.f kj2 bt682.1 bt682.2.1 bt682.2.2.1 bt682.2.2.2 bt690.1 bt690.2.1 bt690.2.2.1 bt690.2.2.2).bind fun t698 => (if t698 = true then ((impl_FlashNew.f t653).bind fun bt699 => ((spec_FlashNew.f t653).bind fun bt705 => ((laws_lwFlash.f kj2 bt699.1 bt699.2 bt705.1 bt705.2).bind fun t711 => (if t711 = true then ((impl_Torn.f t654 t655 t656).bind fun t712 => ((spec_Torn.f kj2 t654 t655 t656).bind fun t713 => (if t712.toList = t713.toList then ((impl_FlashRight.f t619 t622).bind fun t714 => ((spec_FlashRight.f kj2 t619 t622).bind fun t715 => (if (t714 != t715) = true then (none) else (if t617 = 0 then (laws_FnFlash.l0 kj2 t607 t608 t625 0 t601 t604 t610 t613 t616 t617 t619 t622 t629 t632 t636 t639 t642 t643) else (laws_FnFlash.j2 kj2 t625 t619 t622 t629 t632 t636 t639 t642 t643))))) else (none)))) else (none))))) else (none))))) else (none)))) = some r := by rw [if_pos rfl] at H; exact H
      clear H
      have H := H1
      clear H1
      replace H := Option.bind_eq_some_iff.mp H
      obtain ⟨⟨t673, t676, t679, t680⟩, A200, H⟩ := H
      (try dsimp -simprocs only at H)
      have A20 := zA_ A200
      clear A200
      replace H := Option.bind_eq_some_iff.mp H
      obtain ⟨t681, A210, H⟩ := H
      (try dsimp -simprocs only at H)
      have A21 := zA_ A210
      clear A210
      by_cases c22 : t681 = true
      ·
       subst c22
       have H1 : ((impl_FlashRead.f t645 t648 t651).bind fun bt682 => ((spec_FlashRead.f kj2 t645 t648 t651).bind fun bt690 => ((laws_lwFlashes.f kj2 bt682.1 bt682.2.1 bt682.2.2.1 bt682.2.2.2 bt690.1 bt690.2.1 bt690.2.2.1 bt690.2.2.2).bind fun t698 => (if t698 = true then ((impl_FlashNew.f t653).bind fun bt699 => ((spec_FlashNew.f t653).bind fun bt705 => ((laws_lwFlash.f kj2 bt699.1 bt699.2 bt705.1 bt705.2).bind fun t711 => (if t711 = true then ((impl_Torn.f t654 t655 t656).bind fun t712 => ((spec_Torn.f kj2 t654 t655 t656).bind fun t713 => (if t712.toList = t713.toList then ((impl_FlashRight.f t619 t622).bind fun t714 => ((spec_FlashRight.f kj2 t619 t622).bind fun t715 => (if (t714 != t715) = true then (none) else (if t617 = 0 then (laws_FnFlash.l0 kj2 t607 t608 t625 0 t601 t604 t610 t613 t616 t617 t619 t622 t629 t632 t636 t639 t642 t643) else (laws_FnFlash.j2 kj2 t625 t619 t622 t629 t632 t636 t639 t642 t643))))) else (none)))) else (none))))) else (none))))) = some r := by rw [if_pos rfl] at H; exact H
       clear H
       have H := H1
       clear H1
       replace H := Option.bind_eq_some_iff.mp H
       obtain ⟨⟨t682, t685, t688, t689⟩, A230, H⟩ := H
       (try dsimp -simprocs only at H)
       have A23 := zA_ A230
       clear A230
       replace H := Option.bind_eq_some_iff.mp H
       obtain ⟨⟨t690, t693, t696, t697⟩, A240, H⟩ := H
       (try dsimp -simprocs only at H)
       have A24 := zA_ A240
       clear A240
       replace H := Option.bind_eq_some_iff.mp H
       obtain ⟨t698, A250, H⟩ := H
       (try dsimp -simprocs only at H)
       have A25 := zA_ A250
       clear A250
       by_cases c26 : t698 = true
       ·
        subst c26
        have H1 : ((impl_FlashNew.f t653).bind fun bt699 => ((spec_FlashNew.f t653).bind fun bt705 => ((laws_lwFlash.f kj2 bt699.1 bt699.2 bt705.1 bt705.2).bind fun t711 => (if t711 = true then ((impl_Torn.f t654 t655 t656).bind fun t712 => ((spec_Torn.f kj2 t654 t655 t656).bind fun t713 => (if t712.toList = t713.toList then ((impl_FlashRight.f t619 t622).bind fun t714 => ((spec_FlashRight.f kj2 t619 t622).bind fun t715 => (if (t714 != t715) = true then (none) else (if t617 = 0 then (laws_FnFlash.l0 kj2 t607 t608 t625 0 t601 t604 t610 t613 t616 t617 t619 t622 t629 t632 t636 t639 t642 t643) else (laws_FnFlash.j2 kj2 t625 t619 t622 t629 t632 t636 t639 t642 t643))))) else (none)))) else (none))))) = some r := by rw [if_pos rfl] at H; exact H
        clear H
        have H := H1
        clear H1
        replace H := Option.bind_eq_some_iff.mp H
        obtain ⟨⟨t699, t702⟩, A270, H⟩ := H
        (try dsimp -simprocs only at H)
        have A27 := zA_ A270
        clear A270
        replace H := Option.bind_eq_some_iff.mp H
        obtain ⟨⟨t705, t708⟩, A280, H⟩ := H
        (try dsimp -simprocs only at H)
        have A28 := zA_ A280
        clear A280
        replace H := Option.bind_eq_some_iff.mp H
        obtain ⟨t711, A290, H⟩ := H
        (try dsimp -simprocs only at H)
        have A29 := zA_ A290
        clear A290
        by_cases c30 : t711 = true
        ·
         subst c30
         have H1 : ((impl_Torn.f t654 t655 t656).bind fun t712 => ((spec_Torn.f kj2 t654 t655 t656).bind fun t713 => (if t712.toList = t713.toList then ((impl_FlashRight.f t619 t622).bind fun t714 => ((spec_FlashRight.f kj2 t619 t622).bind fun t715 => (if (t714 != t715) = true then (none) else (if t617 = 0 then (laws_FnFlash.l0 kj2 t607 t608 t625 0 t601 t604 t610 t613 t616 t617 t619 t622 t629 t632 t636 t639 t642 t643) else (laws_FnFlash.j2 kj2 t625 t619 t622 t629 t632 t636 t639 t642 t643))))) else (none)))) = some r := by rw [if_pos rfl] at H; exact H
         clear H
         have H := H1
         clear H1
         replace H := Option.bind_eq_some_iff.mp H
         obtain ⟨t712, A310, H⟩ := H
         (try dsimp -simprocs only at H)
         have A31 := zA_ A310
         clear A310
         replace H := Option.bind_eq_some_iff.mp H
         obtain ⟨t713, A320, H⟩ := H
         (try dsimp -simprocs only at H)
         have A32 := zA_ A320
         clear A320
         by_cases c33 : t712.toList = t713.toList
         ·
          rw [if_pos c33] at H
          have c33b0 : (t712.toList == t713.toList) = true := beq_iff_eq.mpr c33
          have c33b1 : (t712.toList != t713.toList) = false := bne_eq_false_iff_eq.mpr c33
          clear c33
          replace H := Option.bind_eq_some_iff.mp H
          obtain ⟨t714, A340, H⟩ := H
          (try dsimp -simprocs only at H)
          have A34 := zA_ A340
          clear A340
          replace H := Option.bind_eq_some_iff.mp H
          obtain ⟨t715, A350, H⟩ := H
          (try dsimp -simprocs only at H)
          have A35 := zA_ A350
          clear A350
          by_cases c36 : (t714 != t715) = true
          ·
           rw [if_pos c36] at H
           exact absurd H (by simp)
          ·
           rw [if_neg c36] at H
           have c36b0 : (t714 != t715) = false := by simpa using c36
           (try (have c36b1 : decide (t714 = t715) = true := by simpa using c36))
           (try (have c36b2 : (t714 == t715) = true := by simpa using c36))
           clear c36
           have HC37 := zA_ H
           clear H
           try go_wp2_with (first | ((with_reducible refine gate_callee (f := 5) rfl ?_); refine goesL_ (some 35) rfl rfl Try.func5 βPb rfl #[.slice A0 l0.length c0] rfl zs_ ?_; (with_reducible refine (spec_DrawFlashWrite.calls kj2 _ _ l0 t601 t604 t607 t608 _ ?side1 ?side2 A6.out).mono ?_); (case side1 => exact zc_ (Kd.C_below HR0.out HB.out)); (case side2 => exact HC0.out); rintro e w38 ⟨v602, v605, rfl, ho0, ho1, hb⟩; refine ⟨_, rfl, ?_⟩; have HO603 := zA_ (Kd.R_lower ho0 (below_size (zh_ HB.out))); have HO606 := zA_ (Kd.R_lower ho1 (below_size (zh_ HB.out))); replace HB := zA_ (below_step (zh_ HB.out) hb); (try clear hb); (try clear hb2); (try clear hk); (try clear hi); (try clear ho0); (try clear ho1)) | ((with_reducible refine gate_dst (N := 5) rfl ?_); (try (refine gate_guard (by rfl) ?_; dsimp only)); refine box_event ?hg (N := 5) ?hd (cs := #[.slice none 0 0, .slice none 0 0]) (t := 26) ?hr ?_; (case hd => exact (by rfl)); (case hg => exact (by rfl)); (case hr => exact βMb); intro gb609 hg w39 hbox hb; replace HO603 := zR_ HO603.out hb; replace HO606 := zR_ HO606.out hb; have BK609 := zA_ (hbox); have GW609 := zA_ ((by rw [hg]; exact (below_size (zh_ HB.out)) : w.heap.size ≤ gb609)); have GE609 := zA_ ((by rw [hg]; exact (below_size (zh_ HB.out)) : w.heap.size ≤ gb609)); replace HB := zA_ (below_step (zh_ HB.out) hb); clear hb hbox hg; obtain ⟨Ao40, co40, eo40⟩ := Kd.R_slice HO603.out; subst eo40; have hcz41_0 := cz_ BK609.out 0 (.slice none 0 0) rfl; have hcz41_1 := cz_ BK609.out 1 (.slice none 0 0) rfl; have hfz41_0 := blk_frozen BK609.out 0; have hfz41_1 := blk_frozen BK609.out 1; obtain ⟨Ao42, co42, eo42⟩ := Kd.R_slice HO606.out; subst eo42) | ((with_reducible refine gate_callee (f := 6) rfl ?_); refine goesL_ (some 42) rfl rfl Try.func6 βPb rfl #[.agg #[.slice Ao40 t601.length co40, .slice Ao42 t604.length co42], .int .i64 t607, .string t608] rfl zs_ ?_; (with_reducible refine (impl_FlashWrite.calls _ _ t601 _ _ t604 t607 t608 t610 t613 t616 t617 _ ?side1 ?side2 ?side3 ?side4 A7.out).mono ?_); (case side1 => exact (by refine (Kd.R_reads' (e := 9) (base := w.heap.size) (ok := fun k_ => True) (n := t601.length) (c := co40) ?_).2.2; exact βw)); (case side2 => exact (Kd.R_reads' HO603.out).2.1); (case side3 => exact (by refine (Kd.R_reads' (e := 83) (base := w.heap.size) (ok := fun k_ => True) (n := t604.length) (c := co42) ?_).2.2; exact βx)); (case side4 => exact (Kd.R_reads' HO606.out).2.1); rintro e w43 ⟨v611, v614, rfl, ho0, ho1, hb⟩; refine ⟨_, rfl, ?_⟩; have HO612 := zA_ (Kd.R_lower (Kd.R_new' ho0 (Kd.R_lt βw)) (below_size (zg1_ HB.out GE609.out))); replace HO603 := zA_ (Kd.R_elder' βw (Kd.R_base ho0) hb); have HO615 := zA_ (Kd.R_lower (Kd.R_new' ho1 (Kd.R_lt βx)) (below_size (zg1_ HB.out GE609.out))); replace HO606 := zA_ (Kd.R_elder' βx (Kd.R_base ho1) hb); replace BK609 := zA_ (blk_below (g := gb609) (o := .cells #[.slice Ao40 t601.length co40, .slice Ao42 t604.length co42] 26 (0, 0)) (by (with_reducible repeat (first | refine blk_drewN ?_ _ | refine blk_drew ?_ | refine blk_alloc ?_ _)); refine blk_put (cs := #[.slice Ao40 t601.length co40, .slice none 0 0]) ?_ 1 _ rfl; (with_reducible repeat (first | refine blk_drewN ?_ _ | refine blk_drew ?_ | refine blk_alloc ?_ _)); refine blk_put (cs := #[.slice none 0 0, .slice none 0 0]) ?_ 0 _ rfl; (with_reducible repeat (first | refine blk_drewN ?_ _ | refine blk_drew ?_ | refine blk_alloc ?_ _)); exact BK609.out) hb); replace HB := zA_ (below_step (zg1_ HB.out GE609.out) hb); (try clear hb); (try clear hb2); (try clear hk); (try clear hi); (try clear ho0); (try clear ho1)) | ((with_reducible refine gate_dst (N := 8) rfl ?_); (try (refine gate_guard (by rfl) ?_; dsimp only)); refine box_event ?hg (N := 8) ?hd (cs := #[.slice none 0 0, .slice none 0 0, .string (⟨#[]⟩ : ByteArray), .int .i64 0]) (t := 30) ?hr ?_; (case hd => exact (by rfl)); (case hg => exact (by rfl)); (case hr => exact βMb); intro gb618 hg w44 hbox hb; replace HO603 := zR_ HO603.out hb; replace HO606 := zR_ HO606.out hb; replace HO612 := zR_ HO612.out hb; replace HO615 := zR_ HO615.out hb; have BK618 := zA_ (hbox); have GW618 := zA_ ((by rw [hg]; exact (below_size (zg1_ HB.out GE609.out)) : w.heap.size ≤ gb618)); have GE618 := zA_ ((by rw [hg]; exact (below_size (zg1_ HB.out GE609.out)) : w.heap.size ≤ gb618)); replace HB := zA_ (below_step (zg1_ HB.out GE609.out) hb); have NB609_618 := zA_ ((by rw [hg]; exact Nat.ne_of_lt (blk_lt (g := gb609) (o := .cells #[.slice Ao40 t601.length co40, .slice Ao42 t604.length co42] 26 (0, 0)) (zb_ BK609.out)) : gb609 ≠ gb618)); have NB618_609 := zA_ ((by rw [hg]; exact Nat.ne_of_gt (blk_lt (g := gb609) (o := .cells #[.slice Ao40 t601.length co40, .slice Ao42 t604.length co42] 26 (0, 0)) (zb_ BK609.out)) : gb618 ≠ gb609)); replace BK609 := zB_ BK609.out hb; clear hb hbox hg; obtain ⟨Ao45, co45, eo45⟩ := Kd.R_slice HO612.out; subst eo45; have hnb46 := NB618_609.out; have hnc46 := NB609_618.out; have hcz47_0 := cz_ BK618.out 0 (.slice none 0 0) rfl; have hcz47_1 := cz_ BK618.out 1 (.slice none 0 0) rfl; have hcz47_2 := cz_ BK618.out 2 (.string (⟨#[]⟩ : ByteArray)) rfl; have hcz47_3 := cz_ BK618.out 3 (.int .i64 0) rfl; have hfz47_0 := blk_frozen BK618.out 0; have hfz47_1 := blk_frozen BK618.out 1; have hfz47_2 := blk_frozen BK618.out 2; have hfz47_3 := blk_frozen BK618.out 3; obtain ⟨Ao48, co48, eo48⟩ := Kd.R_slice HO615.out; subst eo48) | ((with_reducible refine gate_callee (f := 7) rfl ?_); refine goesL_ (some 45) rfl rfl Try.func7 βPb rfl #[.slice A1 l1.length c1] rfl zs_ ?_; (with_reducible refine (spec_DrawFlashCrash.calls kj2 _ _ l1 t619 t622 t625 _ ?side1 ?side2 A8.out).mono ?_); (case side1 => exact Kd.C_below HR1.out (zg2_ HB.out GE609.out GE618.out)); (case side2 => exact HC1.out); rintro e w49 ⟨v620, v623, v626, rfl, ho0, ho1, ho2, hb⟩; refine ⟨_, rfl, ?_⟩; have HO621 := zA_ (Kd.R_lower (Kd.R_new' (Kd.R_new' ho0 (Kd.R_lt βd)) (Kd.R_lt βe)) (below_size (zg2_ HB.out GE609.out GE618.out))); replace HO603 := zA_ (Kd.R_elder' βd (Kd.R_base ho0) hb); replace HO612 := zA_ (Kd.R_elder' βe (Kd.R_base ho0) hb); have HO624 := zA_ (Kd.R_lower (Kd.R_new' (Kd.R_new' ho1 (Kd.R_lt βf)) (Kd.R_lt βg)) (below_size (zg2_ HB.out GE609.out GE618.out))); replace HO606 := zA_ (Kd.R_elder' βf (Kd.R_base ho1) hb); replace HO615 := zA_ (Kd.R_elder' βg (Kd.R_base ho1) hb); have HO627 := zA_ (Kd.R_lower ho2 (below_size (zg2_ HB.out GE609.out GE618.out))); replace BK609 := zB4_ NB609_618.out NB609_618.out NB609_618.out NB609_618.out BK609.out hb; replace BK618 := zA_ (blk_below (g := gb618) (o := .cells #[.slice Ao45 t610.length co45, .slice Ao48 t613.length co48, .string t616, .int .i64 t617] 30 (0, 0)) (by (with_reducible repeat (first | refine blk_drewN ?_ _ | refine blk_drew ?_ | refine blk_alloc ?_ _)); refine blk_put (cs := #[.slice Ao45 t610.length co45, .slice Ao48 t613.length co48, .string t616, .int .i64 0]) ?_ 3 _ rfl; (with_reducible repeat (first | refine blk_drewN ?_ _ | refine blk_drew ?_ | refine blk_alloc ?_ _)); refine blk_put (cs := #[.slice Ao45 t610.length co45, .slice Ao48 t613.length co48, .string (⟨#[]⟩ : ByteArray), .int .i64 0]) ?_ 2 _ rfl; (with_reducible repeat (first | refine blk_drewN ?_ _ | refine blk_drew ?_ | refine blk_alloc ?_ _)); refine blk_put (cs := #[.slice Ao45 t610.length co45, .slice none 0 0, .string (⟨#[]⟩ : ByteArray), .int .i64 0]) ?_ 1 _ rfl; (with_reducible repeat (first | refine blk_drewN ?_ _ | refine blk_drew ?_ | refine blk_alloc ?_ _)); refine blk_put (cs := #[.slice none 0 0, .slice none 0 0, .string (⟨#[]⟩ : ByteArray), .int .i64 0]) ?_ 0 _ rfl; (with_reducible repeat (first | refine blk_drewN ?_ _ | refine blk_drew ?_ | refine blk_alloc ?_ _)); exact BK618.out) hb); replace HB := zA_ (below_step (zg2_ HB.out GE609.out GE618.out) hb); (try clear hb); (try clear hb2); (try clear hk); (try clear hi); (try clear ho0); (try clear ho1); (try clear ho2)) | ((with_reducible refine gate_dst (N := 9) rfl ?_); (try (refine gate_guard (by rfl) ?_; dsimp only)); refine box_event ?hg (N := 9) ?hd (cs := #[.slice none 0 0, .slice none 0 0]) (t := 26) ?hr ?_; (case hd => exact (by rfl)); (case hg => exact (by rfl)); (case hr => exact βMb); intro gb628 hg w50 hbox hb; replace HO603 := zR_ HO603.out hb; replace HO606 := zR_ HO606.out hb; replace HO612 := zR_ HO612.out hb; replace HO615 := zR_ HO615.out hb; replace HO621 := zR_ HO621.out hb; replace HO624 := zR_ HO624.out hb; replace HO627 := zR_ HO627.out hb; have BK628 := zA_ (hbox); have GW628 := zA_ ((by rw [hg]; exact (below_size (zg2_ HB.out GE609.out GE618.out)) : w.heap.size ≤ gb628)); have GE628 := zA_ ((by rw [hg]; exact (below_size (zg2_ HB.out GE609.out GE618.out)) : w.heap.size ≤ gb628)); replace HB := zA_ (below_step (zg2_ HB.out GE609.out GE618.out) hb); have NB609_628 := zA_ ((by rw [hg]; exact Nat.ne_of_lt (blk_lt (g := gb609) (o := .cells #[.slice Ao40 t601.length co40, .slice Ao42 t604.length co42] 26 (0, 0)) (zb_ BK609.out)) : gb609 ≠ gb628)); have NB628_609 := zA_ ((by rw [hg]; exact Nat.ne_of_gt (blk_lt (g := gb609) (o := .cells #[.slice Ao40 t601.length co40, .slice Ao42 t604.length co42] 26 (0, 0)) (zb_ BK609.out)) : gb628 ≠ gb609)); replace BK609 := zB_ BK609.out hb; have NB618_628 := zA_ ((by rw [hg]; exact Nat.ne_of_lt (blk_lt (g := gb618) (o := .cells #[.slice Ao45 t610.length co45, .slice Ao48 t613.length co48, .string t616, .int .i64 t617] 30 (0, 0)) (zb_ BK618.out)) : gb618 ≠ gb628)); have NB628_618 := zA_ ((by rw [hg]; exact Nat.ne_of_gt (blk_lt (g := gb618) (o := .cells #[.slice Ao45 t610.length co45, .slice Ao48 t613.length co48, .string t616, .int .i64 t617] 30 (0, 0)) (zb_ BK618.out)) : gb628 ≠ gb618)); replace BK618 := zB_ BK618.out hb; clear hb hbox hg; obtain ⟨Ao51, co51, eo51⟩ := Kd.R_slice HO621.out; subst eo51; have hnb52 := NB628_609.out; have hnc52 := NB609_628.out; have hnb53 := NB628_618.out; have hnc53 := NB618_628.out; have hcz54_0 := cz_ BK628.out 0 (.slice none 0 0) rfl; have hcz54_1 := cz_ BK628.out 1 (.slice none 0 0) rfl; have hfz54_0 := blk_frozen BK628.out 0; have hfz54_1 := blk_frozen BK628.out 1; obtain ⟨Ao55, co55, eo55⟩ := Kd.R_slice HO624.out; subst eo55; obtain ⟨Ao56, co56, eo56⟩ := Kd.R_slice HO627.out; subst eo56) | ((with_reducible refine gate_callee (f := 8) rfl ?_); refine goesL_ (some 50) rfl rfl Try.func8 βPb rfl #[.agg #[.slice Ao51 t619.length co51, .slice Ao55 t622.length co55], .slice Ao56 t625.length co56] rfl zs_ ?_; (with_reducible refine (impl_FlashCrash.calls _ _ t619 _ _ t622 _ _ t625 t629 t632 _ ?side1 ?side2 ?side3 ?side4 ?side5 ?side6 A9.out).mono ?_); (case side1 => exact (by refine (Kd.R_reads' (e := 9) (base := w.heap.size) (ok := fun k_ => ((True ∧ some k_ ≠ (.slice Ao40 t601.length co40 : Value).ownBlock) ∧ some k_ ≠ (.slice Ao45 t610.length co45 : Value).ownBlock)) (n := t619.length) (c := co51) ?_).2.2; exact βy)); (case side2 => exact (Kd.R_reads' HO621.out).2.1); (case side3 => exact (by refine (Kd.R_reads' (e := 83) (base := w.heap.size) (ok := fun k_ => ((True ∧ some k_ ≠ (.slice Ao42 t604.length co42 : Value).ownBlock) ∧ some k_ ≠ (.slice Ao48 t613.length co48 : Value).ownBlock)) (n := t622.length) (c := co55) ?_).2.2; exact βz)); (case side4 => exact (Kd.R_reads' HO624.out).2.1); (case side5 => exact (by refine (Kd.R_reads' (e := 2) (base := w.heap.size) (ok := fun k_ => True) (n := t625.length) (c := co56) ?_).2.2; exact βA)); (case side6 => exact (Kd.R_reads' HO627.out).2.1); rintro e w57 ⟨v630, v633, rfl, ho0, ho1, hb⟩; refine ⟨_, rfl, ?_⟩; replace HO627 := zA_ (Kd.R_below βA hb); have HO631 := zA_ (Kd.R_lower (Kd.R_new' (Kd.R_new' (Kd.R_new' ho0 (Kd.R_lt βB)) (Kd.R_lt βC)) (Kd.R_lt βy)) (below_size (zg3_ HB.out GE609.out GE618.out GE628.out))); replace HO603 := zA_ (Kd.R_elder' βB (Kd.R_base ho0) hb); replace HO612 := zA_ (Kd.R_elder' βC (Kd.R_base ho0) hb); replace HO621 := zA_ (Kd.R_elder' βy (Kd.R_base ho0) hb); have HO634 := zA_ (Kd.R_lower (Kd.R_new' (Kd.R_new' (Kd.R_new' ho1 (Kd.R_lt βD)) (Kd.R_lt βE)) (Kd.R_lt βz)) (below_size (zg3_ HB.out GE609.out GE618.out GE628.out))); replace HO606 := zA_ (Kd.R_elder' βD (Kd.R_base ho1) hb); replace HO615 := zA_ (Kd.R_elder' βE (Kd.R_base ho1) hb); replace HO624 := zA_ (Kd.R_elder' βz (Kd.R_base ho1) hb); replace BK609 := zB2_ NB609_628.out NB609_628.out BK609.out hb; replace BK618 := zB2_ NB618_628.out NB618_628.out BK618.out hb; replace BK628 := zA_ (blk_below (g := gb628) (o := .cells #[.slice Ao51 t619.length co51, .slice Ao55 t622.length co55] 26 (0, 0)) (by (with_reducible repeat (first | refine blk_drewN ?_ _ | refine blk_drew ?_ | refine blk_alloc ?_ _)); refine blk_put (cs := #[.slice Ao51 t619.length co51, .slice none 0 0]) ?_ 1 _ rfl; (with_reducible repeat (first | refine blk_drewN ?_ _ | refine blk_drew ?_ | refine blk_alloc ?_ _)); refine blk_put (cs := #[.slice none 0 0, .slice none 0 0]) ?_ 0 _ rfl; (with_reducible repeat (first | refine blk_drewN ?_ _ | refine blk_drew ?_ | refine blk_alloc ?_ _)); exact BK628.out) hb); replace HB := zA_ (below_step (zg3_ HB.out GE609.out GE618.out GE628.out) hb); (try clear hb); (try clear hb2); (try clear hk); (try clear hi); (try clear ho0); (try clear ho1)) | ((with_reducible refine gate_dst (N := 11) rfl ?_); (try (refine gate_guard (by rfl) ?_; dsimp only)); refine box_event ?hg (N := 11) ?hd (cs := #[.slice none 0 0, .slice none 0 0]) (t := 26) ?hr ?_; (case hd => exact (by rfl)); (case hg => exact (by rfl)); (case hr => exact βMb); intro gb635 hg w58 hbox hb; replace HO603 := zR_ HO603.out hb; replace HO606 := zR_ HO606.out hb; replace HO612 := zR_ HO612.out hb; replace HO615 := zR_ HO615.out hb; replace HO621 := zR_ HO621.out hb; replace HO624 := zR_ HO624.out hb; replace HO627 := zR_ HO627.out hb; replace HO631 := zR_ HO631.out hb; replace HO634 := zR_ HO634.out hb; have BK635 := zA_ (hbox); have GW635 := zA_ ((by rw [hg]; exact (below_size (zg3_ HB.out GE609.out GE618.out GE628.out)) : w.heap.size ≤ gb635)); have GE635 := zA_ ((by rw [hg]; exact (below_size (zg3_ HB.out GE609.out GE618.out GE628.out)) : w.heap.size ≤ gb635)); replace HB := zA_ (below_step (zg3_ HB.out GE609.out GE618.out GE628.out) hb); have NB609_635 := zA_ ((by rw [hg]; exact Nat.ne_of_lt (blk_lt (g := gb609) (o := .cells #[.slice Ao40 t601.length co40, .slice Ao42 t604.length co42] 26 (0, 0)) (zb_ BK609.out)) : gb609 ≠ gb635)); have NB635_609 := zA_ ((by rw [hg]; exact Nat.ne_of_gt (blk_lt (g := gb609) (o := .cells #[.slice Ao40 t601.length co40, .slice Ao42 t604.length co42] 26 (0, 0)) (zb_ BK609.out)) : gb635 ≠ gb609)); replace BK609 := zB_ BK609.out hb; have NB618_635 := zA_ ((by rw [hg]; exact Nat.ne_of_lt (blk_lt (g := gb618) (o := .cells #[.slice Ao45 t610.length co45, .slice Ao48 t613.length co48, .string t616, .int .i64 t617] 30 (0, 0)) (zb_ BK618.out)) : gb618 ≠ gb635)); have NB635_618 := zA_ ((by rw [hg]; exact Nat.ne_of_gt (blk_lt (g := gb618) (o := .cells #[.slice Ao45 t610.length co45, .slice Ao48 t613.length co48, .string t616, .int .i64 t617] 30 (0, 0)) (zb_ BK618.out)) : gb635 ≠ gb618)); replace BK618 := zB_ BK618.out hb; have NB628_635 := zA_ ((by rw [hg]; exact Nat.ne_of_lt (blk_lt (g := gb628) (o := .cells #[.slice Ao51 t619.length co51, .slice Ao55 t622.length co55] 26 (0, 0)) (zb_ BK628.out)) : gb628 ≠ gb635)); have NB635_628 := zA_ ((by rw [hg]; exact Nat.ne_of_gt (blk_lt (g := gb628) (o := .cells #[.slice Ao51 t619.length co51, .slice Ao55 t622.length co55] 26 (0, 0)) (zb_ BK628.out)) : gb635 ≠ gb628)); replace BK628 := zB_ BK628.out hb; clear hb hbox hg; obtain ⟨Ao59, co59, eo59⟩ := Kd.R_slice HO631.out; subst eo59; have hnb60 := NB635_609.out; have hnc60 := NB609_635.out; have hnb61 := NB635_618.out; have hnc61 := NB618_635.out; have hnb62 := NB635_628.out; have hnc62 := NB628_635.out; have hcz63_0 := cz_ BK635.out 0 (.slice none 0 0) rfl; have hcz63_1 := cz_ BK635.out 1 (.slice none 0 0) rfl; have hfz63_0 := blk_frozen BK635.out 0; have hfz63_1 := blk_frozen BK635.out 1; obtain ⟨Ao64, co64, eo64⟩ := Kd.R_slice HO634.out; subst eo64; have hcz65_0 := cz_ BK628.out 0 (.slice Ao51 t619.length co51) rfl; have hcz65_1 := cz_ BK628.out 1 (.slice Ao55 t622.length co55) rfl; have hfz65_0 := blk_frozen BK628.out 0; have hfz65_1 := blk_frozen BK628.out 1) | ((with_reducible refine gate_callee (f := 9) rfl ?_); refine goesL_ (some 52) rfl rfl Try.func9 βPb rfl #[.agg #[.slice Ao51 t619.length co51, .slice Ao55 t622.length co55]] rfl zs_ ?_; (with_reducible refine (impl_FlashSync.calls _ _ t619 _ _ t622 t636 t639 t642 t643 _ ?side1 ?side2 ?side3 ?side4 A10.out).mono ?_); (case side1 => exact (by refine (Kd.R_reads' (e := 9) (base := w.heap.size) (ok := fun k_ => (((True ∧ some k_ ≠ (.slice Ao40 t601.length co40 : Value).ownBlock) ∧ some k_ ≠ (.slice Ao45 t610.length co45 : Value).ownBlock) ∧ some k_ ≠ (.slice Ao59 t629.length co59 : Value).ownBlock)) (n := t619.length) (c := co51) ?_).2.2; exact βF)); (case side2 => exact (Kd.R_reads' HO621.out).2.1); (case side3 => exact (by refine (Kd.R_reads' (e := 83) (base := w.heap.size) (ok := fun k_ => (((True ∧ some k_ ≠ (.slice Ao42 t604.length co42 : Value).ownBlock) ∧ some k_ ≠ (.slice Ao48 t613.length co48 : Value).ownBlock) ∧ some k_ ≠ (.slice Ao64 t632.length co64 : Value).ownBlock)) (n := t622.length) (c := co55) ?_).2.2; exact βG)); (case side4 => exact (Kd.R_reads' HO624.out).2.1); rintro e w66 ⟨v637, v640, rfl, ho0, ho1, hb⟩; refine ⟨_, rfl, ?_⟩; replace HO627 := zA_ (Kd.R_below (by (with_reducible repeat (first | apply Kd.R_alloc | apply Kd.R_drewN | apply Kd.R_drew)); exact (Kd.R_mono (Kd.R_far (p := ⟨gb635, 1, none⟩) (Kd.R_far (p := ⟨gb635, 0, none⟩) (Kd.R_types HO627.out BK635.out (by decide)) (fun _ hk => hk.2) (.slice Ao59 t629.length co59)) (fun _ hk => hk.2) (.slice Ao64 t632.length co64)) (fun _ h_ => h_.1))) hb); have HO638 := zA_ (Kd.R_lower (Kd.R_new' (Kd.R_new' (Kd.R_new' (Kd.R_new' ho0 (Kd.R_lt βH)) (Kd.R_lt βI)) (Kd.R_lt βF)) (Kd.R_lt βJ)) (below_size (zg4_ HB.out GE609.out GE618.out GE628.out GE635.out))); replace HO603 := zA_ (Kd.R_elder' βH (Kd.R_base ho0) hb); replace HO612 := zA_ (Kd.R_elder' βI (Kd.R_base ho0) hb); replace HO621 := zA_ (Kd.R_elder' βF (Kd.R_base ho0) hb); replace HO631 := zA_ (Kd.R_elder' βJ (Kd.R_base ho0) hb); have HO641 := zA_ (Kd.R_lower (Kd.R_new' (Kd.R_new' (Kd.R_new' (Kd.R_new' ho1 (Kd.R_lt βK)) (Kd.R_lt βL)) (Kd.R_lt βG)) (Kd.R_lt βM)) (below_size (zg4_ HB.out GE609.out GE618.out GE628.out GE635.out))); replace HO606 := zA_ (Kd.R_elder' βK (Kd.R_base ho1) hb); replace HO615 := zA_ (Kd.R_elder' βL (Kd.R_base ho1) hb); replace HO624 := zA_ (Kd.R_elder' βG (Kd.R_base ho1) hb); replace HO634 := zA_ (Kd.R_elder' βM (Kd.R_base ho1) hb); replace BK609 := zB2_ NB609_635.out NB609_635.out BK609.out hb; replace BK618 := zB2_ NB618_635.out NB618_635.out BK618.out hb; replace BK628 := zB2_ NB628_635.out NB628_635.out BK628.out hb; replace BK635 := zA_ (blk_below (g := gb635) (o := .cells #[.slice Ao59 t629.length co59, .slice Ao64 t632.length co64] 26 (0, 0)) (by (with_reducible repeat (first | refine blk_drewN ?_ _ | refine blk_drew ?_ | refine blk_alloc ?_ _)); refine blk_put (cs := #[.slice Ao59 t629.length co59, .slice none 0 0]) ?_ 1 _ rfl; (with_reducible repeat (first | refine blk_drewN ?_ _ | refine blk_drew ?_ | refine blk_alloc ?_ _)); refine blk_put (cs := #[.slice none 0 0, .slice none 0 0]) ?_ 0 _ rfl; (with_reducible repeat (first | refine blk_drewN ?_ _ | refine blk_drew ?_ | refine blk_alloc ?_ _)); exact BK635.out) hb); replace HB := zA_ (below_step (zg4_ HB.out GE609.out GE618.out GE628.out GE635.out) hb); (try clear hb); (try clear hb2); (try clear hk); (try clear hi); (try clear ho0); (try clear ho1)) | ((with_reducible refine gate_dst (N := 12) rfl ?_); (try (refine gate_guard (by rfl) ?_; dsimp only)); refine box_event ?hg (N := 12) ?hd (cs := #[.slice none 0 0, .slice none 0 0, .string (⟨#[]⟩ : ByteArray), .int .i64 0]) (t := 30) ?hr ?_; (case hd => exact (by rfl)); (case hg => exact (by rfl)); (case hr => exact βMb); intro gb644 hg w67 hbox hb; replace HO603 := zR_ HO603.out hb; replace HO606 := zR_ HO606.out hb; replace HO612 := zR_ HO612.out hb; replace HO615 := zR_ HO615.out hb; replace HO621 := zR_ HO621.out hb; replace HO624 := zR_ HO624.out hb; replace HO627 := zR_ HO627.out hb; replace HO631 := zR_ HO631.out hb; replace HO634 := zR_ HO634.out hb; replace HO638 := zR_ HO638.out hb; replace HO641 := zR_ HO641.out hb; have BK644 := zA_ (hbox); have GW644 := zA_ ((by rw [hg]; exact (below_size (zg4_ HB.out GE609.out GE618.out GE628.out GE635.out)) : w.heap.size ≤ gb644)); have GE644 := zA_ ((by rw [hg]; exact (below_size (zg4_ HB.out GE609.out GE618.out GE628.out GE635.out)) : w.heap.size ≤ gb644)); replace HB := zA_ (below_step (zg4_ HB.out GE609.out GE618.out GE628.out GE635.out) hb); have NB609_644 := zA_ ((by rw [hg]; exact Nat.ne_of_lt (blk_lt (g := gb609) (o := .cells #[.slice Ao40 t601.length co40, .slice Ao42 t604.length co42] 26 (0, 0)) (zb_ BK609.out)) : gb609 ≠ gb644)); have NB644_609 := zA_ ((by rw [hg]; exact Nat.ne_of_gt (blk_lt (g := gb609) (o := .cells #[.slice Ao40 t601.length co40, .slice Ao42 t604.length co42] 26 (0, 0)) (zb_ BK609.out)) : gb644 ≠ gb609)); replace BK609 := zB_ BK609.out hb; have NB618_644 := zA_ ((by rw [hg]; exact Nat.ne_of_lt (blk_lt (g := gb618) (o := .cells #[.slice Ao45 t610.length co45, .slice Ao48 t613.length co48, .string t616, .int .i64 t617] 30 (0, 0)) (zb_ BK618.out)) : gb618 ≠ gb644)); have NB644_618 := zA_ ((by rw [hg]; exact Nat.ne_of_gt (blk_lt (g := gb618) (o := .cells #[.slice Ao45 t610.length co45, .slice Ao48 t613.length co48, .string t616, .int .i64 t617] 30 (0, 0)) (zb_ BK618.out)) : gb644 ≠ gb618)); replace BK618 := zB_ BK618.out hb; have NB628_644 := zA_ ((by rw [hg]; exact Nat.ne_of_lt (blk_lt (g := gb628) (o := .cells #[.slice Ao51 t619.length co51, .slice Ao55 t622.length co55] 26 (0, 0)) (zb_ BK628.out)) : gb628 ≠ gb644)); have NB644_628 := zA_ ((by rw [hg]; exact Nat.ne_of_gt (blk_lt (g := gb628) (o := .cells #[.slice Ao51 t619.length co51, .slice Ao55 t622.length co55] 26 (0, 0)) (zb_ BK628.out)) : gb644 ≠ gb628)); replace BK628 := zB_ BK628.out hb; have NB635_644 := zA_ ((by rw [hg]; exact Nat.ne_of_lt (blk_lt (g := gb635) (o := .cells #[.slice Ao59 t629.length co59, .slice Ao64 t632.length co64] 26 (0, 0)) (zb_ BK635.out)) : gb635 ≠ gb644)); have NB644_635 := zA_ ((by rw [hg]; exact Nat.ne_of_gt (blk_lt (g := gb635) (o := .cells #[.slice Ao59 t629.length co59, .slice Ao64 t632.length co64] 26 (0, 0)) (zb_ BK635.out)) : gb644 ≠ gb635)); replace BK635 := zB_ BK635.out hb; clear hb hbox hg; obtain ⟨Ao68, co68, eo68⟩ := Kd.R_slice HO638.out; subst eo68; have hnb69 := NB644_609.out; have hnc69 := NB609_644.out; have hnb70 := NB644_618.out; have hnc70 := NB618_644.out; have hnb71 := NB644_628.out; have hnc71 := NB628_644.out; have hnb72 := NB644_635.out; have hnc72 := NB635_644.out; have hcz73_0 := cz_ BK644.out 0 (.slice none 0 0) rfl; have hcz73_1 := cz_ BK644.out 1 (.slice none 0 0) rfl; have hcz73_2 := cz_ BK644.out 2 (.string (⟨#[]⟩ : ByteArray)) rfl; have hcz73_3 := cz_ BK644.out 3 (.int .i64 0) rfl; have hfz73_0 := blk_frozen BK644.out 0; have hfz73_1 := blk_frozen BK644.out 1; have hfz73_2 := blk_frozen BK644.out 2; have hfz73_3 := blk_frozen BK644.out 3; obtain ⟨Ao74, co74, eo74⟩ := Kd.R_slice HO641.out; subst eo74) | ((with_reducible refine gate_callee (f := 10) rfl ?_); refine goesL_ (some 55) rfl rfl Try.func10 βPb rfl #[.slice A0 l0.length c0] rfl zs_ ?_; (with_reducible refine (spec_DrawFlashRead.calls kj2 _ _ l0 t645 t648 t651 _ ?side1 ?side2 A11.out).mono ?_); (case side1 => exact Kd.C_below HR0.out (zg5_ HB.out GE609.out GE618.out GE628.out GE635.out GE644.out)); (case side2 => exact HC0.out); rintro e w75 ⟨v646, v649, rfl, ho0, ho1, hb⟩; refine ⟨_, rfl, ?_⟩; replace HO627 := zA_ (Kd.R_below (by (with_reducible repeat (first | apply Kd.R_alloc | apply Kd.R_drewN | apply Kd.R_drew)); exact (Kd.R_mono (Kd.R_far (p := ⟨gb644, 3, none⟩) (Kd.R_far (p := ⟨gb644, 2, none⟩) (Kd.R_far (p := ⟨gb644, 1, none⟩) (Kd.R_far (p := ⟨gb644, 0, none⟩) (Kd.R_types HO627.out BK644.out (by decide)) (fun _ hk => hk.2) (.slice Ao68 t636.length co68)) (fun _ hk => hk.2) (.slice Ao74 t639.length co74)) (fun _ hk => hk.2) (.string t642)) (fun _ hk => hk.2) (.int .i64 t643)) (fun _ h_ => h_.1))) hb); have HO647 := zA_ (Kd.R_lower (Kd.R_new' (Kd.R_new' (Kd.R_new' (Kd.R_new' (Kd.R_new' ho0 (Kd.R_lt βh)) (Kd.R_lt βi)) (Kd.R_lt βj)) (Kd.R_lt βk)) (Kd.R_lt βl)) (below_size (zg5_ HB.out GE609.out GE618.out GE628.out GE635.out GE644.out))); replace HO603 := zA_ (Kd.R_elder' βh (Kd.R_base ho0) hb); replace HO612 := zA_ (Kd.R_elder' βi (Kd.R_base ho0) hb); replace HO621 := zA_ (Kd.R_elder' βj (Kd.R_base ho0) hb); replace HO631 := zA_ (Kd.R_elder' βk (Kd.R_base ho0) hb); replace HO638 := zA_ (Kd.R_elder' βl (Kd.R_base ho0) hb); have HO650 := zA_ (Kd.R_lower (Kd.R_new' (Kd.R_new' (Kd.R_new' (Kd.R_new' (Kd.R_new' ho1 (Kd.R_lt βm)) (Kd.R_lt βn)) (Kd.R_lt βo)) (Kd.R_lt βp)) (Kd.R_lt βq)) (below_size (zg5_ HB.out GE609.out GE618.out GE628.out GE635.out GE644.out))); replace HO606 := zA_ (Kd.R_elder' βm (Kd.R_base ho1) hb); replace HO615 := zA_ (Kd.R_elder' βn (Kd.R_base ho1) hb); replace HO624 := zA_ (Kd.R_elder' βo (Kd.R_base ho1) hb); replace HO634 := zA_ (Kd.R_elder' βp (Kd.R_base ho1) hb); replace HO641 := zA_ (Kd.R_elder' βq (Kd.R_base ho1) hb); replace BK609 := zB4_ NB609_644.out NB609_644.out NB609_644.out NB609_644.out BK609.out hb; replace BK618 := zB4_ NB618_644.out NB618_644.out NB618_644.out NB618_644.out BK618.out hb; replace BK628 := zB4_ NB628_644.out NB628_644.out NB628_644.out NB628_644.out BK628.out hb; replace BK635 := zB4_ NB635_644.out NB635_644.out NB635_644.out NB635_644.out BK635.out hb; replace BK644 := zA_ (blk_below (g := gb644) (o := .cells #[.slice Ao68 t636.length co68, .slice Ao74 t639.length co74, .string t642, .int .i64 t643] 30 (0, 0)) (by (with_reducible repeat (first | refine blk_drewN ?_ _ | refine blk_drew ?_ | refine blk_alloc ?_ _)); refine blk_put (cs := #[.slice Ao68 t636.length co68, .slice Ao74 t639.length co74, .string t642, .int .i64 0]) ?_ 3 _ rfl; (with_reducible repeat (first | refine blk_drewN ?_ _ | refine blk_drew ?_ | refine blk_alloc ?_ _)); refine blk_put (cs := #[.slice Ao68 t636.length co68, .slice Ao74 t639.length co74, .string (⟨#[]⟩ : ByteArray), .int .i64 0]) ?_ 2 _ rfl; (with_reducible repeat (first | refine blk_drewN ?_ _ | refine blk_drew ?_ | refine blk_alloc ?_ _)); refine blk_put (cs := #[.slice Ao68 t636.length co68, .slice none 0 0, .string (⟨#[]⟩ : ByteArray), .int .i64 0]) ?_ 1 _ rfl; (with_reducible repeat (first | refine blk_drewN ?_ _ | refine blk_drew ?_ | refine blk_alloc ?_ _)); refine blk_put (cs := #[.slice none 0 0, .slice none 0 0, .string (⟨#[]⟩ : ByteArray), .int .i64 0]) ?_ 0 _ rfl; (with_reducible repeat (first | refine blk_drewN ?_ _ | refine blk_drew ?_ | refine blk_alloc ?_ _)); exact BK644.out) hb); replace HB := zA_ (below_step (zg5_ HB.out GE609.out GE618.out GE628.out GE635.out GE644.out) hb); (try clear hb); (try clear hb2); (try clear hk); (try clear hi); (try clear ho0); (try clear ho1)) | ((with_reducible refine gate_dst (N := 13) rfl ?_); (try (refine gate_guard (by rfl) ?_; dsimp only)); refine box_event ?hg (N := 13) ?hd (cs := #[.slice none 0 0, .slice none 0 0]) (t := 26) ?hr ?_; (case hd => exact (by rfl)); (case hg => exact (by rfl)); (case hr => exact βMb); intro gb652 hg w76 hbox hb; replace HO603 := zR_ HO603.out hb; replace HO606 := zR_ HO606.out hb; replace HO612 := zR_ HO612.out hb; replace HO615 := zR_ HO615.out hb; replace HO621 := zR_ HO621.out hb; replace HO624 := zR_ HO624.out hb; replace HO627 := zR_ HO627.out hb; replace HO631 := zR_ HO631.out hb; replace HO634 := zR_ HO634.out hb; replace HO638 := zR_ HO638.out hb; replace HO641 := zR_ HO641.out hb; replace HO647 := zR_ HO647.out hb; replace HO650 := zR_ HO650.out hb; have BK652 := zA_ (hbox); have GW652 := zA_ ((by rw [hg]; exact (below_size (zg5_ HB.out GE609.out GE618.out GE628.out GE635.out GE644.out)) : w.heap.size ≤ gb652)); have GE652 := zA_ ((by rw [hg]; exact (below_size (zg5_ HB.out GE609.out GE618.out GE628.out GE635.out GE644.out)) : w.heap.size ≤ gb652)); replace HB := zA_ (below_step (zg5_ HB.out GE609.out GE618.out GE628.out GE635.out GE644.out) hb); have NB609_652 := zA_ ((by rw [hg]; exact Nat.ne_of_lt (blk_lt (g := gb609) (o := .cells #[.slice Ao40 t601.length co40, .slice Ao42 t604.length co42] 26 (0, 0)) (zb_ BK609.out)) : gb609 ≠ gb652)); have NB652_609 := zA_ ((by rw [hg]; exact Nat.ne_of_gt (blk_lt (g := gb609) (o := .cells #[.slice Ao40 t601.length co40, .slice Ao42 t604.length co42] 26 (0, 0)) (zb_ BK609.out)) : gb652 ≠ gb609)); replace BK609 := zB_ BK609.out hb; have NB618_652 := zA_ ((by rw [hg]; exact Nat.ne_of_lt (blk_lt (g := gb618) (o := .cells #[.slice Ao45 t610.length co45, .slice Ao48 t613.length co48, .string t616, .int .i64 t617] 30 (0, 0)) (zb_ BK618.out)) : gb618 ≠ gb652)); have NB652_618 := zA_ ((by rw [hg]; exact Nat.ne_of_gt (blk_lt (g := gb618) (o := .cells #[.slice Ao45 t610.length co45, .slice Ao48 t613.length co48, .string t616, .int .i64 t617] 30 (0, 0)) (zb_ BK618.out)) : gb652 ≠ gb618)); replace BK618 := zB_ BK618.out hb; have NB628_652 := zA_ ((by rw [hg]; exact Nat.ne_of_lt (blk_lt (g := gb628) (o := .cells #[.slice Ao51 t619.length co51, .slice Ao55 t622.length co55] 26 (0, 0)) (zb_ BK628.out)) : gb628 ≠ gb652)); have NB652_628 := zA_ ((by rw [hg]; exact Nat.ne_of_gt (blk_lt (g := gb628) (o := .cells #[.slice Ao51 t619.length co51, .slice Ao55 t622.length co55] 26 (0, 0)) (zb_ BK628.out)) : gb652 ≠ gb628)); replace BK628 := zB_ BK628.out hb; have NB635_652 := zA_ ((by rw [hg]; exact Nat.ne_of_lt (blk_lt (g := gb635) (o := .cells #[.slice Ao59 t629.length co59, .slice Ao64 t632.length co64] 26 (0, 0)) (zb_ BK635.out)) : gb635 ≠ gb652)); have NB652_635 := zA_ ((by rw [hg]; exact Nat.ne_of_gt (blk_lt (g := gb635) (o := .cells #[.slice Ao59 t629.length co59, .slice Ao64 t632.length co64] 26 (0, 0)) (zb_ BK635.out)) : gb652 ≠ gb635)); replace BK635 := zB_ BK635.out hb; have NB644_652 := zA_ ((by rw [hg]; exact Nat.ne_of_lt (blk_lt (g := gb644) (o := .cells #[.slice Ao68 t636.length co68, .slice Ao74 t639.length co74, .string t642, .int .i64 t643] 30 (0, 0)) (zb_ BK644.out)) : gb644 ≠ gb652)); have NB652_644 := zA_ ((by rw [hg]; exact Nat.ne_of_gt (blk_lt (g := gb644) (o := .cells #[.slice Ao68 t636.length co68, .slice Ao74 t639.length co74, .string t642, .int .i64 t643] 30 (0, 0)) (zb_ BK644.out)) : gb652 ≠ gb644)); replace BK644 := zB_ BK644.out hb; clear hb hbox hg; obtain ⟨Ao77, co77, eo77⟩ := Kd.R_slice HO647.out; subst eo77; have hnb78 := NB652_609.out; have hnc78 := NB609_652.out; have hnb79 := NB652_618.out; have hnc79 := NB618_652.out; have hnb80 := NB652_628.out; have hnc80 := NB628_652.out; have hnb81 := NB652_635.out; have hnc81 := NB635_652.out; have hnb82 := NB652_644.out; have hnc82 := NB644_652.out; have hcz83_0 := cz_ BK652.out 0 (.slice none 0 0) rfl; have hcz83_1 := cz_ BK652.out 1 (.slice none 0 0) rfl; have hfz83_0 := blk_frozen BK652.out 0; have hfz83_1 := blk_frozen BK652.out 1; obtain ⟨Ao84, co84, eo84⟩ := Kd.R_slice HO650.out; subst eo84) | ((with_reducible refine gate_callee (f := 11) rfl ?_); refine goesL_ (some 59) rfl rfl Try.func11 βPb rfl #[.slice A1 l1.length c1] rfl zs_ ?_; (with_reducible refine (spec_DrawFlashNew.calls kj2 _ _ l1 t653 _ ?side1 ?side2 A12.out).mono ?_); (case side1 => exact Kd.C_below HR1.out (zg6_ HB.out GE609.out GE618.out GE628.out GE635.out GE644.out GE652.out)); (case side2 => exact HC1.out); rintro e w85 ⟨rfl, hb⟩; refine ⟨_, rfl, ?_⟩; replace HO603 := zA_ (Kd.R_below (by (with_reducible repeat (first | apply Kd.R_alloc | apply Kd.R_drewN | apply Kd.R_drew)); exact (Kd.R_mono (Kd.R_far (p := ⟨gb652, 1, none⟩) (Kd.R_far (p := ⟨gb652, 0, none⟩) (Kd.R_types HO603.out BK652.out (by decide)) (fun _ hk => hk.2) (.slice Ao77 t645.length co77)) (fun _ hk => hk.2) (.slice Ao84 t648.length co84)) (fun _ h_ => h_.1))) hb); replace HO606 := zA_ (Kd.R_below (by (with_reducible repeat (first | apply Kd.R_alloc | apply Kd.R_drewN | apply Kd.R_drew)); exact (Kd.R_mono (Kd.R_far (p := ⟨gb652, 1, none⟩) (Kd.R_far (p := ⟨gb652, 0, none⟩) (Kd.R_types HO606.out BK652.out (by decide)) (fun _ hk => hk.2) (.slice Ao77 t645.length co77)) (fun _ hk => hk.2) (.slice Ao84 t648.length co84)) (fun _ h_ => h_.1))) hb); replace HO612 := zA_ (Kd.R_below (by (with_reducible repeat (first | apply Kd.R_alloc | apply Kd.R_drewN | apply Kd.R_drew)); exact (Kd.R_mono (Kd.R_far (p := ⟨gb652, 1, none⟩) (Kd.R_far (p := ⟨gb652, 0, none⟩) (Kd.R_types HO612.out BK652.out (by decide)) (fun _ hk => hk.2) (.slice Ao77 t645.length co77)) (fun _ hk => hk.2) (.slice Ao84 t648.length co84)) (fun _ h_ => h_.1))) hb); replace HO615 := zA_ (Kd.R_below (by (with_reducible repeat (first | apply Kd.R_alloc | apply Kd.R_drewN | apply Kd.R_drew)); exact (Kd.R_mono (Kd.R_far (p := ⟨gb652, 1, none⟩) (Kd.R_far (p := ⟨gb652, 0, none⟩) (Kd.R_types HO615.out BK652.out (by decide)) (fun _ hk => hk.2) (.slice Ao77 t645.length co77)) (fun _ hk => hk.2) (.slice Ao84 t648.length co84)) (fun _ h_ => h_.1))) hb); replace HO621 := zA_ (Kd.R_below (by (with_reducible repeat (first | apply Kd.R_alloc | apply Kd.R_drewN | apply Kd.R_drew)); exact (Kd.R_mono (Kd.R_far (p := ⟨gb652, 1, none⟩) (Kd.R_far (p := ⟨gb652, 0, none⟩) (Kd.R_types HO621.out BK652.out (by decide)) (fun _ hk => hk.2) (.slice Ao77 t645.length co77)) (fun _ hk => hk.2) (.slice Ao84 t648.length co84)) (fun _ h_ => h_.1))) hb); replace HO624 := zA_ (Kd.R_below (by (with_reducible repeat (first | apply Kd.R_alloc | apply Kd.R_drewN | apply Kd.R_drew)); exact (Kd.R_mono (Kd.R_far (p := ⟨gb652, 1, none⟩) (Kd.R_far (p := ⟨gb652, 0, none⟩) (Kd.R_types HO624.out BK652.out (by decide)) (fun _ hk => hk.2) (.slice Ao77 t645.length co77)) (fun _ hk => hk.2) (.slice Ao84 t648.length co84)) (fun _ h_ => h_.1))) hb); replace HO627 := zA_ (Kd.R_below (by (with_reducible repeat (first | apply Kd.R_alloc | apply Kd.R_drewN | apply Kd.R_drew)); exact (Kd.R_mono (Kd.R_far (p := ⟨gb652, 1, none⟩) (Kd.R_far (p := ⟨gb652, 0, none⟩) (Kd.R_types HO627.out BK652.out (by decide)) (fun _ hk => hk.2) (.slice Ao77 t645.length co77)) (fun _ hk => hk.2) (.slice Ao84 t648.length co84)) (fun _ h_ => h_.1))) hb); replace HO631 := zA_ (Kd.R_below (by (with_reducible repeat (first | apply Kd.R_alloc | apply Kd.R_drewN | apply Kd.R_drew)); exact (Kd.R_mono (Kd.R_far (p := ⟨gb652, 1, none⟩) (Kd.R_far (p := ⟨gb652, 0, none⟩) (Kd.R_types HO631.out BK652.out (by decide)) (fun _ hk => hk.2) (.slice Ao77 t645.length co77)) (fun _ hk => hk.2) (.slice Ao84 t648.length co84)) (fun _ h_ => h_.1))) hb); replace HO634 := zA_ (Kd.R_below (by (with_reducible repeat (first | apply Kd.R_alloc | apply Kd.R_drewN | apply Kd.R_drew)); exact (Kd.R_mono (Kd.R_far (p := ⟨gb652, 1, none⟩) (Kd.R_far (p := ⟨gb652, 0, none⟩) (Kd.R_types HO634.out BK652.out (by decide)) (fun _ hk => hk.2) (.slice Ao77 t645.length co77)) (fun _ hk => hk.2) (.slice Ao84 t648.length co84)) (fun _ h_ => h_.1))) hb); replace HO638 := zA_ (Kd.R_below (by (with_reducible repeat (first | apply Kd.R_alloc | apply Kd.R_drewN | apply Kd.R_drew)); exact (Kd.R_mono (Kd.R_far (p := ⟨gb652, 1, none⟩) (Kd.R_far (p := ⟨gb652, 0, none⟩) (Kd.R_types HO638.out BK652.out (by decide)) (fun _ hk => hk.2) (.slice Ao77 t645.length co77)) (fun _ hk => hk.2) (.slice Ao84 t648.length co84)) (fun _ h_ => h_.1))) hb); replace HO641 := zA_ (Kd.R_below (by (with_reducible repeat (first | apply Kd.R_alloc | apply Kd.R_drewN | apply Kd.R_drew)); exact (Kd.R_mono (Kd.R_far (p := ⟨gb652, 1, none⟩) (Kd.R_far (p := ⟨gb652, 0, none⟩) (Kd.R_types HO641.out BK652.out (by decide)) (fun _ hk => hk.2) (.slice Ao77 t645.length co77)) (fun _ hk => hk.2) (.slice Ao84 t648.length co84)) (fun _ h_ => h_.1))) hb); replace HO647 := zA_ (Kd.R_below (by (with_reducible repeat (first | apply Kd.R_alloc | apply Kd.R_drewN | apply Kd.R_drew)); exact (Kd.R_mono (Kd.R_far (p := ⟨gb652, 1, none⟩) (Kd.R_far (p := ⟨gb652, 0, none⟩) (Kd.R_types HO647.out BK652.out (by decide)) (fun _ hk => hk.2) (.slice Ao77 t645.length co77)) (fun _ hk => hk.2) (.slice Ao84 t648.length co84)) (fun _ h_ => h_.1))) hb); replace HO650 := zA_ (Kd.R_below (by (with_reducible repeat (first | apply Kd.R_alloc | apply Kd.R_drewN | apply Kd.R_drew)); exact (Kd.R_mono (Kd.R_far (p := ⟨gb652, 1, none⟩) (Kd.R_far (p := ⟨gb652, 0, none⟩) (Kd.R_types HO650.out BK652.out (by decide)) (fun _ hk => hk.2) (.slice Ao77 t645.length co77)) (fun _ hk => hk.2) (.slice Ao84 t648.length co84)) (fun _ h_ => h_.1))) hb); replace BK609 := zB2_ NB609_652.out NB609_652.out BK609.out hb; replace BK618 := zB2_ NB618_652.out NB618_652.out BK618.out hb; replace BK628 := zB2_ NB628_652.out NB628_652.out BK628.out hb; replace BK635 := zB2_ NB635_652.out NB635_652.out BK635.out hb; replace BK644 := zB2_ NB644_652.out NB644_652.out BK644.out hb; replace BK652 := zA_ (blk_below (g := gb652) (o := .cells #[.slice Ao77 t645.length co77, .slice Ao84 t648.length co84] 26 (0, 0)) (by (with_reducible repeat (first | refine blk_drewN ?_ _ | refine blk_drew ?_ | refine blk_alloc ?_ _)); refine blk_put (cs := #[.slice Ao77 t645.length co77, .slice none 0 0]) ?_ 1 _ rfl; (with_reducible repeat (first | refine blk_drewN ?_ _ | refine blk_drew ?_ | refine blk_alloc ?_ _)); refine blk_put (cs := #[.slice none 0 0, .slice none 0 0]) ?_ 0 _ rfl; (with_reducible repeat (first | refine blk_drewN ?_ _ | refine blk_drew ?_ | refine blk_alloc ?_ _)); exact BK652.out) hb); replace HB := zA_ (below_step (zg6_ HB.out GE609.out GE618.out GE628.out GE635.out GE644.out GE652.out) hb); (try clear hb); (try clear hb2); (try clear hk); (try clear hi)) | ((with_reducible refine gate_callee (f := 12) rfl ?_); refine goesL_ (some 62) rfl rfl Try.func12 βPb rfl #[.slice A1 l1.length c1] rfl zs_ ?_; (with_reducible refine (spec_DrawTorn.calls kj2 _ _ l1 t654 t655 t656 _ ?side1 ?side2 A13.out).mono ?_); (case side1 => exact zc_ (Kd.C_below HR1.out HB.out)); (case side2 => exact HC1.out); rintro e w86 ⟨rfl, hb⟩; refine ⟨_, rfl, ?_⟩; replace HO603 := zR_ HO603.out hb; replace HO606 := zR_ HO606.out hb; replace HO612 := zR_ HO612.out hb; replace HO615 := zR_ HO615.out hb; replace HO621 := zR_ HO621.out hb; replace HO624 := zR_ HO624.out hb; replace HO627 := zR_ HO627.out hb; replace HO631 := zR_ HO631.out hb; replace HO634 := zR_ HO634.out hb; replace HO638 := zR_ HO638.out hb; replace HO641 := zR_ HO641.out hb; replace HO647 := zR_ HO647.out hb; replace HO650 := zR_ HO650.out hb; replace BK609 := zB_ BK609.out hb; replace BK618 := zB_ BK618.out hb; replace BK628 := zB_ BK628.out hb; replace BK635 := zB_ BK635.out hb; replace BK644 := zB_ BK644.out hb; replace BK652 := zB_ BK652.out hb; replace HB := zA_ (below_step (zg6_ HB.out GE609.out GE618.out GE628.out GE635.out GE644.out GE652.out) hb); (try clear hb); (try clear hb2); (try clear hk); (try clear hi)))
           replace HO603 := zA_ (Kd.R_drew HO603.out)
           replace HO606 := zA_ (Kd.R_drew HO606.out)
           replace HO612 := zA_ (Kd.R_drew HO612.out)
           replace HO615 := zA_ (Kd.R_drew HO615.out)
           replace HO621 := zA_ (Kd.R_drew HO621.out)
           replace HO624 := zA_ (Kd.R_drew HO624.out)
           replace HO627 := zA_ (Kd.R_drew HO627.out)
           replace HO631 := zA_ (Kd.R_drew HO631.out)
           replace HO634 := zA_ (Kd.R_drew HO634.out)
           replace HO638 := zA_ (Kd.R_drew HO638.out)
           replace HO641 := zA_ (Kd.R_drew HO641.out)
           replace HO647 := zA_ (Kd.R_drew HO647.out)
           replace HO650 := zA_ (Kd.R_drew HO650.out)
           replace BK609 := zA_ (blk_drew BK609.out)
           replace BK618 := zA_ (blk_drew BK618.out)
           replace BK628 := zA_ (blk_drew BK628.out)
           replace BK635 := zA_ (blk_drew BK635.out)
           replace BK644 := zA_ (blk_drew BK644.out)
           replace BK652 := zA_ (blk_drew BK652.out)
           replace HB := zA_ (below_drew1 HB.out)
           refine start_ (n := 58) (S := fun w' => w'.cell? ⟨gb618, 0, none⟩ = some (.slice Ao45 t610.length co45) ∧ w'.cell? ⟨gb618, 1, none⟩ = some (.slice Ao48 t613.length co48) ∧ w'.cell? ⟨gb618, 2, none⟩ = some (.string t616) ∧ w'.cell? ⟨gb618, 3, none⟩ = some (.int .i64 t617) ∧ w'.cell? ⟨gb609, 0, none⟩ = some (.slice Ao40 t601.length co40) ∧ w'.cell? ⟨gb609, 1, none⟩ = some (.slice Ao42 t604.length co42) ∧ w'.cell? ⟨gb635, 0, none⟩ = some (.slice Ao59 t629.length co59) ∧ w'.cell? ⟨gb635, 1, none⟩ = some (.slice Ao64 t632.length co64) ∧ w'.cell? ⟨gb628, 0, none⟩ = some (.slice Ao51 t619.length co51) ∧ w'.cell? ⟨gb628, 1, none⟩ = some (.slice Ao55 t622.length co55) ∧ w'.cell? ⟨gb644, 0, none⟩ = some (.slice Ao68 t636.length co68) ∧ w'.cell? ⟨gb644, 1, none⟩ = some (.slice Ao74 t639.length co74) ∧ w'.cell? ⟨gb644, 2, none⟩ = some (.string t642) ∧ w'.cell? ⟨gb644, 3, none⟩ = some (.int .i64 t643) ∧ w'.cell? ⟨gb652, 0, none⟩ = some (.slice Ao77 t645.length co77) ∧ w'.cell? ⟨gb652, 1, none⟩ = some (.slice Ao84 t648.length co84)) (ds := []) (mr_ [0, 58]) βPb rfl rfl ⟨cy_ BK618.out 0, cy_ BK618.out 1, cy_ BK618.out 2, cy_ BK618.out 3, cy_ BK609.out 0, cy_ BK609.out 1, cy_ BK635.out 0, cy_ BK635.out 1, cy_ BK628.out 0, cy_ BK628.out 1, cy_ BK644.out 0, cy_ BK644.out 1, cy_ BK644.out 2, cy_ BK644.out 3, cy_ BK652.out 0, cy_ BK652.out 1⟩ (fun hHeld => ?_); refine with_tabW laws_FnFlash.tab11 laws_FnFlash.bits11 (fun HT_ HW_ => ?_)
           generalize w86.drew = w87 at HO603 HO606 HO612 HO615 HO621 HO624 HO627 HO631 HO634 HO638 HO641 HO647 HO650 BK609 BK618 BK628 BK635 BK644 BK652 HB hHeld ⊢
           refine pure_ (i := 2) (N := some 68) (v := ?_) (a' := ?_) (mr_ [0, 2, 1, 55]) rfl rfl (any_of HT_.out βPb) (fun _ _ _ h => h) (Or.inl ⟨(by rfl), ?_⟩) ?_ ?_
           rotate_left; exact pv_; rotate_left; exact pp_
           refine pure_ (i := 3) (N := some 69) (v := ?_) (a' := ?_) (mr_ [0, 2, 2, 54]) rfl rfl (any_of HT_.out βPb) (fun _ _ _ h => h) (Or.inl ⟨(by rfl), ?_⟩) ?_ ?_
           rotate_left; exact pv_; rotate_left; exact pp_
           refine take_ (i := 0) (N := some 66) (v := ?_) (a' := ?_) (mr_ [1, 1, 2, 54]) rfl rfl (take_ofW HT_.out HW_.out βPb) (fun _ _ _ h => h) (Or.inl ⟨(by rfl), ?_⟩) hHeld ?_ ?_
           rotate_left
           ·
            rintro w' ⟨s0, s1, s2, s3, s4, s5, s6, s7, s8, s9, s10, s11, s12, s13, s14, s15⟩
            go_simp
            with_reducible rfl
           rotate_left
           exact pp_
           refine take_ (i := 1) (N := some 67) (v := ?_) (a' := ?_) (mr_ [4, 54]) rfl rfl (take_ofW HT_.out HW_.out βPb) (fun _ _ _ h => h) (Or.inl ⟨(by rfl), ?_⟩) hHeld ?_ ?_
           rotate_left
           ·
            rintro w' ⟨s0, s1, s2, s3, s4, s5, s6, s7, s8, s9, s10, s11, s12, s13, s14, s15⟩
            go_simp
            with_reducible rfl
           rotate_left
           exact pp_
           refine one_ (i := 4) (N := some 70) (mr_ [5, 53]) rfl rfl (one_of HT_.out βPb) (by decide) (fun K hK => ?_)
           refine goes_ Try.func14 βPb rfl #[.agg #[.slice Ao40 t601.length co40, .slice Ao42 t604.length co42], .int .i64 t607, .string t608] (by rfl) rfl rfl zs_ ?_
           with_reducible refine (spec_FlashWrite.calls kj2 _ _ t601 _ _ t604 t607 t608 t657 t660 t663 t664 _ ?side1 ?side2 ?side3 ?side4 A14.out).mono ?_
           (case side1 => exact zc_ (Kd.R_reads' HO603.out).2.2)
           (case side2 => exact (Kd.R_reads' HO603.out).2.1)
           (case side3 => exact zc_ (Kd.R_reads' HO606.out).2.2)
           (case side4 => exact (Kd.R_reads' HO606.out).2.1)
           rintro e w88 ⟨v658, v661, rfl, ho0, ho1, hb⟩
           refine ⟨_, rfl, ?_⟩
           replace HO627 := zR_ HO627.out hb
           have HO659 := zA_ (Kd.R_lower (Kd.R_new' (Kd.R_new' (Kd.R_new' (Kd.R_new' (Kd.R_new' (Kd.R_new' ho0 (Kd.R_lt (zr_ HO603.out))) (Kd.R_lt (zr_ HO612.out))) (Kd.R_lt (zr_ HO621.out))) (Kd.R_lt (zr_ HO631.out))) (Kd.R_lt (zr_ HO638.out))) (Kd.R_lt (zr_ HO647.out))) (below_size (zg6_ HB.out GE609.out GE618.out GE628.out GE635.out GE644.out GE652.out)))
           replace HO603 := zE_ HO603.out ho0 hb
           replace HO612 := zE_ HO612.out ho0 hb
           replace HO621 := zE_ HO621.out ho0 hb
           replace HO631 := zE_ HO631.out ho0 hb
           replace HO638 := zE_ HO638.out ho0 hb
           replace HO647 := zE_ HO647.out ho0 hb
           have HO662 := zA_ (Kd.R_lower (Kd.R_new' (Kd.R_new' (Kd.R_new' (Kd.R_new' (Kd.R_new' (Kd.R_new' ho1 (Kd.R_lt (zr_ HO606.out))) (Kd.R_lt (zr_ HO615.out))) (Kd.R_lt (zr_ HO624.out))) (Kd.R_lt (zr_ HO634.out))) (Kd.R_lt (zr_ HO641.out))) (Kd.R_lt (zr_ HO650.out))) (below_size (zg6_ HB.out GE609.out GE618.out GE628.out GE635.out GE644.out GE652.out)))
           replace HO606 := zE_ HO606.out ho1 hb
           replace HO615 := zE_ HO615.out ho1 hb
           replace HO624 := zE_ HO624.out ho1 hb
           replace HO634 := zE_ HO634.out ho1 hb
           replace HO641 := zE_ HO641.out ho1 hb
           replace HO650 := zE_ HO650.out ho1 hb
           replace BK609 := zB_ BK609.out hb
           replace BK618 := zB_ BK618.out hb
           replace BK628 := zB_ BK628.out hb
           replace BK635 := zB_ BK635.out hb
           replace BK644 := zB_ BK644.out hb
           replace BK652 := zB_ BK652.out hb
           replace HB := zA_ (below_step (zg6_ HB.out GE609.out GE618.out GE628.out GE635.out GE644.out GE652.out) hb)
           (try clear hb)
           (try clear hb2)
           (try clear hk)
           (try clear hi)
           (try clear ho0)
           (try clear ho1)
           obtain ⟨Ao89, co89, eo89⟩ := Kd.R_slice HO659.out
           (first | subst eo89 | (injection eo89 with f1_ f2_ f3_; have f4_ := f1_.symm; have f5_ := f3_.symm; clear f1_ f2_ f3_; subst f4_; subst f5_))
           obtain ⟨Ao90, co90, eo90⟩ := Kd.R_slice HO662.out
           (first | subst eo90 | (injection eo90 with f1_ f2_ f3_; have f4_ := f1_.symm; have f5_ := f3_.symm; clear f1_ f2_ f3_; subst f4_; subst f5_))
           refine hK.out _ _ ⟨cy_ BK618.out 0, cy_ BK618.out 1, cy_ BK618.out 2, cy_ BK618.out 3, cy_ BK609.out 0, cy_ BK609.out 1, cy_ BK635.out 0, cy_ BK635.out 1, cy_ BK628.out 0, cy_ BK628.out 1, cy_ BK644.out 0, cy_ BK644.out 1, cy_ BK644.out 2, cy_ BK644.out 3, cy_ BK652.out 0, cy_ BK652.out 1⟩ (fun hHeld => ?_)
           clear hK K
           refine norm_ (a' := ?_) ?_ ?_
           rotate_left
           ·
            show Act.put _ (some 70) _ = _
            simp only [Act.put, List.setIfInBounds_toArray, List.set_cons_zero, List.set_cons_succ, i64_w, i32_w]
            rfl
           refine one_ (i := 5) (N := some 71) (mr_ [6, 52]) rfl rfl (one_of HT_.out βPb) (by decide) (fun K hK => ?_)
           refine goes_ Try.func13 βPb rfl #[.agg #[.slice Ao45 t610.length co45, .slice Ao48 t613.length co48, .string t616, .int .i64 t617], .agg #[.slice Ao89 t657.length co89, .slice Ao90 t660.length co90, .string t663, .int .i64 t664]] (by rfl) rfl rfl zs_ ?_
           with_reducible refine (laws_lwFlashes.calls kj2 _ _ t610 _ _ t613 t616 t617 _ _ t657 _ _ t660 t663 t664 true _ ?side1 ?side2 ?side3 ?side4 ?side5 ?side6 ?side7 ?side8 A15.out).mono ?_
           (case side1 => exact zc_ (Kd.R_reads' HO612.out).2.2)
           (case side2 => exact (Kd.R_reads' HO612.out).2.1)
           (case side3 => exact zc_ (Kd.R_reads' HO615.out).2.2)
           (case side4 => exact (Kd.R_reads' HO615.out).2.1)
           (case side5 => exact zc_ (Kd.R_reads' HO659.out).2.2)
           (case side6 => exact (Kd.R_reads' HO659.out).2.1)
           (case side7 => exact zc_ (Kd.R_reads' HO662.out).2.2)
           (case side8 => exact (Kd.R_reads' HO662.out).2.1)
           rintro e w91 ⟨rfl, hb⟩
           refine ⟨_, rfl, ?_⟩
           replace HO603 := zR_ HO603.out hb
           replace HO606 := zR_ HO606.out hb
           replace HO612 := zR_ HO612.out hb
           replace HO615 := zR_ HO615.out hb
           replace HO621 := zR_ HO621.out hb
           replace HO624 := zR_ HO624.out hb
           replace HO627 := zR_ HO627.out hb
           replace HO631 := zR_ HO631.out hb
           replace HO634 := zR_ HO634.out hb
           replace HO638 := zR_ HO638.out hb
           replace HO641 := zR_ HO641.out hb
           replace HO647 := zR_ HO647.out hb
           replace HO650 := zR_ HO650.out hb
           replace HO659 := zR_ HO659.out hb
           replace HO662 := zR_ HO662.out hb
           replace BK609 := zB_ BK609.out hb
           replace BK618 := zB_ BK618.out hb
           replace BK628 := zB_ BK628.out hb
           replace BK635 := zB_ BK635.out hb
           replace BK644 := zB_ BK644.out hb
           replace BK652 := zB_ BK652.out hb
           replace HB := zA_ (below_step (zg6_ HB.out GE609.out GE618.out GE628.out GE635.out GE644.out GE652.out) hb)
           (try clear hb)
           (try clear hb2)
           (try clear hk)
           (try clear hi)
           refine hK.out _ _ ⟨cy_ BK618.out 0, cy_ BK618.out 1, cy_ BK618.out 2, cy_ BK618.out 3, cy_ BK609.out 0, cy_ BK609.out 1, cy_ BK635.out 0, cy_ BK635.out 1, cy_ BK628.out 0, cy_ BK628.out 1, cy_ BK644.out 0, cy_ BK644.out 1, cy_ BK644.out 2, cy_ BK644.out 3, cy_ BK652.out 0, cy_ BK652.out 1⟩ (fun hHeld => ?_)
           clear hK K
           refine norm_ (a' := ?_) ?_ ?_
           rotate_left
           ·
            show Act.put _ (some 71) _ = _
            simp only [Act.put, List.setIfInBounds_toArray, List.set_cons_zero, List.set_cons_succ, i64_w, i32_w]
            rfl
           refine pure_ (i := 6) (N := some 72) (v := ?_) (a' := ?_) (mr_ [7, 51]) rfl rfl (any_of HT_.out βPb) (fun _ _ _ h => h) (Or.inl ⟨(by rfl), ?_⟩) ?_ ?_
           rotate_left; exact pv_; rotate_left; exact pp_
           refine pure_ (i := 7) (N := some 73) (v := ?_) (a' := ?_) (mr_ [8, 50]) rfl rfl (any_of HT_.out βPb) (fun _ _ _ h => h) (Or.inl ⟨(by rfl), ?_⟩) ?_ ?_
           rotate_left; exact pv_; rotate_left; exact pp_
           refine pure_ (i := 10) (N := some 76) (v := ?_) (a' := ?_) (mr_ [8, 2, 1, 47]) rfl rfl (any_of HT_.out βPb) (fun _ _ _ h => h) (Or.inl ⟨(by rfl), ?_⟩) ?_ ?_
           rotate_left; exact pv_; rotate_left; exact pp_
           refine take_ (i := 8) (N := some 74) (v := ?_) (a' := ?_) (mr_ [9, 1, 1, 47]) rfl rfl (take_ofW HT_.out HW_.out βPb) (fun _ _ _ h => h) (Or.inl ⟨(by rfl), ?_⟩) hHeld ?_ ?_
           rotate_left
           ·
            rintro w' ⟨s0, s1, s2, s3, s4, s5, s6, s7, s8, s9, s10, s11, s12, s13, s14, s15⟩
            go_simp
            with_reducible rfl
           rotate_left
           exact pp_
           refine take_ (i := 9) (N := some 75) (v := ?_) (a' := ?_) (mr_ [11, 47]) rfl rfl (take_ofW HT_.out HW_.out βPb) (fun _ _ _ h => h) (Or.inl ⟨(by rfl), ?_⟩) hHeld ?_ ?_
           rotate_left
           ·
            rintro w' ⟨s0, s1, s2, s3, s4, s5, s6, s7, s8, s9, s10, s11, s12, s13, s14, s15⟩
            go_simp
            with_reducible rfl
           rotate_left
           exact pp_
           refine one_ (i := 11) (N := some 77) (mr_ [12, 46]) rfl rfl (one_of HT_.out βPb) (by decide) (fun K hK => ?_)
           refine goes_ Try.func16 βPb rfl #[.agg #[.slice Ao51 t619.length co51, .slice Ao55 t622.length co55], .slice Ao56 t625.length co56] (by rfl) rfl rfl zs_ ?_
           with_reducible refine (spec_FlashCrash.calls kj2 _ _ t619 _ _ t622 _ _ t625 t666 t669 _ ?side1 ?side2 ?side3 ?side4 ?side5 ?side6 A17.out).mono ?_
           (case side1 => exact zc_ (Kd.R_reads' HO621.out).2.2)
           (case side2 => exact (Kd.R_reads' HO621.out).2.1)
           (case side3 => exact zc_ (Kd.R_reads' HO624.out).2.2)
           (case side4 => exact (Kd.R_reads' HO624.out).2.1)
           (case side5 => exact zc_ (Kd.R_reads' HO627.out).2.2)
           (case side6 => exact (Kd.R_reads' HO627.out).2.1)
           rintro e w92 ⟨v667, v670, rfl, ho0, ho1, hb⟩
           refine ⟨_, rfl, ?_⟩
           replace HO627 := zR_ HO627.out hb
           have HO668 := zA_ (Kd.R_lower (Kd.R_new' (Kd.R_new' (Kd.R_new' (Kd.R_new' (Kd.R_new' (Kd.R_new' (Kd.R_new' ho0 (Kd.R_lt (zr_ HO603.out))) (Kd.R_lt (zr_ HO612.out))) (Kd.R_lt (zr_ HO621.out))) (Kd.R_lt (zr_ HO631.out))) (Kd.R_lt (zr_ HO638.out))) (Kd.R_lt (zr_ HO647.out))) (Kd.R_lt (zr_ HO659.out))) (below_size (zg6_ HB.out GE609.out GE618.out GE628.out GE635.out GE644.out GE652.out)))
           replace HO603 := zE_ HO603.out ho0 hb
           replace HO612 := zE_ HO612.out ho0 hb
           replace HO621 := zE_ HO621.out ho0 hb
           replace HO631 := zE_ HO631.out ho0 hb
           replace HO638 := zE_ HO638.out ho0 hb
           replace HO647 := zE_ HO647.out ho0 hb
           replace HO659 := zE_ HO659.out ho0 hb
           have HO671 := zA_ (Kd.R_lower (Kd.R_new' (Kd.R_new' (Kd.R_new' (Kd.R_new' (Kd.R_new' (Kd.R_new' (Kd.R_new' ho1 (Kd.R_lt (zr_ HO606.out))) (Kd.R_lt (zr_ HO615.out))) (Kd.R_lt (zr_ HO624.out))) (Kd.R_lt (zr_ HO634.out))) (Kd.R_lt (zr_ HO641.out))) (Kd.R_lt (zr_ HO650.out))) (Kd.R_lt (zr_ HO662.out))) (below_size (zg6_ HB.out GE609.out GE618.out GE628.out GE635.out GE644.out GE652.out)))
           replace HO606 := zE_ HO606.out ho1 hb
           replace HO615 := zE_ HO615.out ho1 hb
           replace HO624 := zE_ HO624.out ho1 hb
           replace HO634 := zE_ HO634.out ho1 hb
           replace HO641 := zE_ HO641.out ho1 hb
           replace HO650 := zE_ HO650.out ho1 hb
           replace HO662 := zE_ HO662.out ho1 hb
           replace BK609 := zB_ BK609.out hb
           replace BK618 := zB_ BK618.out hb
           replace BK628 := zB_ BK628.out hb
           replace BK635 := zB_ BK635.out hb
           replace BK644 := zB_ BK644.out hb
           replace BK652 := zB_ BK652.out hb
           replace HB := zA_ (below_step (zg6_ HB.out GE609.out GE618.out GE628.out GE635.out GE644.out GE652.out) hb)
           (try clear hb)
           (try clear hb2)
           (try clear hk)
           (try clear hi)
           (try clear ho0)
           (try clear ho1)
           obtain ⟨Ao93, co93, eo93⟩ := Kd.R_slice HO668.out
           (first | subst eo93 | (injection eo93 with f1_ f2_ f3_; have f4_ := f1_.symm; have f5_ := f3_.symm; clear f1_ f2_ f3_; subst f4_; subst f5_))
           obtain ⟨Ao94, co94, eo94⟩ := Kd.R_slice HO671.out
           (first | subst eo94 | (injection eo94 with f1_ f2_ f3_; have f4_ := f1_.symm; have f5_ := f3_.symm; clear f1_ f2_ f3_; subst f4_; subst f5_))
           refine hK.out _ _ ⟨cy_ BK618.out 0, cy_ BK618.out 1, cy_ BK618.out 2, cy_ BK618.out 3, cy_ BK609.out 0, cy_ BK609.out 1, cy_ BK635.out 0, cy_ BK635.out 1, cy_ BK628.out 0, cy_ BK628.out 1, cy_ BK644.out 0, cy_ BK644.out 1, cy_ BK644.out 2, cy_ BK644.out 3, cy_ BK652.out 0, cy_ BK652.out 1⟩ (fun hHeld => ?_)
           clear hK K
           refine norm_ (a' := ?_) ?_ ?_
           rotate_left
           ·
            show Act.put _ (some 77) _ = _
            simp only [Act.put, List.setIfInBounds_toArray, List.set_cons_zero, List.set_cons_succ, i64_w, i32_w]
            rfl
           refine one_ (i := 12) (N := some 78) (mr_ [13, 45]) rfl rfl (one_of HT_.out βPb) (by decide) (fun K hK => ?_)
           refine goes_ Try.func15 βPb rfl #[.agg #[.slice Ao59 t629.length co59, .slice Ao64 t632.length co64], .agg #[.slice Ao93 t666.length co93, .slice Ao94 t669.length co94]] (by rfl) rfl rfl zs_ ?_
           with_reducible refine (laws_lwFlash.calls kj2 _ _ t629 _ _ t632 _ _ t666 _ _ t669 true _ ?side1 ?side2 ?side3 ?side4 ?side5 ?side6 ?side7 ?side8 A18.out).mono ?_
           (case side1 => exact zc_ (Kd.R_reads' HO631.out).2.2)
           (case side2 => exact (Kd.R_reads' HO631.out).2.1)
           (case side3 => exact zc_ (Kd.R_reads' HO634.out).2.2)
           (case side4 => exact (Kd.R_reads' HO634.out).2.1)
           (case side5 => exact zc_ (Kd.R_reads' HO668.out).2.2)
           (case side6 => exact (Kd.R_reads' HO668.out).2.1)
           (case side7 => exact zc_ (Kd.R_reads' HO671.out).2.2)
           (case side8 => exact (Kd.R_reads' HO671.out).2.1)
           rintro e w95 ⟨rfl, hb⟩
           refine ⟨_, rfl, ?_⟩
           replace HO603 := zR_ HO603.out hb
           replace HO606 := zR_ HO606.out hb
           replace HO612 := zR_ HO612.out hb
           replace HO615 := zR_ HO615.out hb
           replace HO621 := zR_ HO621.out hb
           replace HO624 := zR_ HO624.out hb
           replace HO627 := zR_ HO627.out hb
           replace HO631 := zR_ HO631.out hb
           replace HO634 := zR_ HO634.out hb
           replace HO638 := zR_ HO638.out hb
           replace HO641 := zR_ HO641.out hb
           replace HO647 := zR_ HO647.out hb
           replace HO650 := zR_ HO650.out hb
           replace HO659 := zR_ HO659.out hb
           replace HO662 := zR_ HO662.out hb
           replace HO668 := zR_ HO668.out hb
           replace HO671 := zR_ HO671.out hb
           replace BK609 := zB_ BK609.out hb
           replace BK618 := zB_ BK618.out hb
           replace BK628 := zB_ BK628.out hb
           replace BK635 := zB_ BK635.out hb
           replace BK644 := zB_ BK644.out hb
           replace BK652 := zB_ BK652.out hb
           replace HB := zA_ (below_step (zg6_ HB.out GE609.out GE618.out GE628.out GE635.out GE644.out GE652.out) hb)
           (try clear hb)
           (try clear hb2)
           (try clear hk)
           (try clear hi)
           refine hK.out _ _ ⟨cy_ BK618.out 0, cy_ BK618.out 1, cy_ BK618.out 2, cy_ BK618.out 3, cy_ BK609.out 0, cy_ BK609.out 1, cy_ BK635.out 0, cy_ BK635.out 1, cy_ BK628.out 0, cy_ BK628.out 1, cy_ BK644.out 0, cy_ BK644.out 1, cy_ BK644.out 2, cy_ BK644.out 3, cy_ BK652.out 0, cy_ BK652.out 1⟩ (fun hHeld => ?_)
           clear hK K
           refine norm_ (a' := ?_) ?_ ?_
           rotate_left
           ·
            show Act.put _ (some 78) _ = _
            simp only [Act.put, List.setIfInBounds_toArray, List.set_cons_zero, List.set_cons_succ, i64_w, i32_w]
            rfl
           refine pure_ (i := 13) (N := some 79) (v := ?_) (a' := ?_) (mr_ [14, 44]) rfl rfl (any_of HT_.out βPb) (fun _ _ _ h => h) (Or.inl ⟨(by rfl), ?_⟩) ?_ ?_
           rotate_left; exact pv_; rotate_left; exact pp_
           refine pure_ (i := 14) (N := some 80) (v := ?_) (a' := ?_) (mr_ [15, 43]) rfl rfl (any_of HT_.out βPb) (fun _ _ _ h => h) (Or.inl ⟨(by rfl), ?_⟩) ?_ ?_
           rotate_left; exact pv_; rotate_left; exact pp_
           refine pure_ (i := 15) (N := some 81) (v := ?_) (a' := ?_) (mr_ [16, 42]) rfl rfl (any_of HT_.out βPb) (fun _ _ _ h => h) (Or.inl ⟨(by rfl), ?_⟩) ?_ ?_
           rotate_left; exact pv_; rotate_left; exact pp_
           refine take_ (i := 16) (N := some 82) (v := ?_) (a' := ?_) (mr_ [17, 41]) rfl rfl (take_ofW HT_.out HW_.out βPb) (fun _ _ _ h => h) (Or.inl ⟨(by rfl), ?_⟩) hHeld ?_ ?_
           rotate_left
           ·
            rintro w' ⟨s0, s1, s2, s3, s4, s5, s6, s7, s8, s9, s10, s11, s12, s13, s14, s15⟩
            go_simp
            with_reducible rfl
           rotate_left
           exact pp_
           refine take_ (i := 17) (N := some 83) (v := ?_) (a' := ?_) (mr_ [18, 40]) rfl rfl (take_ofW HT_.out HW_.out βPb) (fun _ _ _ h => h) (Or.inl ⟨(by rfl), ?_⟩) hHeld ?_ ?_
           rotate_left
           ·
            rintro w' ⟨s0, s1, s2, s3, s4, s5, s6, s7, s8, s9, s10, s11, s12, s13, s14, s15⟩
            go_simp
            with_reducible rfl
           rotate_left
           exact pp_
           refine one_ (i := 18) (N := some 84) (mr_ [19, 39]) rfl rfl (one_of HT_.out βPb) (by decide) (fun K hK => ?_)
           refine goes_ Try.func17 βPb rfl #[.agg #[.slice Ao51 t619.length co51, .slice Ao55 t622.length co55]] (by rfl) rfl rfl zs_ ?_
           with_reducible refine (spec_FlashSync.calls kj2 _ _ t619 _ _ t622 t673 t676 t679 t680 _ ?side1 ?side2 ?side3 ?side4 A20.out).mono ?_
           (case side1 => exact zc_ (Kd.R_reads' HO621.out).2.2)
           (case side2 => exact (Kd.R_reads' HO621.out).2.1)
           (case side3 => exact zc_ (Kd.R_reads' HO624.out).2.2)
           (case side4 => exact (Kd.R_reads' HO624.out).2.1)
           rintro e w96 ⟨v674, v677, rfl, ho0, ho1, hb⟩
           refine ⟨_, rfl, ?_⟩
           replace HO627 := zR_ HO627.out hb
           have HO675 := zA_ (Kd.R_lower (Kd.R_new' (Kd.R_new' (Kd.R_new' (Kd.R_new' (Kd.R_new' (Kd.R_new' (Kd.R_new' (Kd.R_new' ho0 (Kd.R_lt (zr_ HO603.out))) (Kd.R_lt (zr_ HO612.out))) (Kd.R_lt (zr_ HO621.out))) (Kd.R_lt (zr_ HO631.out))) (Kd.R_lt (zr_ HO638.out))) (Kd.R_lt (zr_ HO647.out))) (Kd.R_lt (zr_ HO659.out))) (Kd.R_lt (zr_ HO668.out))) (below_size (zg6_ HB.out GE609.out GE618.out GE628.out GE635.out GE644.out GE652.out)))
           replace HO603 := zE_ HO603.out ho0 hb
           replace HO612 := zE_ HO612.out ho0 hb
           replace HO621 := zE_ HO621.out ho0 hb
           replace HO631 := zE_ HO631.out ho0 hb
           replace HO638 := zE_ HO638.out ho0 hb
           replace HO647 := zE_ HO647.out ho0 hb
           replace HO659 := zE_ HO659.out ho0 hb
           replace HO668 := zE_ HO668.out ho0 hb
           have HO678 := zA_ (Kd.R_lower (Kd.R_new' (Kd.R_new' (Kd.R_new' (Kd.R_new' (Kd.R_new' (Kd.R_new' (Kd.R_new' (Kd.R_new' ho1 (Kd.R_lt (zr_ HO606.out))) (Kd.R_lt (zr_ HO615.out))) (Kd.R_lt (zr_ HO624.out))) (Kd.R_lt (zr_ HO634.out))) (Kd.R_lt (zr_ HO641.out))) (Kd.R_lt (zr_ HO650.out))) (Kd.R_lt (zr_ HO662.out))) (Kd.R_lt (zr_ HO671.out))) (below_size (zg6_ HB.out GE609.out GE618.out GE628.out GE635.out GE644.out GE652.out)))
           replace HO606 := zE_ HO606.out ho1 hb
           replace HO615 := zE_ HO615.out ho1 hb
           replace HO624 := zE_ HO624.out ho1 hb
           replace HO634 := zE_ HO634.out ho1 hb
           replace HO641 := zE_ HO641.out ho1 hb
           replace HO650 := zE_ HO650.out ho1 hb
           replace HO662 := zE_ HO662.out ho1 hb
           replace HO671 := zE_ HO671.out ho1 hb
           replace BK609 := zB_ BK609.out hb
           replace BK618 := zB_ BK618.out hb
           replace BK628 := zB_ BK628.out hb
           replace BK635 := zB_ BK635.out hb
           replace BK644 := zB_ BK644.out hb
           replace BK652 := zB_ BK652.out hb
           replace HB := zA_ (below_step (zg6_ HB.out GE609.out GE618.out GE628.out GE635.out GE644.out GE652.out) hb)
           (try clear hb)
           (try clear hb2)
           (try clear hk)
           (try clear hi)
           (try clear ho0)
           (try clear ho1)
           obtain ⟨Ao97, co97, eo97⟩ := Kd.R_slice HO675.out
           (first | subst eo97 | (injection eo97 with f1_ f2_ f3_; have f4_ := f1_.symm; have f5_ := f3_.symm; clear f1_ f2_ f3_; subst f4_; subst f5_))
           obtain ⟨Ao98, co98, eo98⟩ := Kd.R_slice HO678.out
           (first | subst eo98 | (injection eo98 with f1_ f2_ f3_; have f4_ := f1_.symm; have f5_ := f3_.symm; clear f1_ f2_ f3_; subst f4_; subst f5_))
           refine hK.out _ _ ⟨cy_ BK618.out 0, cy_ BK618.out 1, cy_ BK618.out 2, cy_ BK618.out 3, cy_ BK609.out 0, cy_ BK609.out 1, cy_ BK635.out 0, cy_ BK635.out 1, cy_ BK628.out 0, cy_ BK628.out 1, cy_ BK644.out 0, cy_ BK644.out 1, cy_ BK644.out 2, cy_ BK644.out 3, cy_ BK652.out 0, cy_ BK652.out 1⟩ (fun hHeld => ?_)
           clear hK K
           refine norm_ (a' := ?_) ?_ ?_
           rotate_left
           ·
            show Act.put _ (some 84) _ = _
            simp only [Act.put, List.setIfInBounds_toArray, List.set_cons_zero, List.set_cons_succ, i64_w, i32_w]
            rfl
           refine one_ (i := 19) (N := some 85) (mr_ [20, 38]) rfl rfl (one_of HT_.out βPb) (by decide) (fun K hK => ?_)
           refine goes_ Try.func13 βPb rfl #[.agg #[.slice Ao68 t636.length co68, .slice Ao74 t639.length co74, .string t642, .int .i64 t643], .agg #[.slice Ao97 t673.length co97, .slice Ao98 t676.length co98, .string t679, .int .i64 t680]] (by rfl) rfl rfl zs_ ?_
           with_reducible refine (laws_lwFlashes.calls kj2 _ _ t636 _ _ t639 t642 t643 _ _ t673 _ _ t676 t679 t680 true _ ?side1 ?side2 ?side3 ?side4 ?side5 ?side6 ?side7 ?side8 A21.out).mono ?_
           (case side1 => exact zc_ (Kd.R_reads' HO638.out).2.2)
           (case side2 => exact (Kd.R_reads' HO638.out).2.1)
           (case side3 => exact zc_ (Kd.R_reads' HO641.out).2.2)
           (case side4 => exact (Kd.R_reads' HO641.out).2.1)
           (case side5 => exact zc_ (Kd.R_reads' HO675.out).2.2)
           (case side6 => exact (Kd.R_reads' HO675.out).2.1)
           (case side7 => exact zc_ (Kd.R_reads' HO678.out).2.2)
           (case side8 => exact (Kd.R_reads' HO678.out).2.1)
           rintro e w99 ⟨rfl, hb⟩
           refine ⟨_, rfl, ?_⟩
           replace HO603 := zR_ HO603.out hb
           replace HO606 := zR_ HO606.out hb
           replace HO612 := zR_ HO612.out hb
           replace HO615 := zR_ HO615.out hb
           replace HO621 := zR_ HO621.out hb
           replace HO624 := zR_ HO624.out hb
           replace HO627 := zR_ HO627.out hb
           replace HO631 := zR_ HO631.out hb
           replace HO634 := zR_ HO634.out hb
           replace HO638 := zR_ HO638.out hb
           replace HO641 := zR_ HO641.out hb
           replace HO647 := zR_ HO647.out hb
           replace HO650 := zR_ HO650.out hb
           replace HO659 := zR_ HO659.out hb
           replace HO662 := zR_ HO662.out hb
           replace HO668 := zR_ HO668.out hb
           replace HO671 := zR_ HO671.out hb
           replace HO675 := zR_ HO675.out hb
           replace HO678 := zR_ HO678.out hb
           replace BK609 := zB_ BK609.out hb
           replace BK618 := zB_ BK618.out hb
           replace BK628 := zB_ BK628.out hb
           replace BK635 := zB_ BK635.out hb
           replace BK644 := zB_ BK644.out hb
           replace BK652 := zB_ BK652.out hb
           replace HB := zA_ (below_step (zg6_ HB.out GE609.out GE618.out GE628.out GE635.out GE644.out GE652.out) hb)
           (try clear hb)
           (try clear hb2)
           (try clear hk)
           (try clear hi)
           refine hK.out _ _ ⟨cy_ BK618.out 0, cy_ BK618.out 1, cy_ BK618.out 2, cy_ BK618.out 3, cy_ BK609.out 0, cy_ BK609.out 1, cy_ BK635.out 0, cy_ BK635.out 1, cy_ BK628.out 0, cy_ BK628.out 1, cy_ BK644.out 0, cy_ BK644.out 1, cy_ BK644.out 2, cy_ BK644.out 3, cy_ BK652.out 0, cy_ BK652.out 1⟩ (fun hHeld => ?_)
           clear hK K
           refine norm_ (a' := ?_) ?_ ?_
           rotate_left
           ·
            show Act.put _ (some 85) _ = _
            simp only [Act.put, List.setIfInBounds_toArray, List.set_cons_zero, List.set_cons_succ, i64_w, i32_w]
            rfl
           refine pure_ (i := 20) (N := some 86) (v := ?_) (a' := ?_) (mr_ [21, 37]) rfl rfl (any_of HT_.out βPb) (fun _ _ _ h => h) (Or.inl ⟨(by rfl), ?_⟩) ?_ ?_
           rotate_left; exact pv_; rotate_left; exact pp_
           refine pure_ (i := 21) (N := some 87) (v := ?_) (a' := ?_) (mr_ [22, 36]) rfl rfl (any_of HT_.out βPb) (fun _ _ _ h => h) (Or.inl ⟨(by rfl), ?_⟩) ?_ ?_
           rotate_left; exact pv_; rotate_left; exact pp_
           refine pure_ (i := 22) (N := some 88) (v := ?_) (a' := ?_) (mr_ [23, 35]) rfl rfl (any_of HT_.out βPb) (fun _ _ _ h => h) (Or.inl ⟨(by rfl), ?_⟩) ?_ ?_
           rotate_left; exact pv_; rotate_left; exact pp_
           refine pure_ (i := 24) (N := some 90) (v := ?_) (a' := ?_) (mr_ [23, 1, 1, 33]) rfl rfl (any_of HT_.out βPb) (fun _ _ _ h => h) (Or.inl ⟨(by rfl), ?_⟩) ?_ ?_
           rotate_left; exact pv_; rotate_left; exact pp_
           refine pure_ (i := 27) (N := some 93) (v := ?_) (a' := ?_) (mr_ [23, 1, 1, 2, 1, 30]) rfl rfl (any_of HT_.out βPb) (fun _ _ _ h => h) (Or.inl ⟨(by rfl), ?_⟩) ?_ ?_
           rotate_left; exact pv_; rotate_left; exact pp_
           refine take_ (i := 23) (N := some 89) (v := ?_) (a' := ?_) (mr_ [25, 2, 1, 30]) rfl rfl (take_ofW HT_.out HW_.out βPb) (fun _ _ _ h => h) (Or.inl ⟨(by rfl), ?_⟩) hHeld ?_ ?_
           rotate_left
           ·
            rintro w' ⟨s0, s1, s2, s3, s4, s5, s6, s7, s8, s9, s10, s11, s12, s13, s14, s15⟩
            go_simp
            with_reducible rfl
           rotate_left
           exact pp_
           refine take_ (i := 26) (N := some 92) (v := ?_) (a' := ?_) (mr_ [25, 1, 2, 30]) rfl rfl (take_ofW HT_.out HW_.out βPb) (fun _ _ _ h => h) (Or.inl ⟨(by rfl), ?_⟩) hHeld ?_ ?_
           rotate_left
           ·
            rintro w' ⟨s0, s1, s2, s3, s4, s5, s6, s7, s8, s9, s10, s11, s12, s13, s14, s15⟩
            go_simp
            with_reducible rfl
           rotate_left
           exact pp_
           refine one_ (i := 25) (N := some 91) (mr_ [28, 30]) rfl rfl (one_of HT_.out βPb) (by decide) (fun K hK => ?_)
           refine goes_ Try.func18 βPb rfl #[.agg #[.slice Ao77 t645.length co77, .slice Ao84 t648.length co84], .int .i64 t651] (by rfl) rfl rfl zs_ ?_
           with_reducible refine (impl_FlashRead.calls _ _ t645 _ _ t648 t651 t682 t685 t688 t689 _ ?side1 ?side2 ?side3 ?side4 A23.out).mono ?_
           (case side1 => exact zc_ (Kd.R_reads' HO647.out).2.2)
           (case side2 => exact (Kd.R_reads' HO647.out).2.1)
           (case side3 => exact zc_ (Kd.R_reads' HO650.out).2.2)
           (case side4 => exact (Kd.R_reads' HO650.out).2.1)
           rintro e w100 ⟨v683, v686, rfl, ho0, ho1, hb⟩
           refine ⟨_, rfl, ?_⟩
           replace HO627 := zR_ HO627.out hb
           have HO684 := zA_ (Kd.R_lower (Kd.R_new' (Kd.R_new' (Kd.R_new' (Kd.R_new' (Kd.R_new' (Kd.R_new' (Kd.R_new' (Kd.R_new' (Kd.R_new' ho0 (Kd.R_lt (zr_ HO603.out))) (Kd.R_lt (zr_ HO612.out))) (Kd.R_lt (zr_ HO621.out))) (Kd.R_lt (zr_ HO631.out))) (Kd.R_lt (zr_ HO638.out))) (Kd.R_lt (zr_ HO647.out))) (Kd.R_lt (zr_ HO659.out))) (Kd.R_lt (zr_ HO668.out))) (Kd.R_lt (zr_ HO675.out))) (below_size (zg6_ HB.out GE609.out GE618.out GE628.out GE635.out GE644.out GE652.out)))
           replace HO603 := zE_ HO603.out ho0 hb
           replace HO612 := zE_ HO612.out ho0 hb
           replace HO621 := zE_ HO621.out ho0 hb
           replace HO631 := zE_ HO631.out ho0 hb
           replace HO638 := zE_ HO638.out ho0 hb
           replace HO647 := zE_ HO647.out ho0 hb
           replace HO659 := zE_ HO659.out ho0 hb
           replace HO668 := zE_ HO668.out ho0 hb
           replace HO675 := zE_ HO675.out ho0 hb
           have HO687 := zA_ (Kd.R_lower (Kd.R_new' (Kd.R_new' (Kd.R_new' (Kd.R_new' (Kd.R_new' (Kd.R_new' (Kd.R_new' (Kd.R_new' (Kd.R_new' ho1 (Kd.R_lt (zr_ HO606.out))) (Kd.R_lt (zr_ HO615.out))) (Kd.R_lt (zr_ HO624.out))) (Kd.R_lt (zr_ HO634.out))) (Kd.R_lt (zr_ HO641.out))) (Kd.R_lt (zr_ HO650.out))) (Kd.R_lt (zr_ HO662.out))) (Kd.R_lt (zr_ HO671.out))) (Kd.R_lt (zr_ HO678.out))) (below_size (zg6_ HB.out GE609.out GE618.out GE628.out GE635.out GE644.out GE652.out)))
           replace HO606 := zE_ HO606.out ho1 hb
           replace HO615 := zE_ HO615.out ho1 hb
           replace HO624 := zE_ HO624.out ho1 hb
           replace HO634 := zE_ HO634.out ho1 hb
           replace HO641 := zE_ HO641.out ho1 hb
           replace HO650 := zE_ HO650.out ho1 hb
           replace HO662 := zE_ HO662.out ho1 hb
           replace HO671 := zE_ HO671.out ho1 hb
           replace HO678 := zE_ HO678.out ho1 hb
           replace BK609 := zB_ BK609.out hb
           replace BK618 := zB_ BK618.out hb
           replace BK628 := zB_ BK628.out hb
           replace BK635 := zB_ BK635.out hb
           replace BK644 := zB_ BK644.out hb
           replace BK652 := zB_ BK652.out hb
           replace HB := zA_ (below_step (zg6_ HB.out GE609.out GE618.out GE628.out GE635.out GE644.out GE652.out) hb)
           (try clear hb)
           (try clear hb2)
           (try clear hk)
           (try clear hi)
           (try clear ho0)
           (try clear ho1)
           refine hK.out _ _ ⟨cy_ BK618.out 0, cy_ BK618.out 1, cy_ BK618.out 2, cy_ BK618.out 3, cy_ BK609.out 0, cy_ BK609.out 1, cy_ BK635.out 0, cy_ BK635.out 1, cy_ BK628.out 0, cy_ BK628.out 1, cy_ BK644.out 0, cy_ BK644.out 1, cy_ BK644.out 2, cy_ BK644.out 3, cy_ BK652.out 0, cy_ BK652.out 1⟩ (fun hHeld => ?_)
           clear hK K
           refine norm_ (a' := ?_) ?_ ?_
           rotate_left
           ·
            show Act.put _ (some 91) _ = _
            simp only [Act.put, List.setIfInBounds_toArray, List.set_cons_zero, List.set_cons_succ, i64_w, i32_w]
            rfl
           refine one_ (i := 28) (N := some 94) (mr_ [29, 29]) rfl rfl (one_of HT_.out βPb) (by decide) (fun K hK => ?_)
           refine goes_ Try.func19 βPb rfl #[.agg #[.slice Ao77 t645.length co77, .slice Ao84 t648.length co84], .int .i64 t651] (by rfl) rfl rfl zs_ ?_
           with_reducible refine (spec_FlashRead.calls kj2 _ _ t645 _ _ t648 t651 t690 t693 t696 t697 _ ?side1 ?side2 ?side3 ?side4 A24.out).mono ?_
           (case side1 => exact zc_ (Kd.R_reads' HO647.out).2.2)
           (case side2 => exact (Kd.R_reads' HO647.out).2.1)
           (case side3 => exact zc_ (Kd.R_reads' HO650.out).2.2)
           (case side4 => exact (Kd.R_reads' HO650.out).2.1)
           rintro e w101 ⟨v691, v694, rfl, ho0, ho1, hb⟩
           refine ⟨_, rfl, ?_⟩
           replace HO627 := zR_ HO627.out hb
           have HO692 := zA_ (Kd.R_lower (Kd.R_new' (Kd.R_new' (Kd.R_new' (Kd.R_new' (Kd.R_new' (Kd.R_new' (Kd.R_new' (Kd.R_new' (Kd.R_new' (Kd.R_new' ho0 (Kd.R_lt (zr_ HO603.out))) (Kd.R_lt (zr_ HO612.out))) (Kd.R_lt (zr_ HO621.out))) (Kd.R_lt (zr_ HO631.out))) (Kd.R_lt (zr_ HO638.out))) (Kd.R_lt (zr_ HO647.out))) (Kd.R_lt (zr_ HO659.out))) (Kd.R_lt (zr_ HO668.out))) (Kd.R_lt (zr_ HO675.out))) (Kd.R_lt (zr_ HO684.out))) (below_size (zg6_ HB.out GE609.out GE618.out GE628.out GE635.out GE644.out GE652.out)))
           replace HO603 := zE_ HO603.out ho0 hb
           replace HO612 := zE_ HO612.out ho0 hb
           replace HO621 := zE_ HO621.out ho0 hb
           replace HO631 := zE_ HO631.out ho0 hb
           replace HO638 := zE_ HO638.out ho0 hb
           replace HO647 := zE_ HO647.out ho0 hb
           replace HO659 := zE_ HO659.out ho0 hb
           replace HO668 := zE_ HO668.out ho0 hb
           replace HO675 := zE_ HO675.out ho0 hb
           replace HO684 := zE_ HO684.out ho0 hb
           have HO695 := zA_ (Kd.R_lower (Kd.R_new' (Kd.R_new' (Kd.R_new' (Kd.R_new' (Kd.R_new' (Kd.R_new' (Kd.R_new' (Kd.R_new' (Kd.R_new' (Kd.R_new' ho1 (Kd.R_lt (zr_ HO606.out))) (Kd.R_lt (zr_ HO615.out))) (Kd.R_lt (zr_ HO624.out))) (Kd.R_lt (zr_ HO634.out))) (Kd.R_lt (zr_ HO641.out))) (Kd.R_lt (zr_ HO650.out))) (Kd.R_lt (zr_ HO662.out))) (Kd.R_lt (zr_ HO671.out))) (Kd.R_lt (zr_ HO678.out))) (Kd.R_lt (zr_ HO687.out))) (below_size (zg6_ HB.out GE609.out GE618.out GE628.out GE635.out GE644.out GE652.out)))
           replace HO606 := zE_ HO606.out ho1 hb
           replace HO615 := zE_ HO615.out ho1 hb
           replace HO624 := zE_ HO624.out ho1 hb
           replace HO634 := zE_ HO634.out ho1 hb
           replace HO641 := zE_ HO641.out ho1 hb
           replace HO650 := zE_ HO650.out ho1 hb
           replace HO662 := zE_ HO662.out ho1 hb
           replace HO671 := zE_ HO671.out ho1 hb
           replace HO678 := zE_ HO678.out ho1 hb
           replace HO687 := zE_ HO687.out ho1 hb
           replace BK609 := zB_ BK609.out hb
           replace BK618 := zB_ BK618.out hb
           replace BK628 := zB_ BK628.out hb
           replace BK635 := zB_ BK635.out hb
           replace BK644 := zB_ BK644.out hb
           replace BK652 := zB_ BK652.out hb
           replace HB := zA_ (below_step (zg6_ HB.out GE609.out GE618.out GE628.out GE635.out GE644.out GE652.out) hb)
           (try clear hb)
           (try clear hb2)
           (try clear hk)
           (try clear hi)
           (try clear ho0)
           (try clear ho1)
           obtain ⟨Ao102, co102, eo102⟩ := Kd.R_slice HO684.out
           (first | subst eo102 | (injection eo102 with f1_ f2_ f3_; have f4_ := f1_.symm; have f5_ := f3_.symm; clear f1_ f2_ f3_; subst f4_; subst f5_))
           obtain ⟨Ao103, co103, eo103⟩ := Kd.R_slice HO687.out
           (first | subst eo103 | (injection eo103 with f1_ f2_ f3_; have f4_ := f1_.symm; have f5_ := f3_.symm; clear f1_ f2_ f3_; subst f4_; subst f5_))
           obtain ⟨Ao104, co104, eo104⟩ := Kd.R_slice HO692.out
           (first | subst eo104 | (injection eo104 with f1_ f2_ f3_; have f4_ := f1_.symm; have f5_ := f3_.symm; clear f1_ f2_ f3_; subst f4_; subst f5_))
           obtain ⟨Ao105, co105, eo105⟩ := Kd.R_slice HO695.out
           (first | subst eo105 | (injection eo105 with f1_ f2_ f3_; have f4_ := f1_.symm; have f5_ := f3_.symm; clear f1_ f2_ f3_; subst f4_; subst f5_))
           refine hK.out _ _ ⟨cy_ BK618.out 0, cy_ BK618.out 1, cy_ BK618.out 2, cy_ BK618.out 3, cy_ BK609.out 0, cy_ BK609.out 1, cy_ BK635.out 0, cy_ BK635.out 1, cy_ BK628.out 0, cy_ BK628.out 1, cy_ BK644.out 0, cy_ BK644.out 1, cy_ BK644.out 2, cy_ BK644.out 3, cy_ BK652.out 0, cy_ BK652.out 1⟩ (fun hHeld => ?_)
           clear hK K
           refine norm_ (a' := ?_) ?_ ?_
           rotate_left
           ·
            show Act.put _ (some 94) _ = _
            simp only [Act.put, List.setIfInBounds_toArray, List.set_cons_zero, List.set_cons_succ, i64_w, i32_w]
            rfl
           refine one_ (i := 29) (N := some 95) (mr_ [30, 28]) rfl rfl (one_of HT_.out βPb) (by decide) (fun K hK => ?_)
           refine goes_ Try.func13 βPb rfl #[.agg #[.slice Ao102 t682.length co102, .slice Ao103 t685.length co103, .string t688, .int .i64 t689], .agg #[.slice Ao104 t690.length co104, .slice Ao105 t693.length co105, .string t696, .int .i64 t697]] (by rfl) rfl rfl zs_ ?_
           with_reducible refine (laws_lwFlashes.calls kj2 _ _ t682 _ _ t685 t688 t689 _ _ t690 _ _ t693 t696 t697 true _ ?side1 ?side2 ?side3 ?side4 ?side5 ?side6 ?side7 ?side8 A25.out).mono ?_
           (case side1 => exact zc_ (Kd.R_reads' HO684.out).2.2)
           (case side2 => exact (Kd.R_reads' HO684.out).2.1)
           (case side3 => exact zc_ (Kd.R_reads' HO687.out).2.2)
           (case side4 => exact (Kd.R_reads' HO687.out).2.1)
           (case side5 => exact zc_ (Kd.R_reads' HO692.out).2.2)
           (case side6 => exact (Kd.R_reads' HO692.out).2.1)
           (case side7 => exact zc_ (Kd.R_reads' HO695.out).2.2)
           (case side8 => exact (Kd.R_reads' HO695.out).2.1)
           rintro e w106 ⟨rfl, hb⟩
           refine ⟨_, rfl, ?_⟩
           replace HO603 := zR_ HO603.out hb
           replace HO606 := zR_ HO606.out hb
           replace HO612 := zR_ HO612.out hb
           replace HO615 := zR_ HO615.out hb
           replace HO621 := zR_ HO621.out hb
           replace HO624 := zR_ HO624.out hb
           replace HO627 := zR_ HO627.out hb
           replace HO631 := zR_ HO631.out hb
           replace HO634 := zR_ HO634.out hb
           replace HO638 := zR_ HO638.out hb
           replace HO641 := zR_ HO641.out hb
           replace HO647 := zR_ HO647.out hb
           replace HO650 := zR_ HO650.out hb
           replace HO659 := zR_ HO659.out hb
           replace HO662 := zR_ HO662.out hb
           replace HO668 := zR_ HO668.out hb
           replace HO671 := zR_ HO671.out hb
           replace HO675 := zR_ HO675.out hb
           replace HO678 := zR_ HO678.out hb
           replace HO684 := zR_ HO684.out hb
           replace HO687 := zR_ HO687.out hb
           replace HO692 := zR_ HO692.out hb
           replace HO695 := zR_ HO695.out hb
           replace BK609 := zB_ BK609.out hb
           replace BK618 := zB_ BK618.out hb
           replace BK628 := zB_ BK628.out hb
           replace BK635 := zB_ BK635.out hb
           replace BK644 := zB_ BK644.out hb
           replace BK652 := zB_ BK652.out hb
           replace HB := zA_ (below_step (zg6_ HB.out GE609.out GE618.out GE628.out GE635.out GE644.out GE652.out) hb)
           (try clear hb)
           (try clear hb2)
           (try clear hk)
           (try clear hi)
           refine hK.out _ _ ⟨cy_ BK618.out 0, cy_ BK618.out 1, cy_ BK618.out 2, cy_ BK618.out 3, cy_ BK609.out 0, cy_ BK609.out 1, cy_ BK635.out 0, cy_ BK635.out 1, cy_ BK628.out 0, cy_ BK628.out 1, cy_ BK644.out 0, cy_ BK644.out 1, cy_ BK644.out 2, cy_ BK644.out 3, cy_ BK652.out 0, cy_ BK652.out 1⟩ (fun hHeld => ?_)
           clear hK K
           refine norm_ (a' := ?_) ?_ ?_
           rotate_left
           ·
            show Act.put _ (some 95) _ = _
            simp only [Act.put, List.setIfInBounds_toArray, List.set_cons_zero, List.set_cons_succ, i64_w, i32_w]
            rfl
           refine pure_ (i := 30) (N := some 96) (v := ?_) (a' := ?_) (mr_ [31, 27]) rfl rfl (any_of HT_.out βPb) (fun _ _ _ h => h) (Or.inl ⟨(by rfl), ?_⟩) ?_ ?_
           rotate_left; exact pv_; rotate_left; exact pp_
           refine pure_ (i := 31) (N := some 97) (v := ?_) (a' := ?_) (mr_ [32, 26]) rfl rfl (any_of HT_.out βPb) (fun _ _ _ h => h) (Or.inl ⟨(by rfl), ?_⟩) ?_ ?_
           rotate_left; exact pv_; rotate_left; exact pp_
           refine pure_ (i := 32) (N := some 98) (v := ?_) (a' := ?_) (mr_ [33, 25]) rfl rfl (any_of HT_.out βPb) (fun _ _ _ h => h) (Or.inl ⟨(by rfl), ?_⟩) ?_ ?_
           rotate_left; exact pv_; rotate_left; exact pp_
           refine pure_ (i := 33) (N := some 99) (v := ?_) (a' := ?_) (mr_ [34, 24]) rfl rfl (any_of HT_.out βPb) (fun _ _ _ h => h) (Or.inl ⟨(by rfl), ?_⟩) ?_ ?_
           rotate_left; exact pv_; rotate_left; exact pp_
           refine pure_ (i := 35) (N := some 101) (v := ?_) (a' := ?_) (mr_ [34, 1, 1, 22]) rfl rfl (any_of HT_.out βPb) (fun _ _ _ h => h) (Or.inl ⟨(by rfl), ?_⟩) ?_ ?_
           rotate_left; exact pv_; rotate_left; exact pp_
           refine one_ (i := 34) (N := some 100) (mr_ [36, 22]) rfl rfl (one_of HT_.out βPb) (by decide) (fun K hK => ?_)
           refine goes_ Try.func20 βPb rfl #[.int .i64 t653] (by rfl) rfl rfl zs_ ?_
           with_reducible refine (impl_FlashNew.calls t653 t699 t702 _ A27.out).mono ?_
           rintro e w107 ⟨v700, v703, rfl, ho0, ho1, hb⟩
           refine ⟨_, rfl, ?_⟩
           replace HO627 := zR_ HO627.out hb
           have HO701 := zA_ (Kd.R_lower (Kd.R_new' (Kd.R_new' (Kd.R_new' (Kd.R_new' (Kd.R_new' (Kd.R_new' (Kd.R_new' (Kd.R_new' (Kd.R_new' (Kd.R_new' (Kd.R_new' ho0 (Kd.R_lt (zr_ HO603.out))) (Kd.R_lt (zr_ HO612.out))) (Kd.R_lt (zr_ HO621.out))) (Kd.R_lt (zr_ HO631.out))) (Kd.R_lt (zr_ HO638.out))) (Kd.R_lt (zr_ HO647.out))) (Kd.R_lt (zr_ HO659.out))) (Kd.R_lt (zr_ HO668.out))) (Kd.R_lt (zr_ HO675.out))) (Kd.R_lt (zr_ HO684.out))) (Kd.R_lt (zr_ HO692.out))) (below_size (zg6_ HB.out GE609.out GE618.out GE628.out GE635.out GE644.out GE652.out)))
           replace HO603 := zE_ HO603.out ho0 hb
           replace HO612 := zE_ HO612.out ho0 hb
           replace HO621 := zE_ HO621.out ho0 hb
           replace HO631 := zE_ HO631.out ho0 hb
           replace HO638 := zE_ HO638.out ho0 hb
           replace HO647 := zE_ HO647.out ho0 hb
           replace HO659 := zE_ HO659.out ho0 hb
           replace HO668 := zE_ HO668.out ho0 hb
           replace HO675 := zE_ HO675.out ho0 hb
           replace HO684 := zE_ HO684.out ho0 hb
           replace HO692 := zE_ HO692.out ho0 hb
           have HO704 := zA_ (Kd.R_lower (Kd.R_new' (Kd.R_new' (Kd.R_new' (Kd.R_new' (Kd.R_new' (Kd.R_new' (Kd.R_new' (Kd.R_new' (Kd.R_new' (Kd.R_new' (Kd.R_new' ho1 (Kd.R_lt (zr_ HO606.out))) (Kd.R_lt (zr_ HO615.out))) (Kd.R_lt (zr_ HO624.out))) (Kd.R_lt (zr_ HO634.out))) (Kd.R_lt (zr_ HO641.out))) (Kd.R_lt (zr_ HO650.out))) (Kd.R_lt (zr_ HO662.out))) (Kd.R_lt (zr_ HO671.out))) (Kd.R_lt (zr_ HO678.out))) (Kd.R_lt (zr_ HO687.out))) (Kd.R_lt (zr_ HO695.out))) (below_size (zg6_ HB.out GE609.out GE618.out GE628.out GE635.out GE644.out GE652.out)))
           replace HO606 := zE_ HO606.out ho1 hb
           replace HO615 := zE_ HO615.out ho1 hb
           replace HO624 := zE_ HO624.out ho1 hb
           replace HO634 := zE_ HO634.out ho1 hb
           replace HO641 := zE_ HO641.out ho1 hb
           replace HO650 := zE_ HO650.out ho1 hb
           replace HO662 := zE_ HO662.out ho1 hb
           replace HO671 := zE_ HO671.out ho1 hb
           replace HO678 := zE_ HO678.out ho1 hb
           replace HO687 := zE_ HO687.out ho1 hb
           replace HO695 := zE_ HO695.out ho1 hb
           replace BK609 := zB_ BK609.out hb
           replace BK618 := zB_ BK618.out hb
           replace BK628 := zB_ BK628.out hb
           replace BK635 := zB_ BK635.out hb
           replace BK644 := zB_ BK644.out hb
           replace BK652 := zB_ BK652.out hb
           replace HB := zA_ (below_step (zg6_ HB.out GE609.out GE618.out GE628.out GE635.out GE644.out GE652.out) hb)
           (try clear hb)
           (try clear hb2)
           (try clear hk)
           (try clear hi)
           (try clear ho0)
           (try clear ho1)
           refine hK.out _ _ ⟨cy_ BK618.out 0, cy_ BK618.out 1, cy_ BK618.out 2, cy_ BK618.out 3, cy_ BK609.out 0, cy_ BK609.out 1, cy_ BK635.out 0, cy_ BK635.out 1, cy_ BK628.out 0, cy_ BK628.out 1, cy_ BK644.out 0, cy_ BK644.out 1, cy_ BK644.out 2, cy_ BK644.out 3, cy_ BK652.out 0, cy_ BK652.out 1⟩ (fun hHeld => ?_)
           clear hK K
           refine norm_ (a' := ?_) ?_ ?_
           rotate_left
           ·
            show Act.put _ (some 100) _ = _
            simp only [Act.put, List.setIfInBounds_toArray, List.set_cons_zero, List.set_cons_succ, i64_w, i32_w]
            rfl
           refine one_ (i := 36) (N := some 102) (mr_ [37, 21]) rfl rfl (one_of HT_.out βPb) (by decide) (fun K hK => ?_)
           refine goes_ Try.func21 βPb rfl #[.int .i64 t653] (by rfl) rfl rfl zs_ ?_
           with_reducible refine (spec_FlashNew.calls t653 t705 t708 _ A28.out).mono ?_
           rintro e w108 ⟨v706, v709, rfl, ho0, ho1, hb⟩
           refine ⟨_, rfl, ?_⟩
           replace HO627 := zR_ HO627.out hb
           have HO707 := zA_ (Kd.R_lower (Kd.R_new' (Kd.R_new' (Kd.R_new' (Kd.R_new' (Kd.R_new' (Kd.R_new' (Kd.R_new' (Kd.R_new' (Kd.R_new' (Kd.R_new' (Kd.R_new' (Kd.R_new' ho0 (Kd.R_lt (zr_ HO603.out))) (Kd.R_lt (zr_ HO612.out))) (Kd.R_lt (zr_ HO621.out))) (Kd.R_lt (zr_ HO631.out))) (Kd.R_lt (zr_ HO638.out))) (Kd.R_lt (zr_ HO647.out))) (Kd.R_lt (zr_ HO659.out))) (Kd.R_lt (zr_ HO668.out))) (Kd.R_lt (zr_ HO675.out))) (Kd.R_lt (zr_ HO684.out))) (Kd.R_lt (zr_ HO692.out))) (Kd.R_lt (zr_ HO701.out))) (below_size (zg6_ HB.out GE609.out GE618.out GE628.out GE635.out GE644.out GE652.out)))
           replace HO603 := zE_ HO603.out ho0 hb
           replace HO612 := zE_ HO612.out ho0 hb
           replace HO621 := zE_ HO621.out ho0 hb
           replace HO631 := zE_ HO631.out ho0 hb
           replace HO638 := zE_ HO638.out ho0 hb
           replace HO647 := zE_ HO647.out ho0 hb
           replace HO659 := zE_ HO659.out ho0 hb
           replace HO668 := zE_ HO668.out ho0 hb
           replace HO675 := zE_ HO675.out ho0 hb
           replace HO684 := zE_ HO684.out ho0 hb
           replace HO692 := zE_ HO692.out ho0 hb
           replace HO701 := zE_ HO701.out ho0 hb
           have HO710 := zA_ (Kd.R_lower (Kd.R_new' (Kd.R_new' (Kd.R_new' (Kd.R_new' (Kd.R_new' (Kd.R_new' (Kd.R_new' (Kd.R_new' (Kd.R_new' (Kd.R_new' (Kd.R_new' (Kd.R_new' ho1 (Kd.R_lt (zr_ HO606.out))) (Kd.R_lt (zr_ HO615.out))) (Kd.R_lt (zr_ HO624.out))) (Kd.R_lt (zr_ HO634.out))) (Kd.R_lt (zr_ HO641.out))) (Kd.R_lt (zr_ HO650.out))) (Kd.R_lt (zr_ HO662.out))) (Kd.R_lt (zr_ HO671.out))) (Kd.R_lt (zr_ HO678.out))) (Kd.R_lt (zr_ HO687.out))) (Kd.R_lt (zr_ HO695.out))) (Kd.R_lt (zr_ HO704.out))) (below_size (zg6_ HB.out GE609.out GE618.out GE628.out GE635.out GE644.out GE652.out)))
           replace HO606 := zE_ HO606.out ho1 hb
           replace HO615 := zE_ HO615.out ho1 hb
           replace HO624 := zE_ HO624.out ho1 hb
           replace HO634 := zE_ HO634.out ho1 hb
           replace HO641 := zE_ HO641.out ho1 hb
           replace HO650 := zE_ HO650.out ho1 hb
           replace HO662 := zE_ HO662.out ho1 hb
           replace HO671 := zE_ HO671.out ho1 hb
           replace HO678 := zE_ HO678.out ho1 hb
           replace HO687 := zE_ HO687.out ho1 hb
           replace HO695 := zE_ HO695.out ho1 hb
           replace HO704 := zE_ HO704.out ho1 hb
           replace BK609 := zB_ BK609.out hb
           replace BK618 := zB_ BK618.out hb
           replace BK628 := zB_ BK628.out hb
           replace BK635 := zB_ BK635.out hb
           replace BK644 := zB_ BK644.out hb
           replace BK652 := zB_ BK652.out hb
           replace HB := zA_ (below_step (zg6_ HB.out GE609.out GE618.out GE628.out GE635.out GE644.out GE652.out) hb)
           (try clear hb)
           (try clear hb2)
           (try clear hk)
           (try clear hi)
           (try clear ho0)
           (try clear ho1)
           obtain ⟨Ao109, co109, eo109⟩ := Kd.R_slice HO701.out
           (first | subst eo109 | (injection eo109 with f1_ f2_ f3_; have f4_ := f1_.symm; have f5_ := f3_.symm; clear f1_ f2_ f3_; subst f4_; subst f5_))
           obtain ⟨Ao110, co110, eo110⟩ := Kd.R_slice HO704.out
           (first | subst eo110 | (injection eo110 with f1_ f2_ f3_; have f4_ := f1_.symm; have f5_ := f3_.symm; clear f1_ f2_ f3_; subst f4_; subst f5_))
           obtain ⟨Ao111, co111, eo111⟩ := Kd.R_slice HO707.out
           (first | subst eo111 | (injection eo111 with f1_ f2_ f3_; have f4_ := f1_.symm; have f5_ := f3_.symm; clear f1_ f2_ f3_; subst f4_; subst f5_))
           obtain ⟨Ao112, co112, eo112⟩ := Kd.R_slice HO710.out
           (first | subst eo112 | (injection eo112 with f1_ f2_ f3_; have f4_ := f1_.symm; have f5_ := f3_.symm; clear f1_ f2_ f3_; subst f4_; subst f5_))
           refine hK.out _ _ ⟨cy_ BK618.out 0, cy_ BK618.out 1, cy_ BK618.out 2, cy_ BK618.out 3, cy_ BK609.out 0, cy_ BK609.out 1, cy_ BK635.out 0, cy_ BK635.out 1, cy_ BK628.out 0, cy_ BK628.out 1, cy_ BK644.out 0, cy_ BK644.out 1, cy_ BK644.out 2, cy_ BK644.out 3, cy_ BK652.out 0, cy_ BK652.out 1⟩ (fun hHeld => ?_)
           clear hK K
           refine norm_ (a' := ?_) ?_ ?_
           rotate_left
           ·
            show Act.put _ (some 102) _ = _
            simp only [Act.put, List.setIfInBounds_toArray, List.set_cons_zero, List.set_cons_succ, i64_w, i32_w]
            rfl
           refine one_ (i := 37) (N := some 103) (mr_ [38, 20]) rfl rfl (one_of HT_.out βPb) (by decide) (fun K hK => ?_)
           refine goes_ Try.func15 βPb rfl #[.agg #[.slice Ao109 t699.length co109, .slice Ao110 t702.length co110], .agg #[.slice Ao111 t705.length co111, .slice Ao112 t708.length co112]] (by rfl) rfl rfl zs_ ?_
           with_reducible refine (laws_lwFlash.calls kj2 _ _ t699 _ _ t702 _ _ t705 _ _ t708 true _ ?side1 ?side2 ?side3 ?side4 ?side5 ?side6 ?side7 ?side8 A29.out).mono ?_
           (case side1 => exact zc_ (Kd.R_reads' HO701.out).2.2)
           (case side2 => exact (Kd.R_reads' HO701.out).2.1)
           (case side3 => exact zc_ (Kd.R_reads' HO704.out).2.2)
           (case side4 => exact (Kd.R_reads' HO704.out).2.1)
           (case side5 => exact zc_ (Kd.R_reads' HO707.out).2.2)
           (case side6 => exact (Kd.R_reads' HO707.out).2.1)
           (case side7 => exact zc_ (Kd.R_reads' HO710.out).2.2)
           (case side8 => exact (Kd.R_reads' HO710.out).2.1)
           rintro e w113 ⟨rfl, hb⟩
           refine ⟨_, rfl, ?_⟩
           replace HO603 := zR_ HO603.out hb
           replace HO606 := zR_ HO606.out hb
           replace HO612 := zR_ HO612.out hb
           replace HO615 := zR_ HO615.out hb
           replace HO621 := zR_ HO621.out hb
           replace HO624 := zR_ HO624.out hb
           replace HO627 := zR_ HO627.out hb
           replace HO631 := zR_ HO631.out hb
           replace HO634 := zR_ HO634.out hb
           replace HO638 := zR_ HO638.out hb
           replace HO641 := zR_ HO641.out hb
           replace HO647 := zR_ HO647.out hb
           replace HO650 := zR_ HO650.out hb
           replace HO659 := zR_ HO659.out hb
           replace HO662 := zR_ HO662.out hb
           replace HO668 := zR_ HO668.out hb
           replace HO671 := zR_ HO671.out hb
           replace HO675 := zR_ HO675.out hb
           replace HO678 := zR_ HO678.out hb
           replace HO684 := zR_ HO684.out hb
           replace HO687 := zR_ HO687.out hb
           replace HO692 := zR_ HO692.out hb
           replace HO695 := zR_ HO695.out hb
           replace HO701 := zR_ HO701.out hb
           replace HO704 := zR_ HO704.out hb
           replace HO707 := zR_ HO707.out hb
           replace HO710 := zR_ HO710.out hb
           replace BK609 := zB_ BK609.out hb
           replace BK618 := zB_ BK618.out hb
           replace BK628 := zB_ BK628.out hb
           replace BK635 := zB_ BK635.out hb
           replace BK644 := zB_ BK644.out hb
           replace BK652 := zB_ BK652.out hb
           replace HB := zA_ (below_step (zg6_ HB.out GE609.out GE618.out GE628.out GE635.out GE644.out GE652.out) hb)
           (try clear hb)
           (try clear hb2)
           (try clear hk)
           (try clear hi)
           refine hK.out _ _ ⟨cy_ BK618.out 0, cy_ BK618.out 1, cy_ BK618.out 2, cy_ BK618.out 3, cy_ BK609.out 0, cy_ BK609.out 1, cy_ BK635.out 0, cy_ BK635.out 1, cy_ BK628.out 0, cy_ BK628.out 1, cy_ BK644.out 0, cy_ BK644.out 1, cy_ BK644.out 2, cy_ BK644.out 3, cy_ BK652.out 0, cy_ BK652.out 1⟩ (fun hHeld => ?_)
           clear hK K
           refine norm_ (a' := ?_) ?_ ?_
           rotate_left
           ·
            show Act.put _ (some 103) _ = _
            simp only [Act.put, List.setIfInBounds_toArray, List.set_cons_zero, List.set_cons_succ, i64_w, i32_w]
            rfl
           refine pure_ (i := 38) (N := some 104) (v := ?_) (a' := ?_) (mr_ [39, 19]) rfl rfl (any_of HT_.out βPb) (fun _ _ _ h => h) (Or.inl ⟨(by rfl), ?_⟩) ?_ ?_
           rotate_left; exact pv_; rotate_left; exact pp_
           refine pure_ (i := 39) (N := some 105) (v := ?_) (a' := ?_) (mr_ [40, 18]) rfl rfl (any_of HT_.out βPb) (fun _ _ _ h => h) (Or.inl ⟨(by rfl), ?_⟩) ?_ ?_
           rotate_left; exact pv_; rotate_left; exact pp_
           refine pure_ (i := 40) (N := some 106) (v := ?_) (a' := ?_) (mr_ [41, 17]) rfl rfl (any_of HT_.out βPb) (fun _ _ _ h => h) (Or.inl ⟨(by rfl), ?_⟩) ?_ ?_
           rotate_left; exact pv_; rotate_left; exact pp_
           refine pure_ (i := 41) (N := some 107) (v := ?_) (a' := ?_) (mr_ [42, 16]) rfl rfl (any_of HT_.out βPb) (fun _ _ _ h => h) (Or.inl ⟨(by rfl), ?_⟩) ?_ ?_
           rotate_left; exact pv_; rotate_left; exact pp_
           refine pure_ (i := 42) (N := some 108) (v := ?_) (a' := ?_) (mr_ [43, 15]) rfl rfl (any_of HT_.out βPb) (fun _ _ _ h => h) (Or.inl ⟨(by rfl), ?_⟩) ?_ ?_
           rotate_left; exact pv_; rotate_left; exact pp_
           refine pure_ (i := 43) (N := some 109) (v := ?_) (a' := ?_) (mr_ [44, 14]) rfl rfl (any_of HT_.out βPb) (fun _ _ _ h => h) (Or.inl ⟨(by rfl), ?_⟩) ?_ ?_
           rotate_left; exact pv_; rotate_left; exact pp_
           refine pure_ (i := 45) (N := some 111) (v := ?_) (a' := ?_) (mr_ [44, 1, 1, 12]) rfl rfl (any_of HT_.out βPb) (fun _ _ _ h => h) (Or.inl ⟨(by rfl), ?_⟩) ?_ ?_
           rotate_left; exact pv_; rotate_left; exact pp_
           refine pure_ (i := 46) (N := some 112) (v := ?_) (a' := ?_) (mr_ [44, 1, 2, 11]) rfl rfl (any_of HT_.out βPb) (fun _ _ _ h => h) (Or.inl ⟨(by rfl), ?_⟩) ?_ ?_
           rotate_left; exact pv_; rotate_left; exact pp_
           refine pure_ (i := 47) (N := some 113) (v := ?_) (a' := ?_) (mr_ [44, 1, 3, 10]) rfl rfl (any_of HT_.out βPb) (fun _ _ _ h => h) (Or.inl ⟨(by rfl), ?_⟩) ?_ ?_
           rotate_left; exact pv_; rotate_left; exact pp_
           refine one_ (i := 44) (N := some 110) (mr_ [48, 10]) rfl rfl (one_of HT_.out βPb) (by decide) (fun K hK => ?_)
           refine goes_ Try.func22 βPb rfl #[.string t654, .string t655, .int .i64 t656] (by rfl) rfl rfl zs_ ?_
           with_reducible refine (impl_Torn.calls t654 t655 t656 t712 _ A31.out).mono ?_
           rintro e w114 ⟨rfl, hb⟩
           refine ⟨_, rfl, ?_⟩
           replace HO603 := zR_ HO603.out hb
           replace HO606 := zR_ HO606.out hb
           replace HO612 := zR_ HO612.out hb
           replace HO615 := zR_ HO615.out hb
           replace HO621 := zR_ HO621.out hb
           replace HO624 := zR_ HO624.out hb
           replace HO627 := zR_ HO627.out hb
           replace HO631 := zR_ HO631.out hb
           replace HO634 := zR_ HO634.out hb
           replace HO638 := zR_ HO638.out hb
           replace HO641 := zR_ HO641.out hb
           replace HO647 := zR_ HO647.out hb
           replace HO650 := zR_ HO650.out hb
           replace HO659 := zR_ HO659.out hb
           replace HO662 := zR_ HO662.out hb
           replace HO668 := zR_ HO668.out hb
           replace HO671 := zR_ HO671.out hb
           replace HO675 := zR_ HO675.out hb
           replace HO678 := zR_ HO678.out hb
           replace HO684 := zR_ HO684.out hb
           replace HO687 := zR_ HO687.out hb
           replace HO692 := zR_ HO692.out hb
           replace HO695 := zR_ HO695.out hb
           replace HO701 := zR_ HO701.out hb
           replace HO704 := zR_ HO704.out hb
           replace HO707 := zR_ HO707.out hb
           replace HO710 := zR_ HO710.out hb
           replace BK609 := zB_ BK609.out hb
           replace BK618 := zB_ BK618.out hb
           replace BK628 := zB_ BK628.out hb
           replace BK635 := zB_ BK635.out hb
           replace BK644 := zB_ BK644.out hb
           replace BK652 := zB_ BK652.out hb
           replace HB := zA_ (below_step (zg6_ HB.out GE609.out GE618.out GE628.out GE635.out GE644.out GE652.out) hb)
           (try clear hb)
           (try clear hb2)
           (try clear hk)
           (try clear hi)
           refine hK.out _ _ ⟨cy_ BK618.out 0, cy_ BK618.out 1, cy_ BK618.out 2, cy_ BK618.out 3, cy_ BK609.out 0, cy_ BK609.out 1, cy_ BK635.out 0, cy_ BK635.out 1, cy_ BK628.out 0, cy_ BK628.out 1, cy_ BK644.out 0, cy_ BK644.out 1, cy_ BK644.out 2, cy_ BK644.out 3, cy_ BK652.out 0, cy_ BK652.out 1⟩ (fun hHeld => ?_)
           clear hK K
           refine norm_ (a' := ?_) ?_ ?_
           rotate_left
           ·
            show Act.put _ (some 110) _ = _
            simp only [Act.put, List.setIfInBounds_toArray, List.set_cons_zero, List.set_cons_succ, i64_w, i32_w]
            rfl
           refine one_ (i := 48) (N := some 114) (mr_ [49, 9]) rfl rfl (one_of HT_.out βPb) (by decide) (fun K hK => ?_)
           refine goes_ Try.func23 βPb rfl #[.string t654, .string t655, .int .i64 t656] (by rfl) rfl rfl zs_ ?_
           with_reducible refine (spec_Torn.calls kj2 t654 t655 t656 t713 _ A32.out).mono ?_
           rintro e w' ⟨rfl, ⟨nd, rfl⟩⟩
           refine ⟨_, rfl, ?_⟩
           refine hK.out _ _ ⟨cy_ BK618.out 0, cy_ BK618.out 1, cy_ BK618.out 2, cy_ BK618.out 3, cy_ BK609.out 0, cy_ BK609.out 1, cy_ BK635.out 0, cy_ BK635.out 1, cy_ BK628.out 0, cy_ BK628.out 1, cy_ BK644.out 0, cy_ BK644.out 1, cy_ BK644.out 2, cy_ BK644.out 3, cy_ BK652.out 0, cy_ BK652.out 1⟩ (fun hHeld => ?_)
           clear hK K
           refine norm_ (a' := ?_) ?_ ?_
           rotate_left
           ·
            show Act.put _ (some 114) _ = _
            simp only [Act.put, List.setIfInBounds_toArray, List.set_cons_zero, List.set_cons_succ, i64_w, i32_w]
            rfl
           refine pure_ (i := 49) (N := some 115) (v := ?_) (a' := ?_) (mr_ [50, 8]) rfl rfl (any_of HT_.out βPb) (fun _ _ _ h => h) (Or.inl ⟨(by rfl), ?_⟩) ?_ ?_
           rotate_left; exact pv_; rotate_left; exact pp_
           refine pure_ (i := 50) (N := some 116) (v := ?_) (a' := ?_) (mr_ [51, 7]) rfl rfl (any_of HT_.out βPb) (fun _ _ _ h => h) (Or.inl ⟨(by rfl), ?_⟩) ?_ ?_
           rotate_left; exact pv_; rotate_left; exact pp_
           refine pure_ (i := 51) (N := some 117) (v := ?_) (a' := ?_) (mr_ [52, 6]) rfl rfl (any_of HT_.out βPb) (fun _ _ _ h => h) (Or.inl ⟨(by rfl), ?_⟩) ?_ ?_
           rotate_left; exact pv_; rotate_left; exact pp_
           refine take_ (i := 52) (N := some 118) (v := ?_) (a' := ?_) (mr_ [53, 5]) rfl rfl (take_ofW HT_.out HW_.out βPb) (fun _ _ _ h => h) (Or.inl ⟨(by rfl), ?_⟩) hHeld ?_ ?_
           rotate_left
           ·
            rintro w' ⟨s0, s1, s2, s3, s4, s5, s6, s7, s8, s9, s10, s11, s12, s13, s14, s15⟩
            go_simp
            with_reducible rfl
           rotate_left
           exact pp_
           refine take_ (i := 54) (N := some 120) (v := ?_) (a' := ?_) (mr_ [53, 1, 1, 3]) rfl rfl (take_ofW HT_.out HW_.out βPb) (fun _ _ _ h => h) (Or.inl ⟨(by rfl), ?_⟩) hHeld ?_ ?_
           rotate_left
           ·
            rintro w' ⟨s0, s1, s2, s3, s4, s5, s6, s7, s8, s9, s10, s11, s12, s13, s14, s15⟩
            go_simp
            with_reducible rfl
           rotate_left
           exact pp_
           refine one_ (i := 53) (N := some 119) (mr_ [55, 3]) rfl rfl (one_of HT_.out βPb) (by decide) (fun K hK => ?_)
           refine goes_ Try.func24 βPb rfl #[.agg #[.slice Ao51 t619.length co51, .slice Ao55 t622.length co55]] (by rfl) rfl rfl zs_ ?_
           with_reducible refine (impl_FlashRight.calls _ _ t619 _ _ t622 t714 _ ?side1 ?side2 ?side3 ?side4 A34.out).mono ?_
           (case side1 => exact zc_ (Kd.R_reads' HO621.out).2.2)
           (case side2 => exact (Kd.R_reads' HO621.out).2.1)
           (case side3 => exact zc_ (Kd.R_reads' HO624.out).2.2)
           (case side4 => exact (Kd.R_reads' HO624.out).2.1)
           rintro e w115 ⟨rfl, hb⟩
           refine ⟨_, rfl, ?_⟩
           replace HO603 := zR_ HO603.out hb
           replace HO606 := zR_ HO606.out hb
           replace HO612 := zR_ HO612.out hb
           replace HO615 := zR_ HO615.out hb
           replace HO621 := zR_ HO621.out hb
           replace HO624 := zR_ HO624.out hb
           replace HO627 := zR_ HO627.out hb
           replace HO631 := zR_ HO631.out hb
           replace HO634 := zR_ HO634.out hb
           replace HO638 := zR_ HO638.out hb
           replace HO641 := zR_ HO641.out hb
           replace HO647 := zR_ HO647.out hb
           replace HO650 := zR_ HO650.out hb
           replace HO659 := zR_ HO659.out hb
           replace HO662 := zR_ HO662.out hb
           replace HO668 := zR_ HO668.out hb
           replace HO671 := zR_ HO671.out hb
           replace HO675 := zR_ HO675.out hb
           replace HO678 := zR_ HO678.out hb
           replace HO684 := zR_ HO684.out hb
           replace HO687 := zR_ HO687.out hb
           replace HO692 := zR_ HO692.out hb
           replace HO695 := zR_ HO695.out hb
           replace HO701 := zR_ HO701.out hb
           replace HO704 := zR_ HO704.out hb
           replace HO707 := zR_ HO707.out hb
           replace HO710 := zR_ HO710.out hb
           replace BK609 := zB_ BK609.out hb
           replace BK618 := zB_ BK618.out hb
           replace BK628 := zB_ BK628.out hb
           replace BK635 := zB_ BK635.out hb
           replace BK644 := zB_ BK644.out hb
           replace BK652 := zB_ BK652.out hb
           replace HB := zA_ (below_step (zg6_ HB.out GE609.out GE618.out GE628.out GE635.out GE644.out GE652.out) hb)
           (try clear hb)
           (try clear hb2)
           (try clear hk)
           (try clear hi)
           refine hK.out _ _ ⟨cy_ BK618.out 0, cy_ BK618.out 1, cy_ BK618.out 2, cy_ BK618.out 3, cy_ BK609.out 0, cy_ BK609.out 1, cy_ BK635.out 0, cy_ BK635.out 1, cy_ BK628.out 0, cy_ BK628.out 1, cy_ BK644.out 0, cy_ BK644.out 1, cy_ BK644.out 2, cy_ BK644.out 3, cy_ BK652.out 0, cy_ BK652.out 1⟩ (fun hHeld => ?_)
           clear hK K
           refine norm_ (a' := ?_) ?_ ?_
           rotate_left
           ·
            show Act.put _ (some 119) _ = _
            simp only [Act.put, List.setIfInBounds_toArray, List.set_cons_zero, List.set_cons_succ, i64_w, i32_w]
            rfl
           refine one_ (i := 55) (N := some 121) (mr_ [56, 2]) rfl rfl (one_of HT_.out βPb) (by decide) (fun K hK => ?_)
           refine goes_ Try.func25 βPb rfl #[.agg #[.slice Ao51 t619.length co51, .slice Ao55 t622.length co55]] (by rfl) rfl rfl zs_ ?_
           with_reducible refine (spec_FlashRight.calls kj2 _ _ t619 _ _ t622 t715 _ ?side1 ?side2 ?side3 ?side4 A35.out).mono ?_
           (case side1 => exact zc_ (Kd.R_reads' HO621.out).2.2)
           (case side2 => exact (Kd.R_reads' HO621.out).2.1)
           (case side3 => exact zc_ (Kd.R_reads' HO624.out).2.2)
           (case side4 => exact (Kd.R_reads' HO624.out).2.1)
           rintro e w116 ⟨rfl, hb⟩
           refine ⟨_, rfl, ?_⟩
           replace HO603 := zR_ HO603.out hb
           replace HO606 := zR_ HO606.out hb
           replace HO612 := zR_ HO612.out hb
           replace HO615 := zR_ HO615.out hb
           replace HO621 := zR_ HO621.out hb
           replace HO624 := zR_ HO624.out hb
           replace HO627 := zR_ HO627.out hb
           replace HO631 := zR_ HO631.out hb
           replace HO634 := zR_ HO634.out hb
           replace HO638 := zR_ HO638.out hb
           replace HO641 := zR_ HO641.out hb
           replace HO647 := zR_ HO647.out hb
           replace HO650 := zR_ HO650.out hb
           replace HO659 := zR_ HO659.out hb
           replace HO662 := zR_ HO662.out hb
           replace HO668 := zR_ HO668.out hb
           replace HO671 := zR_ HO671.out hb
           replace HO675 := zR_ HO675.out hb
           replace HO678 := zR_ HO678.out hb
           replace HO684 := zR_ HO684.out hb
           replace HO687 := zR_ HO687.out hb
           replace HO692 := zR_ HO692.out hb
           replace HO695 := zR_ HO695.out hb
           replace HO701 := zR_ HO701.out hb
           replace HO704 := zR_ HO704.out hb
           replace HO707 := zR_ HO707.out hb
           replace HO710 := zR_ HO710.out hb
           replace BK609 := zB_ BK609.out hb
           replace BK618 := zB_ BK618.out hb
           replace BK628 := zB_ BK628.out hb
           replace BK635 := zB_ BK635.out hb
           replace BK644 := zB_ BK644.out hb
           replace BK652 := zB_ BK652.out hb
           replace HB := zA_ (below_step (zg6_ HB.out GE609.out GE618.out GE628.out GE635.out GE644.out GE652.out) hb)
           (try clear hb)
           (try clear hb2)
           (try clear hk)
           (try clear hi)
           refine hK.out _ _ ⟨cy_ BK618.out 0, cy_ BK618.out 1, cy_ BK618.out 2, cy_ BK618.out 3, cy_ BK609.out 0, cy_ BK609.out 1, cy_ BK635.out 0, cy_ BK635.out 1, cy_ BK628.out 0, cy_ BK628.out 1, cy_ BK644.out 0, cy_ BK644.out 1, cy_ BK644.out 2, cy_ BK644.out 3, cy_ BK652.out 0, cy_ BK652.out 1⟩ (fun hHeld => ?_)
           clear hK K
           refine norm_ (a' := ?_) ?_ ?_
           rotate_left
           ·
            show Act.put _ (some 121) _ = _
            simp only [Act.put, List.setIfInBounds_toArray, List.set_cons_zero, List.set_cons_succ, i64_w, i32_w]
            rfl
           refine pure_ (i := 56) (N := some 122) (v := ?_) (a' := ?_) (mr_ [57, 1]) rfl rfl (any_of HT_.out βPb) (fun _ _ _ h => h) (Or.inl ⟨(by rfl), ?_⟩) ?_ ?_
           rotate_left; exact pv_; rotate_left; exact pp_
           refine pure_ (i := 57) (N := some 123) (v := ?_) (a' := ?_) (mr_ [58]) rfl rfl (any_of HT_.out βPb) (fun _ _ _ h => h) (Or.inl ⟨(by rfl), ?_⟩) ?_ ?_
           rotate_left; exact pv_; rotate_left; exact pp_
           refine done_ (done_of HT_.out βPb) ?_
           have hcz117_0 := cz_ BK618.out 0 (.slice Ao45 t610.length co45) rfl
           have hcz117_1 := cz_ BK618.out 1 (.slice Ao48 t613.length co48) rfl
           have hcz117_2 := cz_ BK618.out 2 (.string t616) rfl
           have hcz117_3 := cz_ BK618.out 3 (.int .i64 t617) rfl
           have hfz117_0 := blk_frozen BK618.out 0
           have hfz117_1 := blk_frozen BK618.out 1
           have hfz117_2 := blk_frozen BK618.out 2
           have hfz117_3 := blk_frozen BK618.out 3
           go_upto_if 126 with (fail)
           go_cut [] (fun wc => ∃ (kq : Nat), Aside0 (laws_FnFlash.j2 kq t625 t619 t622 t629 t632 t636 t639 t642 t643 = some r) ∧ Aside0 (kq ≤ kj2) ∧ Aside0 (Kd.R (Kd.int .i64) 2 wc w.heap.size (fun _ => True) (.slice Ao56 t625.length co56) t625) ∧ Aside0 (Kd.R Kd.string 9 wc w.heap.size (fun k_ => some k_ ≠ ((.slice Ao45 t610.length co45) : Value).ownBlock ∧ some k_ ≠ ((.slice Ao51 t619.length co51) : Value).ownBlock ∧ some k_ ≠ ((.slice Ao59 t629.length co59) : Value).ownBlock ∧ some k_ ≠ ((.slice Ao68 t636.length co68) : Value).ownBlock ∧ some k_ ≠ ((.slice Ao77 t645.length co77) : Value).ownBlock) (.slice Ao40 t601.length co40) t601) ∧ Aside0 (Kd.R k83 83 wc w.heap.size (fun k_ => some k_ ≠ ((.slice Ao48 t613.length co48) : Value).ownBlock ∧ some k_ ≠ ((.slice Ao55 t622.length co55) : Value).ownBlock ∧ some k_ ≠ ((.slice Ao64 t632.length co64) : Value).ownBlock ∧ some k_ ≠ ((.slice Ao74 t639.length co74) : Value).ownBlock ∧ some k_ ≠ ((.slice Ao84 t648.length co84) : Value).ownBlock) (.slice Ao42 t604.length co42) t604) ∧ Aside0 (Kd.R Kd.string 9 wc w.heap.size (fun k_ => some k_ ≠ ((.slice Ao40 t601.length co40) : Value).ownBlock ∧ some k_ ≠ ((.slice Ao51 t619.length co51) : Value).ownBlock ∧ some k_ ≠ ((.slice Ao59 t629.length co59) : Value).ownBlock ∧ some k_ ≠ ((.slice Ao68 t636.length co68) : Value).ownBlock ∧ some k_ ≠ ((.slice Ao77 t645.length co77) : Value).ownBlock) (.slice Ao45 t610.length co45) t610) ∧ Aside0 (Kd.R k83 83 wc w.heap.size (fun k_ => some k_ ≠ ((.slice Ao42 t604.length co42) : Value).ownBlock ∧ some k_ ≠ ((.slice Ao55 t622.length co55) : Value).ownBlock ∧ some k_ ≠ ((.slice Ao64 t632.length co64) : Value).ownBlock ∧ some k_ ≠ ((.slice Ao74 t639.length co74) : Value).ownBlock ∧ some k_ ≠ ((.slice Ao84 t648.length co84) : Value).ownBlock) (.slice Ao48 t613.length co48) t613) ∧ Aside0 (Kd.R Kd.string 9 wc w.heap.size (fun k_ => some k_ ≠ ((.slice Ao40 t601.length co40) : Value).ownBlock ∧ some k_ ≠ ((.slice Ao45 t610.length co45) : Value).ownBlock ∧ some k_ ≠ ((.slice Ao59 t629.length co59) : Value).ownBlock ∧ some k_ ≠ ((.slice Ao68 t636.length co68) : Value).ownBlock ∧ some k_ ≠ ((.slice Ao77 t645.length co77) : Value).ownBlock) (.slice Ao51 t619.length co51) t619) ∧ Aside0 (Kd.R k83 83 wc w.heap.size (fun k_ => some k_ ≠ ((.slice Ao42 t604.length co42) : Value).ownBlock ∧ some k_ ≠ ((.slice Ao48 t613.length co48) : Value).ownBlock ∧ some k_ ≠ ((.slice Ao64 t632.length co64) : Value).ownBlock ∧ some k_ ≠ ((.slice Ao74 t639.length co74) : Value).ownBlock ∧ some k_ ≠ ((.slice Ao84 t648.length co84) : Value).ownBlock) (.slice Ao55 t622.length co55) t622) ∧ Aside0 (Kd.R Kd.string 9 wc w.heap.size (fun k_ => some k_ ≠ ((.slice Ao40 t601.length co40) : Value).ownBlock ∧ some k_ ≠ ((.slice Ao45 t610.length co45) : Value).ownBlock ∧ some k_ ≠ ((.slice Ao51 t619.length co51) : Value).ownBlock ∧ some k_ ≠ ((.slice Ao68 t636.length co68) : Value).ownBlock ∧ some k_ ≠ ((.slice Ao77 t645.length co77) : Value).ownBlock) (.slice Ao59 t629.length co59) t629) ∧ Aside0 (Kd.R k83 83 wc w.heap.size (fun k_ => some k_ ≠ ((.slice Ao42 t604.length co42) : Value).ownBlock ∧ some k_ ≠ ((.slice Ao48 t613.length co48) : Value).ownBlock ∧ some k_ ≠ ((.slice Ao55 t622.length co55) : Value).ownBlock ∧ some k_ ≠ ((.slice Ao74 t639.length co74) : Value).ownBlock ∧ some k_ ≠ ((.slice Ao84 t648.length co84) : Value).ownBlock) (.slice Ao64 t632.length co64) t632) ∧ Aside0 (Kd.R Kd.string 9 wc w.heap.size (fun k_ => some k_ ≠ ((.slice Ao40 t601.length co40) : Value).ownBlock ∧ some k_ ≠ ((.slice Ao45 t610.length co45) : Value).ownBlock ∧ some k_ ≠ ((.slice Ao51 t619.length co51) : Value).ownBlock ∧ some k_ ≠ ((.slice Ao59 t629.length co59) : Value).ownBlock ∧ some k_ ≠ ((.slice Ao77 t645.length co77) : Value).ownBlock) (.slice Ao68 t636.length co68) t636) ∧ Aside0 (Kd.R k83 83 wc w.heap.size (fun k_ => some k_ ≠ ((.slice Ao42 t604.length co42) : Value).ownBlock ∧ some k_ ≠ ((.slice Ao48 t613.length co48) : Value).ownBlock ∧ some k_ ≠ ((.slice Ao55 t622.length co55) : Value).ownBlock ∧ some k_ ≠ ((.slice Ao64 t632.length co64) : Value).ownBlock ∧ some k_ ≠ ((.slice Ao84 t648.length co84) : Value).ownBlock) (.slice Ao74 t639.length co74) t639) ∧ Aside0 (Kd.R Kd.string 9 wc w.heap.size (fun k_ => some k_ ≠ ((.slice Ao40 t601.length co40) : Value).ownBlock ∧ some k_ ≠ ((.slice Ao45 t610.length co45) : Value).ownBlock ∧ some k_ ≠ ((.slice Ao51 t619.length co51) : Value).ownBlock ∧ some k_ ≠ ((.slice Ao59 t629.length co59) : Value).ownBlock ∧ some k_ ≠ ((.slice Ao68 t636.length co68) : Value).ownBlock) (.slice Ao77 t645.length co77) t645) ∧ Aside0 (Kd.R k83 83 wc w.heap.size (fun k_ => some k_ ≠ ((.slice Ao42 t604.length co42) : Value).ownBlock ∧ some k_ ≠ ((.slice Ao48 t613.length co48) : Value).ownBlock ∧ some k_ ≠ ((.slice Ao55 t622.length co55) : Value).ownBlock ∧ some k_ ≠ ((.slice Ao64 t632.length co64) : Value).ownBlock ∧ some k_ ≠ ((.slice Ao74 t639.length co74) : Value).ownBlock) (.slice Ao84 t648.length co84) t648) ∧ Aside0 (wc.heap[gb609]? = some (.cells #[(.slice Ao40 t601.length co40), (.slice Ao42 t604.length co42)] 26 (0, 0))) ∧ Aside0 (wc.heap[gb618]? = some (.cells #[(.slice Ao45 t610.length co45), (.slice Ao48 t613.length co48), .string t616, .int .i64 t617] 30 (0, 0))) ∧ Aside0 (wc.heap[gb628]? = some (.cells #[(.slice Ao51 t619.length co51), (.slice Ao55 t622.length co55)] 26 (0, 0))) ∧ Aside0 (wc.heap[gb635]? = some (.cells #[(.slice Ao59 t629.length co59), (.slice Ao64 t632.length co64)] 26 (0, 0))) ∧ Aside0 (wc.heap[gb644]? = some (.cells #[(.slice Ao68 t636.length co68), (.slice Ao74 t639.length co74), .string t642, .int .i64 t643] 30 (0, 0))) ∧ Aside0 (wc.heap[gb652]? = some (.cells #[(.slice Ao77 t645.length co77), (.slice Ao84 t648.length co84)] 26 (0, 0))) ∧ Aside0 (Below w.heap.size w wc))
           case first =>
            have H := HC37.out
            clear HC37
            by_cases c118 : t617 = 0
            ·
             rw [if_pos c118] at H
             have c118b0 : (t617 == 0) = true := beq_iff_eq.mpr c118
             have c118b1 : (t617 != 0) = false := bne_eq_false_iff_eq.mpr c118
             clear c118
             (first | rw [c118b0] | (simp only [i64_w, i32_w]; rw [c118b0]) | skip)
             have H' := zA_ H
             clear H
             go_wp2
             go_loopg [19] kj2 (fun kq v19 w' => ∃ (x19_2 : Int), v19 = .int .i64 x19_2 ∧ Aside0 (laws_FnFlash.l0 kq t607 t608 t625 x19_2 t601 t604 t610 t613 t616 t617 t619 t622 t629 t632 t636 t639 t642 t643 = some r) ∧ Aside0 (kq ≤ kj2) ∧ Aside0 (Kd.R (Kd.int .i64) 2 w' w.heap.size (fun _ => True) (.slice Ao56 t625.length co56) t625) ∧ Aside0 (Kd.R Kd.string 9 w' w.heap.size (fun k_ => some k_ ≠ ((.slice Ao45 t610.length co45) : Value).ownBlock ∧ some k_ ≠ ((.slice Ao51 t619.length co51) : Value).ownBlock ∧ some k_ ≠ ((.slice Ao59 t629.length co59) : Value).ownBlock ∧ some k_ ≠ ((.slice Ao68 t636.length co68) : Value).ownBlock ∧ some k_ ≠ ((.slice Ao77 t645.length co77) : Value).ownBlock) (.slice Ao40 t601.length co40) t601) ∧ Aside0 (Kd.R k83 83 w' w.heap.size (fun k_ => some k_ ≠ ((.slice Ao48 t613.length co48) : Value).ownBlock ∧ some k_ ≠ ((.slice Ao55 t622.length co55) : Value).ownBlock ∧ some k_ ≠ ((.slice Ao64 t632.length co64) : Value).ownBlock ∧ some k_ ≠ ((.slice Ao74 t639.length co74) : Value).ownBlock ∧ some k_ ≠ ((.slice Ao84 t648.length co84) : Value).ownBlock) (.slice Ao42 t604.length co42) t604) ∧ Aside0 (Kd.R Kd.string 9 w' w.heap.size (fun k_ => some k_ ≠ ((.slice Ao40 t601.length co40) : Value).ownBlock ∧ some k_ ≠ ((.slice Ao51 t619.length co51) : Value).ownBlock ∧ some k_ ≠ ((.slice Ao59 t629.length co59) : Value).ownBlock ∧ some k_ ≠ ((.slice Ao68 t636.length co68) : Value).ownBlock ∧ some k_ ≠ ((.slice Ao77 t645.length co77) : Value).ownBlock) (.slice Ao45 t610.length co45) t610) ∧ Aside0 (Kd.R k83 83 w' w.heap.size (fun k_ => some k_ ≠ ((.slice Ao42 t604.length co42) : Value).ownBlock ∧ some k_ ≠ ((.slice Ao55 t622.length co55) : Value).ownBlock ∧ some k_ ≠ ((.slice Ao64 t632.length co64) : Value).ownBlock ∧ some k_ ≠ ((.slice Ao74 t639.length co74) : Value).ownBlock ∧ some k_ ≠ ((.slice Ao84 t648.length co84) : Value).ownBlock) (.slice Ao48 t613.length co48) t613) ∧ Aside0 (Kd.R Kd.string 9 w' w.heap.size (fun k_ => some k_ ≠ ((.slice Ao40 t601.length co40) : Value).ownBlock ∧ some k_ ≠ ((.slice Ao45 t610.length co45) : Value).ownBlock ∧ some k_ ≠ ((.slice Ao59 t629.length co59) : Value).ownBlock ∧ some k_ ≠ ((.slice Ao68 t636.length co68) : Value).ownBlock ∧ some k_ ≠ ((.slice Ao77 t645.length co77) : Value).ownBlock) (.slice Ao51 t619.length co51) t619) ∧ Aside0 (Kd.R k83 83 w' w.heap.size (fun k_ => some k_ ≠ ((.slice Ao42 t604.length co42) : Value).ownBlock ∧ some k_ ≠ ((.slice Ao48 t613.length co48) : Value).ownBlock ∧ some k_ ≠ ((.slice Ao64 t632.length co64) : Value).ownBlock ∧ some k_ ≠ ((.slice Ao74 t639.length co74) : Value).ownBlock ∧ some k_ ≠ ((.slice Ao84 t648.length co84) : Value).ownBlock) (.slice Ao55 t622.length co55) t622) ∧ Aside0 (Kd.R Kd.string 9 w' w.heap.size (fun k_ => some k_ ≠ ((.slice Ao40 t601.length co40) : Value).ownBlock ∧ some k_ ≠ ((.slice Ao45 t610.length co45) : Value).ownBlock ∧ some k_ ≠ ((.slice Ao51 t619.length co51) : Value).ownBlock ∧ some k_ ≠ ((.slice Ao68 t636.length co68) : Value).ownBlock ∧ some k_ ≠ ((.slice Ao77 t645.length co77) : Value).ownBlock) (.slice Ao59 t629.length co59) t629) ∧ Aside0 (Kd.R k83 83 w' w.heap.size (fun k_ => some k_ ≠ ((.slice Ao42 t604.length co42) : Value).ownBlock ∧ some k_ ≠ ((.slice Ao48 t613.length co48) : Value).ownBlock ∧ some k_ ≠ ((.slice Ao55 t622.length co55) : Value).ownBlock ∧ some k_ ≠ ((.slice Ao74 t639.length co74) : Value).ownBlock ∧ some k_ ≠ ((.slice Ao84 t648.length co84) : Value).ownBlock) (.slice Ao64 t632.length co64) t632) ∧ Aside0 (Kd.R Kd.string 9 w' w.heap.size (fun k_ => some k_ ≠ ((.slice Ao40 t601.length co40) : Value).ownBlock ∧ some k_ ≠ ((.slice Ao45 t610.length co45) : Value).ownBlock ∧ some k_ ≠ ((.slice Ao51 t619.length co51) : Value).ownBlock ∧ some k_ ≠ ((.slice Ao59 t629.length co59) : Value).ownBlock ∧ some k_ ≠ ((.slice Ao77 t645.length co77) : Value).ownBlock) (.slice Ao68 t636.length co68) t636) ∧ Aside0 (Kd.R k83 83 w' w.heap.size (fun k_ => some k_ ≠ ((.slice Ao42 t604.length co42) : Value).ownBlock ∧ some k_ ≠ ((.slice Ao48 t613.length co48) : Value).ownBlock ∧ some k_ ≠ ((.slice Ao55 t622.length co55) : Value).ownBlock ∧ some k_ ≠ ((.slice Ao64 t632.length co64) : Value).ownBlock ∧ some k_ ≠ ((.slice Ao84 t648.length co84) : Value).ownBlock) (.slice Ao74 t639.length co74) t639) ∧ Aside0 (Kd.R Kd.string 9 w' w.heap.size (fun k_ => some k_ ≠ ((.slice Ao40 t601.length co40) : Value).ownBlock ∧ some k_ ≠ ((.slice Ao45 t610.length co45) : Value).ownBlock ∧ some k_ ≠ ((.slice Ao51 t619.length co51) : Value).ownBlock ∧ some k_ ≠ ((.slice Ao59 t629.length co59) : Value).ownBlock ∧ some k_ ≠ ((.slice Ao68 t636.length co68) : Value).ownBlock) (.slice Ao77 t645.length co77) t645) ∧ Aside0 (Kd.R k83 83 w' w.heap.size (fun k_ => some k_ ≠ ((.slice Ao42 t604.length co42) : Value).ownBlock ∧ some k_ ≠ ((.slice Ao48 t613.length co48) : Value).ownBlock ∧ some k_ ≠ ((.slice Ao55 t622.length co55) : Value).ownBlock ∧ some k_ ≠ ((.slice Ao64 t632.length co64) : Value).ownBlock ∧ some k_ ≠ ((.slice Ao74 t639.length co74) : Value).ownBlock) (.slice Ao84 t648.length co84) t648) ∧ Aside0 (w'.heap[gb609]? = some (.cells #[(.slice Ao40 t601.length co40), (.slice Ao42 t604.length co42)] 26 (0, 0))) ∧ Aside0 (w'.heap[gb618]? = some (.cells #[(.slice Ao45 t610.length co45), (.slice Ao48 t613.length co48), .string t616, .int .i64 t617] 30 (0, 0))) ∧ Aside0 (w'.heap[gb628]? = some (.cells #[(.slice Ao51 t619.length co51), (.slice Ao55 t622.length co55)] 26 (0, 0))) ∧ Aside0 (w'.heap[gb635]? = some (.cells #[(.slice Ao59 t629.length co59), (.slice Ao64 t632.length co64)] 26 (0, 0))) ∧ Aside0 (w'.heap[gb644]? = some (.cells #[(.slice Ao68 t636.length co68), (.slice Ao74 t639.length co74), .string t642, .int .i64 t643] 30 (0, 0))) ∧ Aside0 (w'.heap[gb652]? = some (.cells #[(.slice Ao77 t645.length co77), (.slice Ao84 t648.length co84)] 26 (0, 0))) ∧ Aside0 (Below w.heap.size w w'))
             case atStart => exact ⟨(0), βLb, H', ⟨Nat.le_refl _⟩, ⟨zr_ HO627.out⟩, ⟨βX⟩, ⟨βY⟩, ⟨βZ⟩, ⟨βaa⟩, ⟨βba⟩, ⟨βca⟩, ⟨βda⟩, ⟨βea⟩, ⟨βfa⟩, ⟨βga⟩, ⟨βha⟩, ⟨βia⟩, ⟨zb_ BK609.out⟩, ⟨zb_ BK618.out⟩, ⟨zb_ BK628.out⟩, ⟨zb_ BK635.out⟩, ⟨zb_ BK644.out⟩, ⟨zb_ BK652.out⟩, ⟨zg6_ HB.out GE609.out GE618.out GE628.out GE635.out GE644.out GE652.out⟩⟩
             case round =>
              clear H'
              try clear c1
              try clear c2
              try clear p2
              try clear c11
              try clear c22
              try clear c23
              try clear c24
              try clear c25
              try clear c118
              try clear c118b0
              try clear c118b1
              try clear hcz117_0
              try clear hcz117_1
              try clear hcz117_2
              try clear hcz117_3
              try clear hfz117_0
              try clear hfz117_1
              try clear hfz117_2
              try clear hfz117_3
              obtain ⟨x19_2, rfl, HA, HK2, HO_10, HO_610000, HO_610001, HO_619000, HO_619001, HO_629000, HO_629001, HO_636000, HO_636001, HO_645000, HO_645001, HO_653000, HO_653001, BK609, BK618, BK628, BK635, BK644, BK652, HB⟩ := hrel
              cases gk with
              | zero => exact absurd HA.out (by simp [laws_FnFlash.l0])
              | succ k2 =>
               have H := HA.out
               clear HA
               simp only [laws_FnFlash.l0] at H
               by_cases c119 : x19_2 < (t601.length : Int)
               ·
                rw [if_pos c119] at H
                have c119b0 : decide (x19_2 < (t601.length : Int)) = true := decide_eq_true c119
                clear c119
                replace H := Option.bind_eq_some_iff.mp H
                obtain ⟨⟨t765, t768, t771, t772⟩, A1200, H⟩ := H
                (try dsimp -simprocs only at H)
                have A120 := zA_ A1200
                clear A1200
                by_cases c121 : x19_2 = t607
                ·
                 rw [if_pos c121] at H
                 have c121b0 : (x19_2 == t607) = true := beq_iff_eq.mpr c121
                 have c121b1 : (x19_2 != t607) = false := bne_eq_false_iff_eq.mpr c121
                 clear c121
                 replace H := Option.bind_eq_some_iff.mp H
                 obtain ⟨⟨t773, t776, t779, t780⟩, A1220, H⟩ := H
                 (try dsimp -simprocs only at H)
                 have A122 := zA_ A1220
                 clear A1220
                 by_cases c123 : t779.toList = t608.toList
                 ·
                  rw [if_pos c123] at H
                  have c123b0 : (t779.toList == t608.toList) = true := beq_iff_eq.mpr c123
                  have c123b1 : (t779.toList != t608.toList) = false := bne_eq_false_iff_eq.mpr c123
                  clear c123
                  as_aux_lemma =>
                   have H' := zA_ H
                   clear H
                   have hnb124 := NB609_618.out
                   have hnc124 := NB618_609.out
                   have hnb125 := NB609_628.out
                   have hnc125 := NB628_609.out
                   have hnb126 := NB609_635.out
                   have hnc126 := NB635_609.out
                   have hnb127 := NB609_644.out
                   have hnc127 := NB644_609.out
                   have hnb128 := NB609_652.out
                   have hnc128 := NB652_609.out
                   have hcz129_0 := cz_ BK609.out 0 (.slice Ao40 t601.length co40) rfl
                   have hcz129_1 := cz_ BK609.out 1 (.slice Ao42 t604.length co42) rfl
                   have hfz129_0 := blk_frozen BK609.out 0
                   have hfz129_1 := blk_frozen BK609.out 1
                   go_wp2_with (first | ((with_reducible refine gate_callee (f := 19) rfl ?_); refine goesL_ (some 136) rfl rfl Try.func19 βPb rfl #[.agg #[.slice Ao40 t601.length co40, .slice Ao42 t604.length co42], .int .i64 x19_2] rfl zs_ ?_; (with_reducible refine (spec_FlashRead.calls k2 _ _ t601 _ _ t604 x19_2 t765 t768 t771 t772 _ ?side1 ?side2 ?side3 ?side4 A120.out).mono ?_); (case side1 => exact zc_ (Kd.R_reads' HO_610000.out).2.2); (case side2 => exact (Kd.R_reads' HO_610000.out).2.1); (case side3 => exact zc_ (Kd.R_reads' HO_610001.out).2.2); (case side4 => exact (Kd.R_reads' HO_610001.out).2.1); rintro e w130 ⟨v766, v769, rfl, ho0, ho1, hb⟩; refine ⟨_, rfl, ?_⟩; replace HO_10 := zR_ HO_10.out hb; have HO767 := zA_ (Kd.R_lower (Kd.R_new' (Kd.R_new' (Kd.R_new' (Kd.R_new' (Kd.R_new' (Kd.R_new' ho0 (Kd.R_lt (zr_ HO_610000.out))) (Kd.R_lt (zr_ HO_619000.out))) (Kd.R_lt (zr_ HO_629000.out))) (Kd.R_lt (zr_ HO_636000.out))) (Kd.R_lt (zr_ HO_645000.out))) (Kd.R_lt (zr_ HO_653000.out))) (below_size (zg6_ HB.out GE609.out GE618.out GE628.out GE635.out GE644.out GE652.out))); replace HO_610000 := zE_ HO_610000.out ho0 hb; replace HO_619000 := zE_ HO_619000.out ho0 hb; replace HO_629000 := zE_ HO_629000.out ho0 hb; replace HO_636000 := zE_ HO_636000.out ho0 hb; replace HO_645000 := zE_ HO_645000.out ho0 hb; replace HO_653000 := zE_ HO_653000.out ho0 hb; have HO770 := zA_ (Kd.R_lower (Kd.R_new' (Kd.R_new' (Kd.R_new' (Kd.R_new' (Kd.R_new' (Kd.R_new' ho1 (Kd.R_lt (zr_ HO_610001.out))) (Kd.R_lt (zr_ HO_619001.out))) (Kd.R_lt (zr_ HO_629001.out))) (Kd.R_lt (zr_ HO_636001.out))) (Kd.R_lt (zr_ HO_645001.out))) (Kd.R_lt (zr_ HO_653001.out))) (below_size (zg6_ HB.out GE609.out GE618.out GE628.out GE635.out GE644.out GE652.out))); replace HO_610001 := zE_ HO_610001.out ho1 hb; replace HO_619001 := zE_ HO_619001.out ho1 hb; replace HO_629001 := zE_ HO_629001.out ho1 hb; replace HO_636001 := zE_ HO_636001.out ho1 hb; replace HO_645001 := zE_ HO_645001.out ho1 hb; replace HO_653001 := zE_ HO_653001.out ho1 hb; replace BK609 := zB_ BK609.out hb; replace BK618 := zB_ BK618.out hb; replace BK628 := zB_ BK628.out hb; replace BK635 := zB_ BK635.out hb; replace BK644 := zB_ BK644.out hb; replace BK652 := zB_ BK652.out hb; replace HB := zA_ (below_step (zg6_ HB.out GE609.out GE618.out GE628.out GE635.out GE644.out GE652.out) hb); (try clear hb); (try clear hb2); (try clear hk); (try clear hi); (try clear ho0); (try clear ho1); have hnb131 := NB618_628.out; have hnc131 := NB628_618.out; have hnb132 := NB618_635.out; have hnc132 := NB635_618.out; have hnb133 := NB618_644.out; have hnc133 := NB644_618.out; have hnb134 := NB618_652.out; have hnc134 := NB652_618.out; have hcz135_0 := cz_ BK618.out 0 (.slice Ao45 t610.length co45) rfl; have hcz135_1 := cz_ BK618.out 1 (.slice Ao48 t613.length co48) rfl; have hcz135_2 := cz_ BK618.out 2 (.string t616) rfl; have hcz135_3 := cz_ BK618.out 3 (.int .i64 t617) rfl; have hfz135_0 := blk_frozen BK618.out 0; have hfz135_1 := blk_frozen BK618.out 1; have hfz135_2 := blk_frozen BK618.out 2; have hfz135_3 := blk_frozen BK618.out 3) | ((with_reducible refine gate_callee (f := 18) rfl ?_); refine goesL_ (some 145) rfl rfl Try.func18 βPb rfl #[.agg #[.slice Ao45 t610.length co45, .slice Ao48 t613.length co48], .int .i64 x19_2] rfl zs_ ?_; (with_reducible refine (impl_FlashRead.calls _ _ t610 _ _ t613 x19_2 t773 t776 t779 t780 _ ?side1 ?side2 ?side3 ?side4 A122.out).mono ?_); (case side1 => exact zc_ (Kd.R_reads' HO_619000.out).2.2); (case side2 => exact (Kd.R_reads' HO_619000.out).2.1); (case side3 => exact zc_ (Kd.R_reads' HO_619001.out).2.2); (case side4 => exact (Kd.R_reads' HO_619001.out).2.1); rintro e w136 ⟨v774, v777, rfl, ho0, ho1, hb⟩; refine ⟨_, rfl, ?_⟩; replace HO_10 := zR_ HO_10.out hb; have HO775 := zA_ (Kd.R_lower (Kd.R_new' (Kd.R_new' (Kd.R_new' (Kd.R_new' (Kd.R_new' (Kd.R_new' (Kd.R_new' ho0 (Kd.R_lt (zr_ HO_610000.out))) (Kd.R_lt (zr_ HO_619000.out))) (Kd.R_lt (zr_ HO_629000.out))) (Kd.R_lt (zr_ HO_636000.out))) (Kd.R_lt (zr_ HO_645000.out))) (Kd.R_lt (zr_ HO_653000.out))) (Kd.R_lt (zr_ HO767.out))) (below_size (zg6_ HB.out GE609.out GE618.out GE628.out GE635.out GE644.out GE652.out))); replace HO_610000 := zE_ HO_610000.out ho0 hb; replace HO_619000 := zE_ HO_619000.out ho0 hb; replace HO_629000 := zE_ HO_629000.out ho0 hb; replace HO_636000 := zE_ HO_636000.out ho0 hb; replace HO_645000 := zE_ HO_645000.out ho0 hb; replace HO_653000 := zE_ HO_653000.out ho0 hb; replace HO767 := zE_ HO767.out ho0 hb; have HO778 := zA_ (Kd.R_lower (Kd.R_new' (Kd.R_new' (Kd.R_new' (Kd.R_new' (Kd.R_new' (Kd.R_new' (Kd.R_new' ho1 (Kd.R_lt (zr_ HO_610001.out))) (Kd.R_lt (zr_ HO_619001.out))) (Kd.R_lt (zr_ HO_629001.out))) (Kd.R_lt (zr_ HO_636001.out))) (Kd.R_lt (zr_ HO_645001.out))) (Kd.R_lt (zr_ HO_653001.out))) (Kd.R_lt (zr_ HO770.out))) (below_size (zg6_ HB.out GE609.out GE618.out GE628.out GE635.out GE644.out GE652.out))); replace HO_610001 := zE_ HO_610001.out ho1 hb; replace HO_619001 := zE_ HO_619001.out ho1 hb; replace HO_629001 := zE_ HO_629001.out ho1 hb; replace HO_636001 := zE_ HO_636001.out ho1 hb; replace HO_645001 := zE_ HO_645001.out ho1 hb; replace HO_653001 := zE_ HO_653001.out ho1 hb; replace HO770 := zE_ HO770.out ho1 hb; replace BK609 := zB_ BK609.out hb; replace BK618 := zB_ BK618.out hb; replace BK628 := zB_ BK628.out hb; replace BK635 := zB_ BK635.out hb; replace BK644 := zB_ BK644.out hb; replace BK652 := zB_ BK652.out hb; replace HB := zA_ (below_step (zg6_ HB.out GE609.out GE618.out GE628.out GE635.out GE644.out GE652.out) hb); (try clear hb); (try clear hb2); (try clear hk); (try clear hi); (try clear ho0); (try clear ho1)))
                   go_roundg k2
                   case measure => have := HJ2.out; have := HK2.out; omega
                   case rel => exact ⟨(wrap64 (x19_2 + 1)), βLb, H', ⟨(by have := HJ2.out; have := HK2.out; omega)⟩, ⟨zr_ HO_10.out⟩, ⟨βMa⟩, ⟨βNa⟩, ⟨βOa⟩, ⟨βPa⟩, ⟨βQa⟩, ⟨βRa⟩, ⟨βSa⟩, ⟨βTa⟩, ⟨βUa⟩, ⟨βVa⟩, ⟨βWa⟩, ⟨βXa⟩, ⟨zb_ BK609.out⟩, ⟨zb_ BK618.out⟩, ⟨zb_ BK628.out⟩, ⟨zb_ BK635.out⟩, ⟨zb_ BK644.out⟩, ⟨zb_ BK652.out⟩, ⟨zg6_ HB.out GE609.out GE618.out GE628.out GE635.out GE644.out GE652.out⟩⟩
                 ·
                  rw [if_neg c123] at H
                  exact absurd H (by simp)
                ·
                 rw [if_neg c121] at H
                 have c121b0 : (x19_2 == t607) = false := beq_eq_false_iff_ne.mpr c121
                 have c121b1 : (x19_2 != t607) = true := bne_iff_ne.mpr c121
                 replace H := Option.bind_eq_some_iff.mp H
                 obtain ⟨⟨t781, t784, t787, t788⟩, A1370, H⟩ := H
                 (try dsimp -simprocs only at H)
                 have A137 := zA_ A1370
                 clear A1370
                 by_cases c138 : t787.toList = t771.toList
                 ·
                  rw [if_pos c138] at H
                  have c138b0 : (t787.toList == t771.toList) = true := beq_iff_eq.mpr c138
                  have c138b1 : (t787.toList != t771.toList) = false := bne_eq_false_iff_eq.mpr c138
                  clear c138
                  as_aux_lemma =>
                   have H' := zA_ H
                   clear H
                   have hnb139 := NB609_618.out
                   have hnc139 := NB618_609.out
                   have hnb140 := NB609_628.out
                   have hnc140 := NB628_609.out
                   have hnb141 := NB609_635.out
                   have hnc141 := NB635_609.out
                   have hnb142 := NB609_644.out
                   have hnc142 := NB644_609.out
                   have hnb143 := NB609_652.out
                   have hnc143 := NB652_609.out
                   have hcz144_0 := cz_ BK609.out 0 (.slice Ao40 t601.length co40) rfl
                   have hcz144_1 := cz_ BK609.out 1 (.slice Ao42 t604.length co42) rfl
                   have hfz144_0 := blk_frozen BK609.out 0
                   have hfz144_1 := blk_frozen BK609.out 1
                   go_wp2_with (first | ((with_reducible refine gate_callee (f := 19) rfl ?_); refine goesL_ (some 136) rfl rfl Try.func19 βPb rfl #[.agg #[.slice Ao40 t601.length co40, .slice Ao42 t604.length co42], .int .i64 x19_2] rfl zs_ ?_; (with_reducible refine (spec_FlashRead.calls k2 _ _ t601 _ _ t604 x19_2 t765 t768 t771 t772 _ ?side1 ?side2 ?side3 ?side4 A120.out).mono ?_); (case side1 => exact zc_ (Kd.R_reads' HO_610000.out).2.2); (case side2 => exact (Kd.R_reads' HO_610000.out).2.1); (case side3 => exact zc_ (Kd.R_reads' HO_610001.out).2.2); (case side4 => exact (Kd.R_reads' HO_610001.out).2.1); rintro e w145 ⟨v766, v769, rfl, ho0, ho1, hb⟩; refine ⟨_, rfl, ?_⟩; replace HO_10 := zR_ HO_10.out hb; have HO767 := zA_ (Kd.R_lower (Kd.R_new' (Kd.R_new' (Kd.R_new' (Kd.R_new' (Kd.R_new' (Kd.R_new' ho0 (Kd.R_lt (zr_ HO_610000.out))) (Kd.R_lt (zr_ HO_619000.out))) (Kd.R_lt (zr_ HO_629000.out))) (Kd.R_lt (zr_ HO_636000.out))) (Kd.R_lt (zr_ HO_645000.out))) (Kd.R_lt (zr_ HO_653000.out))) (below_size (zg6_ HB.out GE609.out GE618.out GE628.out GE635.out GE644.out GE652.out))); replace HO_610000 := zE_ HO_610000.out ho0 hb; replace HO_619000 := zE_ HO_619000.out ho0 hb; replace HO_629000 := zE_ HO_629000.out ho0 hb; replace HO_636000 := zE_ HO_636000.out ho0 hb; replace HO_645000 := zE_ HO_645000.out ho0 hb; replace HO_653000 := zE_ HO_653000.out ho0 hb; have HO770 := zA_ (Kd.R_lower (Kd.R_new' (Kd.R_new' (Kd.R_new' (Kd.R_new' (Kd.R_new' (Kd.R_new' ho1 (Kd.R_lt (zr_ HO_610001.out))) (Kd.R_lt (zr_ HO_619001.out))) (Kd.R_lt (zr_ HO_629001.out))) (Kd.R_lt (zr_ HO_636001.out))) (Kd.R_lt (zr_ HO_645001.out))) (Kd.R_lt (zr_ HO_653001.out))) (below_size (zg6_ HB.out GE609.out GE618.out GE628.out GE635.out GE644.out GE652.out))); replace HO_610001 := zE_ HO_610001.out ho1 hb; replace HO_619001 := zE_ HO_619001.out ho1 hb; replace HO_629001 := zE_ HO_629001.out ho1 hb; replace HO_636001 := zE_ HO_636001.out ho1 hb; replace HO_645001 := zE_ HO_645001.out ho1 hb; replace HO_653001 := zE_ HO_653001.out ho1 hb; replace BK609 := zB_ BK609.out hb; replace BK618 := zB_ BK618.out hb; replace BK628 := zB_ BK628.out hb; replace BK635 := zB_ BK635.out hb; replace BK644 := zB_ BK644.out hb; replace BK652 := zB_ BK652.out hb; replace HB := zA_ (below_step (zg6_ HB.out GE609.out GE618.out GE628.out GE635.out GE644.out GE652.out) hb); (try clear hb); (try clear hb2); (try clear hk); (try clear hi); (try clear ho0); (try clear ho1); have hnb146 := NB618_628.out; have hnc146 := NB628_618.out; have hnb147 := NB618_635.out; have hnc147 := NB635_618.out; have hnb148 := NB618_644.out; have hnc148 := NB644_618.out; have hnb149 := NB618_652.out; have hnc149 := NB652_618.out; have hcz150_0 := cz_ BK618.out 0 (.slice Ao45 t610.length co45) rfl; have hcz150_1 := cz_ BK618.out 1 (.slice Ao48 t613.length co48) rfl; have hcz150_2 := cz_ BK618.out 2 (.string t616) rfl; have hcz150_3 := cz_ BK618.out 3 (.int .i64 t617) rfl; have hfz150_0 := blk_frozen BK618.out 0; have hfz150_1 := blk_frozen BK618.out 1; have hfz150_2 := blk_frozen BK618.out 2; have hfz150_3 := blk_frozen BK618.out 3) | ((with_reducible refine gate_callee (f := 18) rfl ?_); refine goesL_ (some 145) rfl rfl Try.func18 βPb rfl #[.agg #[.slice Ao45 t610.length co45, .slice Ao48 t613.length co48], .int .i64 x19_2] rfl zs_ ?_; (with_reducible refine (impl_FlashRead.calls _ _ t610 _ _ t613 x19_2 t781 t784 t787 t788 _ ?side1 ?side2 ?side3 ?side4 A137.out).mono ?_); (case side1 => exact zc_ (Kd.R_reads' HO_619000.out).2.2); (case side2 => exact (Kd.R_reads' HO_619000.out).2.1); (case side3 => exact zc_ (Kd.R_reads' HO_619001.out).2.2); (case side4 => exact (Kd.R_reads' HO_619001.out).2.1); rintro e w151 ⟨v782, v785, rfl, ho0, ho1, hb⟩; refine ⟨_, rfl, ?_⟩; replace HO_10 := zR_ HO_10.out hb; have HO783 := zA_ (Kd.R_lower (Kd.R_new' (Kd.R_new' (Kd.R_new' (Kd.R_new' (Kd.R_new' (Kd.R_new' (Kd.R_new' ho0 (Kd.R_lt (zr_ HO_610000.out))) (Kd.R_lt (zr_ HO_619000.out))) (Kd.R_lt (zr_ HO_629000.out))) (Kd.R_lt (zr_ HO_636000.out))) (Kd.R_lt (zr_ HO_645000.out))) (Kd.R_lt (zr_ HO_653000.out))) (Kd.R_lt (zr_ HO767.out))) (below_size (zg6_ HB.out GE609.out GE618.out GE628.out GE635.out GE644.out GE652.out))); replace HO_610000 := zE_ HO_610000.out ho0 hb; replace HO_619000 := zE_ HO_619000.out ho0 hb; replace HO_629000 := zE_ HO_629000.out ho0 hb; replace HO_636000 := zE_ HO_636000.out ho0 hb; replace HO_645000 := zE_ HO_645000.out ho0 hb; replace HO_653000 := zE_ HO_653000.out ho0 hb; replace HO767 := zE_ HO767.out ho0 hb; have HO786 := zA_ (Kd.R_lower (Kd.R_new' (Kd.R_new' (Kd.R_new' (Kd.R_new' (Kd.R_new' (Kd.R_new' (Kd.R_new' ho1 (Kd.R_lt (zr_ HO_610001.out))) (Kd.R_lt (zr_ HO_619001.out))) (Kd.R_lt (zr_ HO_629001.out))) (Kd.R_lt (zr_ HO_636001.out))) (Kd.R_lt (zr_ HO_645001.out))) (Kd.R_lt (zr_ HO_653001.out))) (Kd.R_lt (zr_ HO770.out))) (below_size (zg6_ HB.out GE609.out GE618.out GE628.out GE635.out GE644.out GE652.out))); replace HO_610001 := zE_ HO_610001.out ho1 hb; replace HO_619001 := zE_ HO_619001.out ho1 hb; replace HO_629001 := zE_ HO_629001.out ho1 hb; replace HO_636001 := zE_ HO_636001.out ho1 hb; replace HO_645001 := zE_ HO_645001.out ho1 hb; replace HO_653001 := zE_ HO_653001.out ho1 hb; replace HO770 := zE_ HO770.out ho1 hb; replace BK609 := zB_ BK609.out hb; replace BK618 := zB_ BK618.out hb; replace BK628 := zB_ BK628.out hb; replace BK635 := zB_ BK635.out hb; replace BK644 := zB_ BK644.out hb; replace BK652 := zB_ BK652.out hb; replace HB := zA_ (below_step (zg6_ HB.out GE609.out GE618.out GE628.out GE635.out GE644.out GE652.out) hb); (try clear hb); (try clear hb2); (try clear hk); (try clear hi); (try clear ho0); (try clear ho1)))
                   go_roundg k2
                   case measure => have := HJ2.out; have := HK2.out; omega
                   case rel => exact ⟨(wrap64 (x19_2 + 1)), βLb, H', ⟨(by have := HJ2.out; have := HK2.out; omega)⟩, ⟨zr_ HO_10.out⟩, ⟨βMa⟩, ⟨βNa⟩, ⟨βOa⟩, ⟨βPa⟩, ⟨βQa⟩, ⟨βRa⟩, ⟨βSa⟩, ⟨βTa⟩, ⟨βUa⟩, ⟨βVa⟩, ⟨βWa⟩, ⟨βXa⟩, ⟨zb_ BK609.out⟩, ⟨zb_ BK618.out⟩, ⟨zb_ BK628.out⟩, ⟨zb_ BK635.out⟩, ⟨zb_ BK644.out⟩, ⟨zb_ BK652.out⟩, ⟨zg6_ HB.out GE609.out GE618.out GE628.out GE635.out GE644.out GE652.out⟩⟩
                 ·
                  rw [if_neg c138] at H
                  exact absurd H (by simp)
               ·
                rw [if_neg c119] at H
                have c119b0 : decide (x19_2 < (t601.length : Int)) = false := decide_eq_false c119
                clear c119
                as_aux_lemma =>
                 have H' := zA_ H
                 clear H
                 have hnb152 := NB609_618.out
                 have hnc152 := NB618_609.out
                 have hnb153 := NB609_628.out
                 have hnc153 := NB628_609.out
                 have hnb154 := NB609_635.out
                 have hnc154 := NB635_609.out
                 have hnb155 := NB609_644.out
                 have hnc155 := NB644_609.out
                 have hnb156 := NB609_652.out
                 have hnc156 := NB652_609.out
                 have hcz157_0 := cz_ BK609.out 0 (.slice Ao40 t601.length co40) rfl
                 have hcz157_1 := cz_ BK609.out 1 (.slice Ao42 t604.length co42) rfl
                 have hfz157_0 := blk_frozen BK609.out 0
                 have hfz157_1 := blk_frozen BK609.out 1
                 go_wp2
                 go_meet
                 case rel => exact ⟨_, H', ⟨(by have := HJ2.out; have := HK2.out; first | omega | exact Nat.le_refl _)⟩, ⟨zr_ HO_10.out⟩, ⟨zr_ HO_610000.out⟩, ⟨zr_ HO_610001.out⟩, ⟨zr_ HO_619000.out⟩, ⟨zr_ HO_619001.out⟩, ⟨zr_ HO_629000.out⟩, ⟨zr_ HO_629001.out⟩, ⟨zr_ HO_636000.out⟩, ⟨zr_ HO_636001.out⟩, ⟨zr_ HO_645000.out⟩, ⟨zr_ HO_645001.out⟩, ⟨zr_ HO_653000.out⟩, ⟨zr_ HO_653001.out⟩, ⟨zb_ BK609.out⟩, ⟨zb_ BK618.out⟩, ⟨zb_ BK628.out⟩, ⟨zb_ BK635.out⟩, ⟨zb_ BK644.out⟩, ⟨zb_ BK652.out⟩, ⟨zg6_ HB.out GE609.out GE618.out GE628.out GE635.out GE644.out GE652.out⟩⟩
            ·
             rw [if_neg c118] at H
             have c118b0 : (t617 == 0) = false := beq_eq_false_iff_ne.mpr c118
             have c118b1 : (t617 != 0) = true := bne_iff_ne.mpr c118
             (first | rw [c118b0] | (simp only [i64_w, i32_w]; rw [c118b0]) | skip)
             as_aux_lemma =>
              have H' := zA_ H
              clear H
              go_wp2
              go_meet
              case rel => exact ⟨_, H', ⟨(by have := HJ2.out; first | omega | exact Nat.le_refl _)⟩, ⟨zr_ HO627.out⟩, ⟨βX⟩, ⟨βY⟩, ⟨βZ⟩, ⟨βaa⟩, ⟨βba⟩, ⟨βca⟩, ⟨βda⟩, ⟨βea⟩, ⟨βfa⟩, ⟨βga⟩, ⟨βha⟩, ⟨βia⟩, ⟨zb_ BK609.out⟩, ⟨zb_ BK618.out⟩, ⟨zb_ BK628.out⟩, ⟨zb_ BK635.out⟩, ⟨zb_ BK644.out⟩, ⟨zb_ BK652.out⟩, ⟨zg6_ HB.out GE609.out GE618.out GE628.out GE635.out GE644.out GE652.out⟩⟩
           case rest =>
            clear HC37
            try clear c1
            try clear c2
            try clear p2
            try clear p6
            try clear c11
            try clear c12
            try clear c13
            try clear c14
            try clear c15
            try clear c18
            try clear c19
            try clear c22
            try clear c23
            try clear c24
            try clear c25
            try clear p64
            try clear c118
            try clear c118b0
            try clear c118b1
            try clear c119
            try clear c119b0
            try clear c121
            try clear c121b0
            try clear c121b1
            try clear c123
            try clear c123b0
            try clear c123b1
            try clear c124
            try clear c125
            try clear c126
            try clear c127
            try clear c128
            try clear c131
            try clear c132
            try clear c133
            try clear c134
            try clear c138
            try clear c138b0
            try clear c138b1
            try clear c139
            try clear c140
            try clear c141
            try clear c142
            try clear c143
            try clear c146
            try clear c147
            try clear c148
            try clear c149
            try clear c152
            try clear c153
            try clear c154
            try clear c155
            try clear c156
            try clear hcz117_0
            try clear hcz117_1
            try clear hcz117_2
            try clear hcz117_3
            try clear hcz129_0
            try clear hcz129_1
            try clear hcz135_0
            try clear hcz135_1
            try clear hcz135_2
            try clear hcz135_3
            try clear hcz144_0
            try clear hcz144_1
            try clear hcz150_0
            try clear hcz150_1
            try clear hcz150_2
            try clear hcz150_3
            try clear hcz157_0
            try clear hcz157_1
            try clear hfz117_0
            try clear hfz117_1
            try clear hfz117_2
            try clear hfz117_3
            try clear hfz129_0
            try clear hfz129_1
            try clear hfz135_0
            try clear hfz135_1
            try clear hfz135_2
            try clear hfz135_3
            try clear hfz144_0
            try clear hfz144_1
            try clear hfz150_0
            try clear hfz150_1
            try clear hfz150_2
            try clear hfz150_3
            try clear hfz157_0
            try clear hfz157_1
            try clear p2
            obtain ⟨kq, HA, HJ36, HO_10, HO_610000, HO_610001, HO_619000, HO_619001, HO_629000, HO_629001, HO_636000, HO_636001, HO_645000, HO_645001, HO_653000, HO_653001, BK609, BK618, BK628, BK635, BK644, BK652, HB⟩ := hcut
            cases kq with
            | zero => exact absurd HA.out (by simp [laws_FnFlash.j2])
            | succ kj36 =>
             have H := HA.out
             clear HA
             simp only [laws_FnFlash.j2] at H
             by_cases c158 : t643 = 0
             ·
              rw [if_pos c158] at H
              have c158b0 : (t643 == 0) = true := beq_iff_eq.mpr c158
              have c158b1 : (t643 != 0) = false := bne_eq_false_iff_eq.mpr c158
              clear c158
              replace H := Option.bind_eq_some_iff.mp H
              obtain ⟨⟨t789, t792⟩, A1590, H⟩ := H
              (try dsimp -simprocs only at H)
              have A159 := zA_ A1590
              clear A1590
              have H' := zA_ H
              clear H
              have hnb160 := NB644_609.out
              have hnc160 := NB609_644.out
              have hnb161 := NB644_618.out
              have hnc161 := NB618_644.out
              have hnb162 := NB644_628.out
              have hnc162 := NB628_644.out
              have hnb163 := NB644_635.out
              have hnc163 := NB635_644.out
              have hnb164 := NB644_652.out
              have hnc164 := NB652_644.out
              have hcz165_0 := cz_ BK644.out 0 (.slice Ao68 t636.length co68) rfl
              have hcz165_1 := cz_ BK644.out 1 (.slice Ao74 t639.length co74) rfl
              have hcz165_2 := cz_ BK644.out 2 (.string t642) rfl
              have hcz165_3 := cz_ BK644.out 3 (.int .i64 t643) rfl
              have hfz165_0 := blk_frozen BK644.out 0
              have hfz165_1 := blk_frozen BK644.out 1
              have hfz165_2 := blk_frozen BK644.out 2
              have hfz165_3 := blk_frozen BK644.out 3
              go_wp2_with (first | ((with_reducible refine gate_callee (f := 8) rfl ?_); refine goesL_ (some 155) rfl rfl Try.func8 βPb rfl #[.agg #[.slice Ao68 t636.length co68, .slice Ao74 t639.length co74], .slice Ao56 t625.length co56] rfl zs_ ?_; (with_reducible refine (impl_FlashCrash.calls _ _ t636 _ _ t639 _ _ t625 t789 t792 _ ?side1 ?side2 ?side3 ?side4 ?side5 ?side6 A159.out).mono ?_); (case side1 => exact zc_ (Kd.R_reads' HO_645000.out).2.2); (case side2 => exact (Kd.R_reads' HO_645000.out).2.1); (case side3 => exact zc_ (Kd.R_reads' HO_645001.out).2.2); (case side4 => exact (Kd.R_reads' HO_645001.out).2.1); (case side5 => exact zc_ (Kd.R_reads' HO_10.out).2.2); (case side6 => exact (Kd.R_reads' HO_10.out).2.1); rintro e w166 ⟨v790, v793, rfl, ho0, ho1, hb⟩; refine ⟨_, rfl, ?_⟩; replace HO_10 := zR_ HO_10.out hb; have HO791 := zA_ (Kd.R_lower (Kd.R_new' (Kd.R_new' (Kd.R_new' (Kd.R_new' (Kd.R_new' (Kd.R_new' ho0 (Kd.R_lt (zr_ HO_610000.out))) (Kd.R_lt (zr_ HO_619000.out))) (Kd.R_lt (zr_ HO_629000.out))) (Kd.R_lt (zr_ HO_636000.out))) (Kd.R_lt (zr_ HO_645000.out))) (Kd.R_lt (zr_ HO_653000.out))) (below_size (zg6_ HB.out GE609.out GE618.out GE628.out GE635.out GE644.out GE652.out))); replace HO_610000 := zE_ HO_610000.out ho0 hb; replace HO_619000 := zE_ HO_619000.out ho0 hb; replace HO_629000 := zE_ HO_629000.out ho0 hb; replace HO_636000 := zE_ HO_636000.out ho0 hb; replace HO_645000 := zE_ HO_645000.out ho0 hb; replace HO_653000 := zE_ HO_653000.out ho0 hb; have HO794 := zA_ (Kd.R_lower (Kd.R_new' (Kd.R_new' (Kd.R_new' (Kd.R_new' (Kd.R_new' (Kd.R_new' ho1 (Kd.R_lt (zr_ HO_610001.out))) (Kd.R_lt (zr_ HO_619001.out))) (Kd.R_lt (zr_ HO_629001.out))) (Kd.R_lt (zr_ HO_636001.out))) (Kd.R_lt (zr_ HO_645001.out))) (Kd.R_lt (zr_ HO_653001.out))) (below_size (zg6_ HB.out GE609.out GE618.out GE628.out GE635.out GE644.out GE652.out))); replace HO_610001 := zE_ HO_610001.out ho1 hb; replace HO_619001 := zE_ HO_619001.out ho1 hb; replace HO_629001 := zE_ HO_629001.out ho1 hb; replace HO_636001 := zE_ HO_636001.out ho1 hb; replace HO_645001 := zE_ HO_645001.out ho1 hb; replace HO_653001 := zE_ HO_653001.out ho1 hb; replace BK609 := zB_ BK609.out hb; replace BK618 := zB_ BK618.out hb; replace BK628 := zB_ BK628.out hb; replace BK635 := zB_ BK635.out hb; replace BK644 := zB_ BK644.out hb; replace BK652 := zB_ BK652.out hb; replace HB := zA_ (below_step (zg6_ HB.out GE609.out GE618.out GE628.out GE635.out GE644.out GE652.out) hb); (try clear hb); (try clear hb2); (try clear hk); (try clear hi); (try clear ho0); (try clear ho1)) | ((with_reducible refine gate_dst (N := 21) rfl ?_); (try (refine gate_guard (by rfl) ?_; dsimp only)); refine box_event ?hg (N := 21) ?hd (cs := #[.slice none 0 0, .slice none 0 0]) (t := 26) ?hr ?_; (case hd => exact (by rfl)); (case hg => exact (by rfl)); (case hr => exact βMb); intro gb795 hg w167 hbox hb; replace HO_10 := zR_ HO_10.out hb; replace HO_610000 := zR_ HO_610000.out hb; replace HO_610001 := zR_ HO_610001.out hb; replace HO_619000 := zR_ HO_619000.out hb; replace HO_619001 := zR_ HO_619001.out hb; replace HO_629000 := zR_ HO_629000.out hb; replace HO_629001 := zR_ HO_629001.out hb; replace HO_636000 := zR_ HO_636000.out hb; replace HO_636001 := zR_ HO_636001.out hb; replace HO_645000 := zR_ HO_645000.out hb; replace HO_645001 := zR_ HO_645001.out hb; replace HO_653000 := zR_ HO_653000.out hb; replace HO_653001 := zR_ HO_653001.out hb; replace HO791 := zR_ HO791.out hb; replace HO794 := zR_ HO794.out hb; have BK795 := zA_ (hbox); have GW795 := zA_ ((by rw [hg]; exact (below_size (zg6_ HB.out GE609.out GE618.out GE628.out GE635.out GE644.out GE652.out)) : w.heap.size ≤ gb795)); have GE795 := zA_ ((by rw [hg]; exact (below_size (zg6_ HB.out GE609.out GE618.out GE628.out GE635.out GE644.out GE652.out)) : w.heap.size ≤ gb795)); replace HB := zA_ (below_step (zg6_ HB.out GE609.out GE618.out GE628.out GE635.out GE644.out GE652.out) hb); have NB609_795 := zA_ ((by rw [hg]; exact Nat.ne_of_lt (blk_lt (g := gb609) (o := .cells #[.slice Ao40 t601.length co40, .slice Ao42 t604.length co42] 26 (0, 0)) (zb_ BK609.out)) : gb609 ≠ gb795)); have NB795_609 := zA_ ((by rw [hg]; exact Nat.ne_of_gt (blk_lt (g := gb609) (o := .cells #[.slice Ao40 t601.length co40, .slice Ao42 t604.length co42] 26 (0, 0)) (zb_ BK609.out)) : gb795 ≠ gb609)); replace BK609 := zB_ BK609.out hb; have NB618_795 := zA_ ((by rw [hg]; exact Nat.ne_of_lt (blk_lt (g := gb618) (o := .cells #[.slice Ao45 t610.length co45, .slice Ao48 t613.length co48, .string t616, .int .i64 t617] 30 (0, 0)) (zb_ BK618.out)) : gb618 ≠ gb795)); have NB795_618 := zA_ ((by rw [hg]; exact Nat.ne_of_gt (blk_lt (g := gb618) (o := .cells #[.slice Ao45 t610.length co45, .slice Ao48 t613.length co48, .string t616, .int .i64 t617] 30 (0, 0)) (zb_ BK618.out)) : gb795 ≠ gb618)); replace BK618 := zB_ BK618.out hb; have NB628_795 := zA_ ((by rw [hg]; exact Nat.ne_of_lt (blk_lt (g := gb628) (o := .cells #[.slice Ao51 t619.length co51, .slice Ao55 t622.length co55] 26 (0, 0)) (zb_ BK628.out)) : gb628 ≠ gb795)); have NB795_628 := zA_ ((by rw [hg]; exact Nat.ne_of_gt (blk_lt (g := gb628) (o := .cells #[.slice Ao51 t619.length co51, .slice Ao55 t622.length co55] 26 (0, 0)) (zb_ BK628.out)) : gb795 ≠ gb628)); replace BK628 := zB_ BK628.out hb; have NB635_795 := zA_ ((by rw [hg]; exact Nat.ne_of_lt (blk_lt (g := gb635) (o := .cells #[.slice Ao59 t629.length co59, .slice Ao64 t632.length co64] 26 (0, 0)) (zb_ BK635.out)) : gb635 ≠ gb795)); have NB795_635 := zA_ ((by rw [hg]; exact Nat.ne_of_gt (blk_lt (g := gb635) (o := .cells #[.slice Ao59 t629.length co59, .slice Ao64 t632.length co64] 26 (0, 0)) (zb_ BK635.out)) : gb795 ≠ gb635)); replace BK635 := zB_ BK635.out hb; have NB644_795 := zA_ ((by rw [hg]; exact Nat.ne_of_lt (blk_lt (g := gb644) (o := .cells #[.slice Ao68 t636.length co68, .slice Ao74 t639.length co74, .string t642, .int .i64 t643] 30 (0, 0)) (zb_ BK644.out)) : gb644 ≠ gb795)); have NB795_644 := zA_ ((by rw [hg]; exact Nat.ne_of_gt (blk_lt (g := gb644) (o := .cells #[.slice Ao68 t636.length co68, .slice Ao74 t639.length co74, .string t642, .int .i64 t643] 30 (0, 0)) (zb_ BK644.out)) : gb795 ≠ gb644)); replace BK644 := zB_ BK644.out hb; have NB652_795 := zA_ ((by rw [hg]; exact Nat.ne_of_lt (blk_lt (g := gb652) (o := .cells #[.slice Ao77 t645.length co77, .slice Ao84 t648.length co84] 26 (0, 0)) (zb_ BK652.out)) : gb652 ≠ gb795)); have NB795_652 := zA_ ((by rw [hg]; exact Nat.ne_of_gt (blk_lt (g := gb652) (o := .cells #[.slice Ao77 t645.length co77, .slice Ao84 t648.length co84] 26 (0, 0)) (zb_ BK652.out)) : gb795 ≠ gb652)); replace BK652 := zB_ BK652.out hb; clear hb hbox hg; obtain ⟨Ao168, co168, eo168⟩ := Kd.R_slice HO791.out; subst eo168; have hnb169 := NB795_609.out; have hnc169 := NB609_795.out; have hnb170 := NB795_618.out; have hnc170 := NB618_795.out; have hnb171 := NB795_628.out; have hnc171 := NB628_795.out; have hnb172 := NB795_635.out; have hnc172 := NB635_795.out; have hnb173 := NB795_644.out; have hnc173 := NB644_795.out; have hnb174 := NB795_652.out; have hnc174 := NB652_795.out; have hcz175_0 := cz_ BK795.out 0 (.slice none 0 0) rfl; have hcz175_1 := cz_ BK795.out 1 (.slice none 0 0) rfl; have hfz175_0 := blk_frozen BK795.out 0; have hfz175_1 := blk_frozen BK795.out 1; obtain ⟨Ao176, co176, eo176⟩ := Kd.R_slice HO794.out; subst eo176))
              go_loopg [22] kj36 (fun kq v22 w' => ∃ (x22_3 : Int), v22 = .int .i64 x22_3 ∧ Aside0 (laws_FnFlash.l1 kq x22_3 t619 t622 t629 t632 t636 t639 t642 t643 t789 t792 = some r) ∧ Aside0 (kq ≤ kj36) ∧ Aside0 (Kd.R Kd.string 9 w' w.heap.size (fun k_ => some k_ ≠ ((.slice Ao45 t610.length co45) : Value).ownBlock ∧ some k_ ≠ ((.slice Ao51 t619.length co51) : Value).ownBlock ∧ some k_ ≠ ((.slice Ao59 t629.length co59) : Value).ownBlock ∧ some k_ ≠ ((.slice Ao68 t636.length co68) : Value).ownBlock ∧ some k_ ≠ ((.slice Ao77 t645.length co77) : Value).ownBlock ∧ some k_ ≠ ((.slice Ao168 t789.length co168) : Value).ownBlock) (.slice Ao40 t601.length co40) t601) ∧ Aside0 (Kd.R k83 83 w' w.heap.size (fun k_ => some k_ ≠ ((.slice Ao48 t613.length co48) : Value).ownBlock ∧ some k_ ≠ ((.slice Ao55 t622.length co55) : Value).ownBlock ∧ some k_ ≠ ((.slice Ao64 t632.length co64) : Value).ownBlock ∧ some k_ ≠ ((.slice Ao74 t639.length co74) : Value).ownBlock ∧ some k_ ≠ ((.slice Ao84 t648.length co84) : Value).ownBlock ∧ some k_ ≠ ((.slice Ao176 t792.length co176) : Value).ownBlock) (.slice Ao42 t604.length co42) t604) ∧ Aside0 (Kd.R Kd.string 9 w' w.heap.size (fun k_ => some k_ ≠ ((.slice Ao40 t601.length co40) : Value).ownBlock ∧ some k_ ≠ ((.slice Ao51 t619.length co51) : Value).ownBlock ∧ some k_ ≠ ((.slice Ao59 t629.length co59) : Value).ownBlock ∧ some k_ ≠ ((.slice Ao68 t636.length co68) : Value).ownBlock ∧ some k_ ≠ ((.slice Ao77 t645.length co77) : Value).ownBlock ∧ some k_ ≠ ((.slice Ao168 t789.length co168) : Value).ownBlock) (.slice Ao45 t610.length co45) t610) ∧ Aside0 (Kd.R k83 83 w' w.heap.size (fun k_ => some k_ ≠ ((.slice Ao42 t604.length co42) : Value).ownBlock ∧ some k_ ≠ ((.slice Ao55 t622.length co55) : Value).ownBlock ∧ some k_ ≠ ((.slice Ao64 t632.length co64) : Value).ownBlock ∧ some k_ ≠ ((.slice Ao74 t639.length co74) : Value).ownBlock ∧ some k_ ≠ ((.slice Ao84 t648.length co84) : Value).ownBlock ∧ some k_ ≠ ((.slice Ao176 t792.length co176) : Value).ownBlock) (.slice Ao48 t613.length co48) t613) ∧ Aside0 (Kd.R Kd.string 9 w' w.heap.size (fun k_ => some k_ ≠ ((.slice Ao40 t601.length co40) : Value).ownBlock ∧ some k_ ≠ ((.slice Ao45 t610.length co45) : Value).ownBlock ∧ some k_ ≠ ((.slice Ao59 t629.length co59) : Value).ownBlock ∧ some k_ ≠ ((.slice Ao68 t636.length co68) : Value).ownBlock ∧ some k_ ≠ ((.slice Ao77 t645.length co77) : Value).ownBlock ∧ some k_ ≠ ((.slice Ao168 t789.length co168) : Value).ownBlock) (.slice Ao51 t619.length co51) t619) ∧ Aside0 (Kd.R k83 83 w' w.heap.size (fun k_ => some k_ ≠ ((.slice Ao42 t604.length co42) : Value).ownBlock ∧ some k_ ≠ ((.slice Ao48 t613.length co48) : Value).ownBlock ∧ some k_ ≠ ((.slice Ao64 t632.length co64) : Value).ownBlock ∧ some k_ ≠ ((.slice Ao74 t639.length co74) : Value).ownBlock ∧ some k_ ≠ ((.slice Ao84 t648.length co84) : Value).ownBlock ∧ some k_ ≠ ((.slice Ao176 t792.length co176) : Value).ownBlock) (.slice Ao55 t622.length co55) t622) ∧ Aside0 (Kd.R Kd.string 9 w' w.heap.size (fun k_ => some k_ ≠ ((.slice Ao40 t601.length co40) : Value).ownBlock ∧ some k_ ≠ ((.slice Ao45 t610.length co45) : Value).ownBlock ∧ some k_ ≠ ((.slice Ao51 t619.length co51) : Value).ownBlock ∧ some k_ ≠ ((.slice Ao68 t636.length co68) : Value).ownBlock ∧ some k_ ≠ ((.slice Ao77 t645.length co77) : Value).ownBlock ∧ some k_ ≠ ((.slice Ao168 t789.length co168) : Value).ownBlock) (.slice Ao59 t629.length co59) t629) ∧ Aside0 (Kd.R k83 83 w' w.heap.size (fun k_ => some k_ ≠ ((.slice Ao42 t604.length co42) : Value).ownBlock ∧ some k_ ≠ ((.slice Ao48 t613.length co48) : Value).ownBlock ∧ some k_ ≠ ((.slice Ao55 t622.length co55) : Value).ownBlock ∧ some k_ ≠ ((.slice Ao74 t639.length co74) : Value).ownBlock ∧ some k_ ≠ ((.slice Ao84 t648.length co84) : Value).ownBlock ∧ some k_ ≠ ((.slice Ao176 t792.length co176) : Value).ownBlock) (.slice Ao64 t632.length co64) t632) ∧ Aside0 (Kd.R Kd.string 9 w' w.heap.size (fun k_ => some k_ ≠ ((.slice Ao40 t601.length co40) : Value).ownBlock ∧ some k_ ≠ ((.slice Ao45 t610.length co45) : Value).ownBlock ∧ some k_ ≠ ((.slice Ao51 t619.length co51) : Value).ownBlock ∧ some k_ ≠ ((.slice Ao59 t629.length co59) : Value).ownBlock ∧ some k_ ≠ ((.slice Ao77 t645.length co77) : Value).ownBlock ∧ some k_ ≠ ((.slice Ao168 t789.length co168) : Value).ownBlock) (.slice Ao68 t636.length co68) t636) ∧ Aside0 (Kd.R k83 83 w' w.heap.size (fun k_ => some k_ ≠ ((.slice Ao42 t604.length co42) : Value).ownBlock ∧ some k_ ≠ ((.slice Ao48 t613.length co48) : Value).ownBlock ∧ some k_ ≠ ((.slice Ao55 t622.length co55) : Value).ownBlock ∧ some k_ ≠ ((.slice Ao64 t632.length co64) : Value).ownBlock ∧ some k_ ≠ ((.slice Ao84 t648.length co84) : Value).ownBlock ∧ some k_ ≠ ((.slice Ao176 t792.length co176) : Value).ownBlock) (.slice Ao74 t639.length co74) t639) ∧ Aside0 (Kd.R Kd.string 9 w' w.heap.size (fun k_ => some k_ ≠ ((.slice Ao40 t601.length co40) : Value).ownBlock ∧ some k_ ≠ ((.slice Ao45 t610.length co45) : Value).ownBlock ∧ some k_ ≠ ((.slice Ao51 t619.length co51) : Value).ownBlock ∧ some k_ ≠ ((.slice Ao59 t629.length co59) : Value).ownBlock ∧ some k_ ≠ ((.slice Ao68 t636.length co68) : Value).ownBlock ∧ some k_ ≠ ((.slice Ao168 t789.length co168) : Value).ownBlock) (.slice Ao77 t645.length co77) t645) ∧ Aside0 (Kd.R k83 83 w' w.heap.size (fun k_ => some k_ ≠ ((.slice Ao42 t604.length co42) : Value).ownBlock ∧ some k_ ≠ ((.slice Ao48 t613.length co48) : Value).ownBlock ∧ some k_ ≠ ((.slice Ao55 t622.length co55) : Value).ownBlock ∧ some k_ ≠ ((.slice Ao64 t632.length co64) : Value).ownBlock ∧ some k_ ≠ ((.slice Ao74 t639.length co74) : Value).ownBlock ∧ some k_ ≠ ((.slice Ao176 t792.length co176) : Value).ownBlock) (.slice Ao84 t648.length co84) t648) ∧ Aside0 (Kd.R Kd.string 9 w' w.heap.size (fun k_ => some k_ ≠ ((.slice Ao40 t601.length co40) : Value).ownBlock ∧ some k_ ≠ ((.slice Ao45 t610.length co45) : Value).ownBlock ∧ some k_ ≠ ((.slice Ao51 t619.length co51) : Value).ownBlock ∧ some k_ ≠ ((.slice Ao59 t629.length co59) : Value).ownBlock ∧ some k_ ≠ ((.slice Ao68 t636.length co68) : Value).ownBlock ∧ some k_ ≠ ((.slice Ao77 t645.length co77) : Value).ownBlock) (.slice Ao168 t789.length co168) t789) ∧ Aside0 (Kd.R k83 83 w' w.heap.size (fun k_ => some k_ ≠ ((.slice Ao42 t604.length co42) : Value).ownBlock ∧ some k_ ≠ ((.slice Ao48 t613.length co48) : Value).ownBlock ∧ some k_ ≠ ((.slice Ao55 t622.length co55) : Value).ownBlock ∧ some k_ ≠ ((.slice Ao64 t632.length co64) : Value).ownBlock ∧ some k_ ≠ ((.slice Ao74 t639.length co74) : Value).ownBlock ∧ some k_ ≠ ((.slice Ao84 t648.length co84) : Value).ownBlock) (.slice Ao176 t792.length co176) t792) ∧ Aside0 (w'.heap[gb609]? = some (.cells #[(.slice Ao40 t601.length co40), (.slice Ao42 t604.length co42)] 26 (0, 0))) ∧ Aside0 (w'.heap[gb618]? = some (.cells #[(.slice Ao45 t610.length co45), (.slice Ao48 t613.length co48), .string t616, .int .i64 t617] 30 (0, 0))) ∧ Aside0 (w'.heap[gb628]? = some (.cells #[(.slice Ao51 t619.length co51), (.slice Ao55 t622.length co55)] 26 (0, 0))) ∧ Aside0 (w'.heap[gb635]? = some (.cells #[(.slice Ao59 t629.length co59), (.slice Ao64 t632.length co64)] 26 (0, 0))) ∧ Aside0 (w'.heap[gb644]? = some (.cells #[(.slice Ao68 t636.length co68), (.slice Ao74 t639.length co74), .string t642, .int .i64 t643] 30 (0, 0))) ∧ Aside0 (w'.heap[gb652]? = some (.cells #[(.slice Ao77 t645.length co77), (.slice Ao84 t648.length co84)] 26 (0, 0))) ∧ Aside0 (w'.heap[gb795]? = some (.cells #[(.slice Ao168 t789.length co168), (.slice Ao176 t792.length co176)] 26 (0, 0))) ∧ Aside0 (Below w.heap.size w w'))
              case atStart => exact ⟨(0), βLb, H', ⟨Nat.le_refl _⟩, ⟨(by (with_reducible repeat (first | apply Kd.R_alloc | apply Kd.R_drewN | apply Kd.R_drew)); exact Kd.R_mono (Kd.R_far (p := ⟨gb795, 1, none⟩) (Kd.R_far (p := ⟨gb795, 0, none⟩) (Kd.R_types HO_610000.out BK795.out (by decide)) (fun _ hk => hk.2) (.slice Ao168 t789.length co168)) (fun _ hk => hk.2) (.slice Ao176 t792.length co176)) (fun _ hk => ⟨hk.1.1.1, ⟨hk.1.1.2.1, ⟨hk.1.1.2.2.1, ⟨hk.1.1.2.2.2.1, ⟨hk.1.1.2.2.2.2, hk.1.2⟩⟩⟩⟩⟩))⟩, ⟨(by (with_reducible repeat (first | apply Kd.R_alloc | apply Kd.R_drewN | apply Kd.R_drew)); exact Kd.R_mono (Kd.R_far (p := ⟨gb795, 1, none⟩) (Kd.R_far (p := ⟨gb795, 0, none⟩) (Kd.R_types HO_610001.out BK795.out (by decide)) (fun _ hk => hk.2) (.slice Ao168 t789.length co168)) (fun _ hk => hk.2) (.slice Ao176 t792.length co176)) (fun _ hk => ⟨hk.1.1.1, ⟨hk.1.1.2.1, ⟨hk.1.1.2.2.1, ⟨hk.1.1.2.2.2.1, ⟨hk.1.1.2.2.2.2, hk.1.2⟩⟩⟩⟩⟩))⟩, ⟨(by (with_reducible repeat (first | apply Kd.R_alloc | apply Kd.R_drewN | apply Kd.R_drew)); exact Kd.R_mono (Kd.R_far (p := ⟨gb795, 1, none⟩) (Kd.R_far (p := ⟨gb795, 0, none⟩) (Kd.R_types HO_619000.out BK795.out (by decide)) (fun _ hk => hk.2) (.slice Ao168 t789.length co168)) (fun _ hk => hk.2) (.slice Ao176 t792.length co176)) (fun _ hk => ⟨hk.1.1.1, ⟨hk.1.1.2.1, ⟨hk.1.1.2.2.1, ⟨hk.1.1.2.2.2.1, ⟨hk.1.1.2.2.2.2, hk.1.2⟩⟩⟩⟩⟩))⟩, ⟨(by (with_reducible repeat (first | apply Kd.R_alloc | apply Kd.R_drewN | apply Kd.R_drew)); exact Kd.R_mono (Kd.R_far (p := ⟨gb795, 1, none⟩) (Kd.R_far (p := ⟨gb795, 0, none⟩) (Kd.R_types HO_619001.out BK795.out (by decide)) (fun _ hk => hk.2) (.slice Ao168 t789.length co168)) (fun _ hk => hk.2) (.slice Ao176 t792.length co176)) (fun _ hk => ⟨hk.1.1.1, ⟨hk.1.1.2.1, ⟨hk.1.1.2.2.1, ⟨hk.1.1.2.2.2.1, ⟨hk.1.1.2.2.2.2, hk.1.2⟩⟩⟩⟩⟩))⟩, ⟨(by (with_reducible repeat (first | apply Kd.R_alloc | apply Kd.R_drewN | apply Kd.R_drew)); exact Kd.R_mono (Kd.R_far (p := ⟨gb795, 1, none⟩) (Kd.R_far (p := ⟨gb795, 0, none⟩) (Kd.R_types HO_629000.out BK795.out (by decide)) (fun _ hk => hk.2) (.slice Ao168 t789.length co168)) (fun _ hk => hk.2) (.slice Ao176 t792.length co176)) (fun _ hk => ⟨hk.1.1.1, ⟨hk.1.1.2.1, ⟨hk.1.1.2.2.1, ⟨hk.1.1.2.2.2.1, ⟨hk.1.1.2.2.2.2, hk.1.2⟩⟩⟩⟩⟩))⟩, ⟨(by (with_reducible repeat (first | apply Kd.R_alloc | apply Kd.R_drewN | apply Kd.R_drew)); exact Kd.R_mono (Kd.R_far (p := ⟨gb795, 1, none⟩) (Kd.R_far (p := ⟨gb795, 0, none⟩) (Kd.R_types HO_629001.out BK795.out (by decide)) (fun _ hk => hk.2) (.slice Ao168 t789.length co168)) (fun _ hk => hk.2) (.slice Ao176 t792.length co176)) (fun _ hk => ⟨hk.1.1.1, ⟨hk.1.1.2.1, ⟨hk.1.1.2.2.1, ⟨hk.1.1.2.2.2.1, ⟨hk.1.1.2.2.2.2, hk.1.2⟩⟩⟩⟩⟩))⟩, ⟨(by (with_reducible repeat (first | apply Kd.R_alloc | apply Kd.R_drewN | apply Kd.R_drew)); exact Kd.R_mono (Kd.R_far (p := ⟨gb795, 1, none⟩) (Kd.R_far (p := ⟨gb795, 0, none⟩) (Kd.R_types HO_636000.out BK795.out (by decide)) (fun _ hk => hk.2) (.slice Ao168 t789.length co168)) (fun _ hk => hk.2) (.slice Ao176 t792.length co176)) (fun _ hk => ⟨hk.1.1.1, ⟨hk.1.1.2.1, ⟨hk.1.1.2.2.1, ⟨hk.1.1.2.2.2.1, ⟨hk.1.1.2.2.2.2, hk.1.2⟩⟩⟩⟩⟩))⟩, ⟨(by (with_reducible repeat (first | apply Kd.R_alloc | apply Kd.R_drewN | apply Kd.R_drew)); exact Kd.R_mono (Kd.R_far (p := ⟨gb795, 1, none⟩) (Kd.R_far (p := ⟨gb795, 0, none⟩) (Kd.R_types HO_636001.out BK795.out (by decide)) (fun _ hk => hk.2) (.slice Ao168 t789.length co168)) (fun _ hk => hk.2) (.slice Ao176 t792.length co176)) (fun _ hk => ⟨hk.1.1.1, ⟨hk.1.1.2.1, ⟨hk.1.1.2.2.1, ⟨hk.1.1.2.2.2.1, ⟨hk.1.1.2.2.2.2, hk.1.2⟩⟩⟩⟩⟩))⟩, ⟨(by (with_reducible repeat (first | apply Kd.R_alloc | apply Kd.R_drewN | apply Kd.R_drew)); exact Kd.R_mono (Kd.R_far (p := ⟨gb795, 1, none⟩) (Kd.R_far (p := ⟨gb795, 0, none⟩) (Kd.R_types HO_645000.out BK795.out (by decide)) (fun _ hk => hk.2) (.slice Ao168 t789.length co168)) (fun _ hk => hk.2) (.slice Ao176 t792.length co176)) (fun _ hk => ⟨hk.1.1.1, ⟨hk.1.1.2.1, ⟨hk.1.1.2.2.1, ⟨hk.1.1.2.2.2.1, ⟨hk.1.1.2.2.2.2, hk.1.2⟩⟩⟩⟩⟩))⟩, ⟨(by (with_reducible repeat (first | apply Kd.R_alloc | apply Kd.R_drewN | apply Kd.R_drew)); exact Kd.R_mono (Kd.R_far (p := ⟨gb795, 1, none⟩) (Kd.R_far (p := ⟨gb795, 0, none⟩) (Kd.R_types HO_645001.out BK795.out (by decide)) (fun _ hk => hk.2) (.slice Ao168 t789.length co168)) (fun _ hk => hk.2) (.slice Ao176 t792.length co176)) (fun _ hk => ⟨hk.1.1.1, ⟨hk.1.1.2.1, ⟨hk.1.1.2.2.1, ⟨hk.1.1.2.2.2.1, ⟨hk.1.1.2.2.2.2, hk.1.2⟩⟩⟩⟩⟩))⟩, ⟨(by (with_reducible repeat (first | apply Kd.R_alloc | apply Kd.R_drewN | apply Kd.R_drew)); exact Kd.R_mono (Kd.R_far (p := ⟨gb795, 1, none⟩) (Kd.R_far (p := ⟨gb795, 0, none⟩) (Kd.R_types HO_653000.out BK795.out (by decide)) (fun _ hk => hk.2) (.slice Ao168 t789.length co168)) (fun _ hk => hk.2) (.slice Ao176 t792.length co176)) (fun _ hk => ⟨hk.1.1.1, ⟨hk.1.1.2.1, ⟨hk.1.1.2.2.1, ⟨hk.1.1.2.2.2.1, ⟨hk.1.1.2.2.2.2, hk.1.2⟩⟩⟩⟩⟩))⟩, ⟨(by (with_reducible repeat (first | apply Kd.R_alloc | apply Kd.R_drewN | apply Kd.R_drew)); exact Kd.R_mono (Kd.R_far (p := ⟨gb795, 1, none⟩) (Kd.R_far (p := ⟨gb795, 0, none⟩) (Kd.R_types HO_653001.out BK795.out (by decide)) (fun _ hk => hk.2) (.slice Ao168 t789.length co168)) (fun _ hk => hk.2) (.slice Ao176 t792.length co176)) (fun _ hk => ⟨hk.1.1.1, ⟨hk.1.1.2.1, ⟨hk.1.1.2.2.1, ⟨hk.1.1.2.2.2.1, ⟨hk.1.1.2.2.2.2, hk.1.2⟩⟩⟩⟩⟩))⟩, ⟨(by (with_reducible repeat (first | apply Kd.R_alloc | apply Kd.R_drewN | apply Kd.R_drew)); exact Kd.R_mono (Kd.R_far (p := ⟨gb795, 1, none⟩) (Kd.R_far (p := ⟨gb795, 0, none⟩) (Kd.R_types HO791.out BK795.out (by decide)) (fun _ hk => hk.2) (.slice Ao168 t789.length co168)) (fun _ hk => hk.2) (.slice Ao176 t792.length co176)) (fun _ hk => ⟨hk.1.1.1.1.1.1.2, ⟨hk.1.1.1.1.1.2, ⟨hk.1.1.1.1.2, ⟨hk.1.1.1.2, ⟨hk.1.1.2, hk.1.2⟩⟩⟩⟩⟩))⟩, ⟨(by (with_reducible repeat (first | apply Kd.R_alloc | apply Kd.R_drewN | apply Kd.R_drew)); exact Kd.R_mono (Kd.R_far (p := ⟨gb795, 1, none⟩) (Kd.R_far (p := ⟨gb795, 0, none⟩) (Kd.R_types HO794.out BK795.out (by decide)) (fun _ hk => hk.2) (.slice Ao168 t789.length co168)) (fun _ hk => hk.2) (.slice Ao176 t792.length co176)) (fun _ hk => ⟨hk.1.1.1.1.1.1.2, ⟨hk.1.1.1.1.1.2, ⟨hk.1.1.1.1.2, ⟨hk.1.1.1.2, ⟨hk.1.1.2, hk.1.2⟩⟩⟩⟩⟩))⟩, ⟨zf2_ NB609_795.out NB609_795.out BK609.out⟩, ⟨zf2_ NB618_795.out NB618_795.out BK618.out⟩, ⟨zf2_ NB628_795.out NB628_795.out BK628.out⟩, ⟨zf2_ NB635_795.out NB635_795.out BK635.out⟩, ⟨zf2_ NB644_795.out NB644_795.out BK644.out⟩, ⟨zf2_ NB652_795.out NB652_795.out BK652.out⟩, ⟨(by (with_reducible repeat (first | refine blk_drewN ?_ _ | refine blk_drew ?_ | refine blk_alloc ?_ _)); refine blk_put (cs := #[.slice Ao168 t789.length co168, .slice none 0 0]) ?_ 1 _ rfl; (with_reducible repeat (first | refine blk_drewN ?_ _ | refine blk_drew ?_ | refine blk_alloc ?_ _)); refine blk_put (cs := #[.slice none 0 0, .slice none 0 0]) ?_ 0 _ rfl; (with_reducible repeat (first | refine blk_drewN ?_ _ | refine blk_drew ?_ | refine blk_alloc ?_ _)); exact BK795.out)⟩, ⟨βs⟩⟩
              case round =>
               clear H'
               try clear c1
               try clear c2
               try clear p2
               try clear p6
               try clear c8
               try clear c11
               try clear c12
               try clear c13
               try clear c14
               try clear c15
               try clear c16
               try clear c17
               try clear c18
               try clear c19
               try clear c22
               try clear c23
               try clear c24
               try clear c25
               try clear p64
               try clear c118
               try clear c118b0
               try clear c118b1
               try clear c119
               try clear c119b0
               try clear c121
               try clear c121b0
               try clear c121b1
               try clear c123
               try clear c123b0
               try clear c123b1
               try clear c124
               try clear c125
               try clear c126
               try clear c127
               try clear c128
               try clear c131
               try clear c132
               try clear c133
               try clear c134
               try clear c138
               try clear c138b0
               try clear c138b1
               try clear c139
               try clear c140
               try clear c141
               try clear c142
               try clear c143
               try clear c146
               try clear c147
               try clear c148
               try clear c149
               try clear c152
               try clear c153
               try clear c154
               try clear c155
               try clear c156
               try clear c158
               try clear c158b0
               try clear c158b1
               try clear c160
               try clear c161
               try clear c162
               try clear c163
               try clear c164
               try clear c169
               try clear c170
               try clear c171
               try clear c172
               try clear c173
               try clear c174
               try clear hcz117_0
               try clear hcz117_1
               try clear hcz117_2
               try clear hcz117_3
               try clear hcz129_0
               try clear hcz129_1
               try clear hcz135_0
               try clear hcz135_1
               try clear hcz135_2
               try clear hcz135_3
               try clear hcz144_0
               try clear hcz144_1
               try clear hcz150_0
               try clear hcz150_1
               try clear hcz150_2
               try clear hcz150_3
               try clear hcz157_0
               try clear hcz157_1
               try clear hcz165_0
               try clear hcz165_1
               try clear hcz165_2
               try clear hcz165_3
               try clear hcz175_0
               try clear hcz175_1
               try clear hfz117_0
               try clear hfz117_1
               try clear hfz117_2
               try clear hfz117_3
               try clear hfz129_0
               try clear hfz129_1
               try clear hfz135_0
               try clear hfz135_1
               try clear hfz135_2
               try clear hfz135_3
               try clear hfz144_0
               try clear hfz144_1
               try clear hfz150_0
               try clear hfz150_1
               try clear hfz150_2
               try clear hfz150_3
               try clear hfz157_0
               try clear hfz157_1
               try clear hfz165_0
               try clear hfz165_1
               try clear hfz165_2
               try clear hfz165_3
               try clear hfz175_0
               try clear hfz175_1
               try clear p2
               try clear p6
               try clear p64
               obtain ⟨x22_3, rfl, HA, HK3, HO_610000, HO_610001, HO_619000, HO_619001, HO_629000, HO_629001, HO_636000, HO_636001, HO_645000, HO_645001, HO_653000, HO_653001, HO_796000, HO_796001, BK609, BK618, BK628, BK635, BK644, BK652, BK795, HB⟩ := hrel
               cases gk with
               | zero => exact absurd HA.out (by simp [laws_FnFlash.l1])
               | succ k3 =>
                have H := HA.out
                clear HA
                simp only [laws_FnFlash.l1] at H
                by_cases c177 : x22_3 < (t619.length : Int)
                ·
                 rw [if_pos c177] at H
                 have c177b0 : decide (x22_3 < (t619.length : Int)) = true := decide_eq_true c177
                 clear c177
                 replace H := Option.bind_eq_some_iff.mp H
                 obtain ⟨⟨t796, t799, t802, t803⟩, A1780, H⟩ := H
                 (try dsimp -simprocs only at H)
                 have A178 := zA_ A1780
                 clear A1780
                 by_cases c179 : 0 ≤ x22_3
                 ·
                  rw [if_pos c179] at H
                  have c179b0 : decide (0 ≤ x22_3) = true := decide_eq_true c179
                  clear c179
                  by_cases c180 : x22_3 < (t629.length : Int)
                  ·
                   rw [if_pos c180] at H
                   have c180b0 : decide (x22_3 < (t629.length : Int)) = true := decide_eq_true c180
                   clear c180
                   replace H := Option.bind_eq_some_iff.mp H
                   obtain ⟨⟨t805, t808, t811, t812⟩, A1810, H⟩ := H
                   (try dsimp -simprocs only at H)
                   have A181 := zA_ A1810
                   clear A1810
                   by_cases c182 : t811.toList = t802.toList
                   ·
                    rw [if_pos c182] at H
                    have c182b0 : (t811.toList == t802.toList) = true := beq_iff_eq.mpr c182
                    have c182b1 : (t811.toList != t802.toList) = false := bne_eq_false_iff_eq.mpr c182
                    clear c182
                    by_cases c183 : (rdOf ByteArray.empty t629 x22_3).toList = (rdOf ByteArray.empty t619 x22_3).toList
                    ·
                     rw [if_pos c183] at H
                     have c183b0 : ((rdOf ByteArray.empty t629 x22_3).toList == (rdOf ByteArray.empty t619 x22_3).toList) = true := beq_iff_eq.mpr c183
                     have c183b1 : ((rdOf ByteArray.empty t629 x22_3).toList != (rdOf ByteArray.empty t619 x22_3).toList) = false := bne_eq_false_iff_eq.mpr c183
                     clear c183
                     as_aux_lemma =>
                      have H' := zA_ H
                      clear H
                      have hnb184 := NB628_609.out
                      have hnc184 := NB609_628.out
                      have hnb185 := NB628_618.out
                      have hnc185 := NB618_628.out
                      have hnb186 := NB628_635.out
                      have hnc186 := NB635_628.out
                      have hnb187 := NB628_644.out
                      have hnc187 := NB644_628.out
                      have hnb188 := NB628_652.out
                      have hnc188 := NB652_628.out
                      have hnb189 := NB628_795.out
                      have hnc189 := NB795_628.out
                      have hcz190_0 := cz_ BK628.out 0 (.slice Ao51 t619.length co51) rfl
                      have hcz190_1 := cz_ BK628.out 1 (.slice Ao55 t622.length co55) rfl
                      have hfz190_0 := blk_frozen BK628.out 0
                      have hfz190_1 := blk_frozen BK628.out 1
                      go_wp2_with (first | ((with_reducible refine gate_callee (f := 19) rfl ?_); refine goesL_ (some 165) rfl rfl Try.func19 βPb rfl #[.agg #[.slice Ao51 t619.length co51, .slice Ao55 t622.length co55], .int .i64 x22_3] rfl zs_ ?_; (with_reducible refine (spec_FlashRead.calls k3 _ _ t619 _ _ t622 x22_3 t796 t799 t802 t803 _ ?side1 ?side2 ?side3 ?side4 A178.out).mono ?_); (case side1 => exact zc_ (Kd.R_reads' HO_629000.out).2.2); (case side2 => exact (Kd.R_reads' HO_629000.out).2.1); (case side3 => exact zc_ (Kd.R_reads' HO_629001.out).2.2); (case side4 => exact (Kd.R_reads' HO_629001.out).2.1); rintro e w191 ⟨v797, v800, rfl, ho0, ho1, hb⟩; refine ⟨_, rfl, ?_⟩; have HO798 := zA_ (Kd.R_lower (Kd.R_new' (Kd.R_new' (Kd.R_new' (Kd.R_new' (Kd.R_new' (Kd.R_new' (Kd.R_new' ho0 (Kd.R_lt (zr_ HO_610000.out))) (Kd.R_lt (zr_ HO_619000.out))) (Kd.R_lt (zr_ HO_629000.out))) (Kd.R_lt (zr_ HO_636000.out))) (Kd.R_lt (zr_ HO_645000.out))) (Kd.R_lt (zr_ HO_653000.out))) (Kd.R_lt (zr_ HO_796000.out))) (below_size βs)); replace HO_610000 := zE_ HO_610000.out ho0 hb; replace HO_619000 := zE_ HO_619000.out ho0 hb; replace HO_629000 := zE_ HO_629000.out ho0 hb; replace HO_636000 := zE_ HO_636000.out ho0 hb; replace HO_645000 := zE_ HO_645000.out ho0 hb; replace HO_653000 := zE_ HO_653000.out ho0 hb; replace HO_796000 := zE_ HO_796000.out ho0 hb; have HO801 := zA_ (Kd.R_lower (Kd.R_new' (Kd.R_new' (Kd.R_new' (Kd.R_new' (Kd.R_new' (Kd.R_new' (Kd.R_new' ho1 (Kd.R_lt (zr_ HO_610001.out))) (Kd.R_lt (zr_ HO_619001.out))) (Kd.R_lt (zr_ HO_629001.out))) (Kd.R_lt (zr_ HO_636001.out))) (Kd.R_lt (zr_ HO_645001.out))) (Kd.R_lt (zr_ HO_653001.out))) (Kd.R_lt (zr_ HO_796001.out))) (below_size βs)); replace HO_610001 := zE_ HO_610001.out ho1 hb; replace HO_619001 := zE_ HO_619001.out ho1 hb; replace HO_629001 := zE_ HO_629001.out ho1 hb; replace HO_636001 := zE_ HO_636001.out ho1 hb; replace HO_645001 := zE_ HO_645001.out ho1 hb; replace HO_653001 := zE_ HO_653001.out ho1 hb; replace HO_796001 := zE_ HO_796001.out ho1 hb; replace BK609 := zB_ BK609.out hb; replace BK618 := zB_ BK618.out hb; replace BK628 := zB_ BK628.out hb; replace BK635 := zB_ BK635.out hb; replace BK644 := zB_ BK644.out hb; replace BK652 := zB_ BK652.out hb; replace BK795 := zB_ BK795.out hb; replace HB := zA_ (below_step βs hb); (try clear hb); (try clear hb2); (try clear hk); (try clear hi); (try clear ho0); (try clear ho1); have hnb192 := NB635_609.out; have hnc192 := NB609_635.out; have hnb193 := NB635_618.out; have hnc193 := NB618_635.out; have hnb194 := NB635_644.out; have hnc194 := NB644_635.out; have hnb195 := NB635_652.out; have hnc195 := NB652_635.out; have hnb196 := NB635_795.out; have hnc196 := NB795_635.out; have hcz197_0 := cz_ BK635.out 0 (.slice Ao59 t629.length co59) rfl; have hcz197_1 := cz_ BK635.out 1 (.slice Ao64 t632.length co64) rfl; have hfz197_0 := blk_frozen BK635.out 0; have hfz197_1 := blk_frozen BK635.out 1; have p804 : 0 ≤ (x22_3 : Int) := of_decide_eq_true βKb; have q804 : x22_3 < (t629.length : Int) := of_decide_eq_true βKb; obtain ⟨ad804, e804, hx804_0⟩ := Kd.at_string (Kd.R_reads' HO_636000.out).2.2 x22_3 p804 q804; cases e804; replace p804 := eq_true p804; replace q804 := eq_true q804; have hnb198 := NB795_609.out; have hnc198 := NB609_795.out; have hnb199 := NB795_618.out; have hnc199 := NB618_795.out; have hnb200 := NB795_644.out; have hnc200 := NB644_795.out; have hnb201 := NB795_652.out; have hnc201 := NB652_795.out; have hcz202_0 := cz_ BK795.out 0 (.slice Ao168 t789.length co168) rfl; have hcz202_1 := cz_ BK795.out 1 (.slice Ao176 t792.length co176) rfl; have hfz202_0 := blk_frozen BK795.out 0; have hfz202_1 := blk_frozen BK795.out 1) | ((with_reducible refine gate_callee (f := 18) rfl ?_); refine goesL_ (some 174) rfl rfl Try.func18 βPb rfl #[.agg #[.slice Ao168 t789.length co168, .slice Ao176 t792.length co176], .int .i64 x22_3] rfl zs_ ?_; (with_reducible refine (impl_FlashRead.calls _ _ t789 _ _ t792 x22_3 t805 t808 t811 t812 _ ?side1 ?side2 ?side3 ?side4 A181.out).mono ?_); (case side1 => exact zc_ (Kd.R_reads' HO_796000.out).2.2); (case side2 => exact (Kd.R_reads' HO_796000.out).2.1); (case side3 => exact zc_ (Kd.R_reads' HO_796001.out).2.2); (case side4 => exact (Kd.R_reads' HO_796001.out).2.1); rintro e w203 ⟨v806, v809, rfl, ho0, ho1, hb⟩; refine ⟨_, rfl, ?_⟩; have HO807 := zA_ (Kd.R_lower (Kd.R_new' (Kd.R_new' (Kd.R_new' (Kd.R_new' (Kd.R_new' (Kd.R_new' (Kd.R_new' (Kd.R_new' ho0 (Kd.R_lt (zr_ HO_610000.out))) (Kd.R_lt (zr_ HO_619000.out))) (Kd.R_lt (zr_ HO_629000.out))) (Kd.R_lt (zr_ HO_636000.out))) (Kd.R_lt (zr_ HO_645000.out))) (Kd.R_lt (zr_ HO_653000.out))) (Kd.R_lt (zr_ HO_796000.out))) (Kd.R_lt (zr_ HO798.out))) (below_size βs)); replace HO_610000 := zE_ HO_610000.out ho0 hb; replace HO_619000 := zE_ HO_619000.out ho0 hb; replace HO_629000 := zE_ HO_629000.out ho0 hb; replace HO_636000 := zE_ HO_636000.out ho0 hb; replace HO_645000 := zE_ HO_645000.out ho0 hb; replace HO_653000 := zE_ HO_653000.out ho0 hb; replace HO_796000 := zE_ HO_796000.out ho0 hb; replace HO798 := zE_ HO798.out ho0 hb; have HO810 := zA_ (Kd.R_lower (Kd.R_new' (Kd.R_new' (Kd.R_new' (Kd.R_new' (Kd.R_new' (Kd.R_new' (Kd.R_new' (Kd.R_new' ho1 (Kd.R_lt (zr_ HO_610001.out))) (Kd.R_lt (zr_ HO_619001.out))) (Kd.R_lt (zr_ HO_629001.out))) (Kd.R_lt (zr_ HO_636001.out))) (Kd.R_lt (zr_ HO_645001.out))) (Kd.R_lt (zr_ HO_653001.out))) (Kd.R_lt (zr_ HO_796001.out))) (Kd.R_lt (zr_ HO801.out))) (below_size βs)); replace HO_610001 := zE_ HO_610001.out ho1 hb; replace HO_619001 := zE_ HO_619001.out ho1 hb; replace HO_629001 := zE_ HO_629001.out ho1 hb; replace HO_636001 := zE_ HO_636001.out ho1 hb; replace HO_645001 := zE_ HO_645001.out ho1 hb; replace HO_653001 := zE_ HO_653001.out ho1 hb; replace HO_796001 := zE_ HO_796001.out ho1 hb; replace HO801 := zE_ HO801.out ho1 hb; replace BK609 := zB_ BK609.out hb; replace BK618 := zB_ BK618.out hb; replace BK628 := zB_ BK628.out hb; replace BK635 := zB_ BK635.out hb; replace BK644 := zB_ BK644.out hb; replace BK652 := zB_ BK652.out hb; replace BK795 := zB_ BK795.out hb; replace HB := zA_ (below_step βs hb); (try clear hb); (try clear hb2); (try clear hk); (try clear hi); (try clear ho0); (try clear ho1); have hcz204_0 := cz_ BK628.out 0 (.slice Ao51 t619.length co51) rfl; have hcz204_1 := cz_ BK628.out 1 (.slice Ao55 t622.length co55) rfl; have hfz204_0 := blk_frozen BK628.out 0; have hfz204_1 := blk_frozen BK628.out 1; have p813 : 0 ≤ (x22_3 : Int) := of_decide_eq_true βKb; have q813 : x22_3 < (t619.length : Int) := of_decide_eq_true βKb; obtain ⟨ad813, e813, hx813_0⟩ := Kd.at_string (Kd.R_reads' HO_629000.out).2.2 x22_3 p813 q813; cases e813; replace p813 := eq_true p813; replace q813 := eq_true q813))
                      go_roundg k3
                      case measure => have := HJ2.out; have := HJ36.out; have := HK3.out; omega
                      case rel => exact ⟨(wrap64 (x22_3 + 1)), βLb, H', ⟨(by have := HJ2.out; have := HJ36.out; have := HK3.out; omega)⟩, ⟨βsa⟩, ⟨βta⟩, ⟨βua⟩, ⟨βva⟩, ⟨βwa⟩, ⟨βxa⟩, ⟨βya⟩, ⟨βza⟩, ⟨βAa⟩, ⟨βBa⟩, ⟨βCa⟩, ⟨βDa⟩, ⟨βEa⟩, ⟨βFa⟩, ⟨zb_ BK609.out⟩, ⟨zb_ BK618.out⟩, ⟨zb_ BK628.out⟩, ⟨zb_ BK635.out⟩, ⟨zb_ BK644.out⟩, ⟨zb_ BK652.out⟩, ⟨zb_ BK795.out⟩, ⟨βs⟩⟩
                    ·
                     rw [if_neg c183] at H
                     have c183b0 : ((rdOf ByteArray.empty t629 x22_3).toList == (rdOf ByteArray.empty t619 x22_3).toList) = false := beq_eq_false_iff_ne.mpr c183
                     have c183b1 : ((rdOf ByteArray.empty t629 x22_3).toList != (rdOf ByteArray.empty t619 x22_3).toList) = true := bne_iff_ne.mpr c183
                     by_cases c205 : ((rdOf ByteArray.empty t629 x22_3).size : Int) > (t802.size : Int)
                     ·
                      rw [if_pos c205] at H
                      exact absurd H (by simp)
                     ·
                      rw [if_neg c205] at H
                      have c205b0 : decide ((t802.size : Int) < ((rdOf ByteArray.empty t629 x22_3).size : Int)) = false := decide_eq_false c205
                      have c205b1 : decide (t802.size < (rdOf ByteArray.empty t629 x22_3).size) = false := decide_eq_false (fun h => c205 (Int.ofNat_lt.mpr h))
                      clear c205
                      by_cases c206 : 0 ≤ ((rdOf ByteArray.empty t629 x22_3).size : Int)
                      ·
                       rw [if_pos c206] at H
                       have c206b0 := eq_true c206
                       have c206b1 : decide (0 ≤ ((rdOf ByteArray.empty t629 x22_3).size : Int)) = true := decide_eq_true c206
                       clear c206
                       by_cases c207 : ((rdOf ByteArray.empty t629 x22_3).size : Int) ≤ (t802.size : Int)
                       ·
                        rw [if_pos c207] at H
                        have c207b0 := eq_true c207
                        have c207b1 : decide (((rdOf ByteArray.empty t629 x22_3).size : Int) ≤ (t802.size : Int)) = true := decide_eq_true c207
                        clear c207
                        by_cases c208 : (t802.extract 0 (((rdOf ByteArray.empty t629 x22_3).size : Int) : Int).toNat).toList = (rdOf ByteArray.empty t629 x22_3).toList
                        ·
                         rw [if_pos c208] at H
                         have c208b0 : ((t802.extract 0 (((rdOf ByteArray.empty t629 x22_3).size : Int) : Int).toNat).toList == (rdOf ByteArray.empty t629 x22_3).toList) = true := beq_iff_eq.mpr c208
                         have c208b2 : ((t802.extract 0 (rdOf ByteArray.empty t629 x22_3).size).toList == (rdOf ByteArray.empty t629 x22_3).toList) = true := by simpa only [Int.toNat_natCast] using c208b0
                         have c208b1 : ((t802.extract 0 (((rdOf ByteArray.empty t629 x22_3).size : Int) : Int).toNat).toList != (rdOf ByteArray.empty t629 x22_3).toList) = false := bne_eq_false_iff_eq.mpr c208
                         clear c208
                         as_aux_lemma =>
                          have H' := zA_ H
                          clear H
                          have hnb209 := NB628_609.out
                          have hnc209 := NB609_628.out
                          have hnb210 := NB628_618.out
                          have hnc210 := NB618_628.out
                          have hnb211 := NB628_635.out
                          have hnc211 := NB635_628.out
                          have hnb212 := NB628_644.out
                          have hnc212 := NB644_628.out
                          have hnb213 := NB628_652.out
                          have hnc213 := NB652_628.out
                          have hnb214 := NB628_795.out
                          have hnc214 := NB795_628.out
                          have hcz215_0 := cz_ BK628.out 0 (.slice Ao51 t619.length co51) rfl
                          have hcz215_1 := cz_ BK628.out 1 (.slice Ao55 t622.length co55) rfl
                          have hfz215_0 := blk_frozen BK628.out 0
                          have hfz215_1 := blk_frozen BK628.out 1
                          go_wp2_with (first | ((with_reducible refine gate_callee (f := 19) rfl ?_); refine goesL_ (some 165) rfl rfl Try.func19 βPb rfl #[.agg #[.slice Ao51 t619.length co51, .slice Ao55 t622.length co55], .int .i64 x22_3] rfl zs_ ?_; (with_reducible refine (spec_FlashRead.calls k3 _ _ t619 _ _ t622 x22_3 t796 t799 t802 t803 _ ?side1 ?side2 ?side3 ?side4 A178.out).mono ?_); (case side1 => exact zc_ (Kd.R_reads' HO_629000.out).2.2); (case side2 => exact (Kd.R_reads' HO_629000.out).2.1); (case side3 => exact zc_ (Kd.R_reads' HO_629001.out).2.2); (case side4 => exact (Kd.R_reads' HO_629001.out).2.1); rintro e w216 ⟨v797, v800, rfl, ho0, ho1, hb⟩; refine ⟨_, rfl, ?_⟩; have HO798 := zA_ (Kd.R_lower (Kd.R_new' (Kd.R_new' (Kd.R_new' (Kd.R_new' (Kd.R_new' (Kd.R_new' (Kd.R_new' ho0 (Kd.R_lt (zr_ HO_610000.out))) (Kd.R_lt (zr_ HO_619000.out))) (Kd.R_lt (zr_ HO_629000.out))) (Kd.R_lt (zr_ HO_636000.out))) (Kd.R_lt (zr_ HO_645000.out))) (Kd.R_lt (zr_ HO_653000.out))) (Kd.R_lt (zr_ HO_796000.out))) (below_size βs)); replace HO_610000 := zE_ HO_610000.out ho0 hb; replace HO_619000 := zE_ HO_619000.out ho0 hb; replace HO_629000 := zE_ HO_629000.out ho0 hb; replace HO_636000 := zE_ HO_636000.out ho0 hb; replace HO_645000 := zE_ HO_645000.out ho0 hb; replace HO_653000 := zE_ HO_653000.out ho0 hb; replace HO_796000 := zE_ HO_796000.out ho0 hb; have HO801 := zA_ (Kd.R_lower (Kd.R_new' (Kd.R_new' (Kd.R_new' (Kd.R_new' (Kd.R_new' (Kd.R_new' (Kd.R_new' ho1 (Kd.R_lt (zr_ HO_610001.out))) (Kd.R_lt (zr_ HO_619001.out))) (Kd.R_lt (zr_ HO_629001.out))) (Kd.R_lt (zr_ HO_636001.out))) (Kd.R_lt (zr_ HO_645001.out))) (Kd.R_lt (zr_ HO_653001.out))) (Kd.R_lt (zr_ HO_796001.out))) (below_size βs)); replace HO_610001 := zE_ HO_610001.out ho1 hb; replace HO_619001 := zE_ HO_619001.out ho1 hb; replace HO_629001 := zE_ HO_629001.out ho1 hb; replace HO_636001 := zE_ HO_636001.out ho1 hb; replace HO_645001 := zE_ HO_645001.out ho1 hb; replace HO_653001 := zE_ HO_653001.out ho1 hb; replace HO_796001 := zE_ HO_796001.out ho1 hb; replace BK609 := zB_ BK609.out hb; replace BK618 := zB_ BK618.out hb; replace BK628 := zB_ BK628.out hb; replace BK635 := zB_ BK635.out hb; replace BK644 := zB_ BK644.out hb; replace BK652 := zB_ BK652.out hb; replace BK795 := zB_ BK795.out hb; replace HB := zA_ (below_step βs hb); (try clear hb); (try clear hb2); (try clear hk); (try clear hi); (try clear ho0); (try clear ho1); have hnb217 := NB635_609.out; have hnc217 := NB609_635.out; have hnb218 := NB635_618.out; have hnc218 := NB618_635.out; have hnb219 := NB635_644.out; have hnc219 := NB644_635.out; have hnb220 := NB635_652.out; have hnc220 := NB652_635.out; have hnb221 := NB635_795.out; have hnc221 := NB795_635.out; have hcz222_0 := cz_ BK635.out 0 (.slice Ao59 t629.length co59) rfl; have hcz222_1 := cz_ BK635.out 1 (.slice Ao64 t632.length co64) rfl; have hfz222_0 := blk_frozen BK635.out 0; have hfz222_1 := blk_frozen BK635.out 1; have p804 : 0 ≤ (x22_3 : Int) := of_decide_eq_true βKb; have q804 : x22_3 < (t629.length : Int) := of_decide_eq_true βKb; obtain ⟨ad804, e804, hx804_0⟩ := Kd.at_string (Kd.R_reads' HO_636000.out).2.2 x22_3 p804 q804; cases e804; replace p804 := eq_true p804; replace q804 := eq_true q804; have hnb223 := NB795_609.out; have hnc223 := NB609_795.out; have hnb224 := NB795_618.out; have hnc224 := NB618_795.out; have hnb225 := NB795_644.out; have hnc225 := NB644_795.out; have hnb226 := NB795_652.out; have hnc226 := NB652_795.out; have hcz227_0 := cz_ BK795.out 0 (.slice Ao168 t789.length co168) rfl; have hcz227_1 := cz_ BK795.out 1 (.slice Ao176 t792.length co176) rfl; have hfz227_0 := blk_frozen BK795.out 0; have hfz227_1 := blk_frozen BK795.out 1) | ((with_reducible refine gate_callee (f := 18) rfl ?_); refine goesL_ (some 174) rfl rfl Try.func18 βPb rfl #[.agg #[.slice Ao168 t789.length co168, .slice Ao176 t792.length co176], .int .i64 x22_3] rfl zs_ ?_; (with_reducible refine (impl_FlashRead.calls _ _ t789 _ _ t792 x22_3 t805 t808 t811 t812 _ ?side1 ?side2 ?side3 ?side4 A181.out).mono ?_); (case side1 => exact zc_ (Kd.R_reads' HO_796000.out).2.2); (case side2 => exact (Kd.R_reads' HO_796000.out).2.1); (case side3 => exact zc_ (Kd.R_reads' HO_796001.out).2.2); (case side4 => exact (Kd.R_reads' HO_796001.out).2.1); rintro e w228 ⟨v806, v809, rfl, ho0, ho1, hb⟩; refine ⟨_, rfl, ?_⟩; have HO807 := zA_ (Kd.R_lower (Kd.R_new' (Kd.R_new' (Kd.R_new' (Kd.R_new' (Kd.R_new' (Kd.R_new' (Kd.R_new' (Kd.R_new' ho0 (Kd.R_lt (zr_ HO_610000.out))) (Kd.R_lt (zr_ HO_619000.out))) (Kd.R_lt (zr_ HO_629000.out))) (Kd.R_lt (zr_ HO_636000.out))) (Kd.R_lt (zr_ HO_645000.out))) (Kd.R_lt (zr_ HO_653000.out))) (Kd.R_lt (zr_ HO_796000.out))) (Kd.R_lt (zr_ HO798.out))) (below_size βs)); replace HO_610000 := zE_ HO_610000.out ho0 hb; replace HO_619000 := zE_ HO_619000.out ho0 hb; replace HO_629000 := zE_ HO_629000.out ho0 hb; replace HO_636000 := zE_ HO_636000.out ho0 hb; replace HO_645000 := zE_ HO_645000.out ho0 hb; replace HO_653000 := zE_ HO_653000.out ho0 hb; replace HO_796000 := zE_ HO_796000.out ho0 hb; replace HO798 := zE_ HO798.out ho0 hb; have HO810 := zA_ (Kd.R_lower (Kd.R_new' (Kd.R_new' (Kd.R_new' (Kd.R_new' (Kd.R_new' (Kd.R_new' (Kd.R_new' (Kd.R_new' ho1 (Kd.R_lt (zr_ HO_610001.out))) (Kd.R_lt (zr_ HO_619001.out))) (Kd.R_lt (zr_ HO_629001.out))) (Kd.R_lt (zr_ HO_636001.out))) (Kd.R_lt (zr_ HO_645001.out))) (Kd.R_lt (zr_ HO_653001.out))) (Kd.R_lt (zr_ HO_796001.out))) (Kd.R_lt (zr_ HO801.out))) (below_size βs)); replace HO_610001 := zE_ HO_610001.out ho1 hb; replace HO_619001 := zE_ HO_619001.out ho1 hb; replace HO_629001 := zE_ HO_629001.out ho1 hb; replace HO_636001 := zE_ HO_636001.out ho1 hb; replace HO_645001 := zE_ HO_645001.out ho1 hb; replace HO_653001 := zE_ HO_653001.out ho1 hb; replace HO_796001 := zE_ HO_796001.out ho1 hb; replace HO801 := zE_ HO801.out ho1 hb; replace BK609 := zB_ BK609.out hb; replace BK618 := zB_ BK618.out hb; replace BK628 := zB_ BK628.out hb; replace BK635 := zB_ BK635.out hb; replace BK644 := zB_ BK644.out hb; replace BK652 := zB_ BK652.out hb; replace BK795 := zB_ BK795.out hb; replace HB := zA_ (below_step βs hb); (try clear hb); (try clear hb2); (try clear hk); (try clear hi); (try clear ho0); (try clear ho1); have hcz229_0 := cz_ BK628.out 0 (.slice Ao51 t619.length co51) rfl; have hcz229_1 := cz_ BK628.out 1 (.slice Ao55 t622.length co55) rfl; have hfz229_0 := blk_frozen BK628.out 0; have hfz229_1 := blk_frozen BK628.out 1; have p813 : 0 ≤ (x22_3 : Int) := of_decide_eq_true βKb; have q813 : x22_3 < (t619.length : Int) := of_decide_eq_true βKb; obtain ⟨ad813, e813, hx813_0⟩ := Kd.at_string (Kd.R_reads' HO_629000.out).2.2 x22_3 p813 q813; cases e813; replace p813 := eq_true p813; replace q813 := eq_true q813))
                          go_roundg k3
                          case measure => have := HJ2.out; have := HJ36.out; have := HK3.out; omega
                          case rel => exact ⟨(wrap64 (x22_3 + 1)), βLb, H', ⟨(by have := HJ2.out; have := HJ36.out; have := HK3.out; omega)⟩, ⟨βsa⟩, ⟨βta⟩, ⟨βua⟩, ⟨βva⟩, ⟨βwa⟩, ⟨βxa⟩, ⟨βya⟩, ⟨βza⟩, ⟨βAa⟩, ⟨βBa⟩, ⟨βCa⟩, ⟨βDa⟩, ⟨βEa⟩, ⟨βFa⟩, ⟨zb_ BK609.out⟩, ⟨zb_ BK618.out⟩, ⟨zb_ BK628.out⟩, ⟨zb_ BK635.out⟩, ⟨zb_ BK644.out⟩, ⟨zb_ BK652.out⟩, ⟨zb_ BK795.out⟩, ⟨βs⟩⟩
                        ·
                         rw [if_neg c208] at H
                         exact absurd H (by simp)
                       ·
                        rw [if_neg c207] at H
                        exact absurd H (by simp)
                      ·
                       rw [if_neg c206] at H
                       exact absurd H (by simp)
                   ·
                    rw [if_neg c182] at H
                    exact absurd H (by simp)
                  ·
                   rw [if_neg c180] at H
                   exact absurd H (by simp)
                 ·
                  rw [if_neg c179] at H
                  exact absurd H (by simp)
                ·
                 rw [if_neg c177] at H
                 have c177b0 : decide (x22_3 < (t619.length : Int)) = false := decide_eq_false c177
                 clear c177
                 by_cases c230 : (t632.length : Int) = 0
                 ·
                  rw [if_pos c230] at H
                  have c230b0 : ((t632.length : Int) == 0) = true := beq_iff_eq.mpr c230
                  have c230b1 : ((t632.length : Int) != 0) = false := bne_eq_false_iff_eq.mpr c230
                  clear c230
                  as_aux_lemma =>
                   obtain rfl := Option.some.inj H
                   have hnb231 := NB628_609.out
                   have hnc231 := NB609_628.out
                   have hnb232 := NB628_618.out
                   have hnc232 := NB618_628.out
                   have hnb233 := NB628_635.out
                   have hnc233 := NB635_628.out
                   have hnb234 := NB628_644.out
                   have hnc234 := NB644_628.out
                   have hnb235 := NB628_652.out
                   have hnc235 := NB652_628.out
                   have hnb236 := NB628_795.out
                   have hnc236 := NB795_628.out
                   have hcz237_0 := cz_ BK628.out 0 (.slice Ao51 t619.length co51) rfl
                   have hcz237_1 := cz_ BK628.out 1 (.slice Ao55 t622.length co55) rfl
                   have hfz237_0 := blk_frozen BK628.out 0
                   have hfz237_1 := blk_frozen BK628.out 1
                   have hnb238 := NB635_609.out
                   have hnc238 := NB609_635.out
                   have hnb239 := NB635_618.out
                   have hnc239 := NB618_635.out
                   have hnb240 := NB635_644.out
                   have hnc240 := NB644_635.out
                   have hnb241 := NB635_652.out
                   have hnc241 := NB652_635.out
                   have hnb242 := NB635_795.out
                   have hnc242 := NB795_635.out
                   have hcz243_0 := cz_ BK635.out 0 (.slice Ao59 t629.length co59) rfl
                   have hcz243_1 := cz_ BK635.out 1 (.slice Ao64 t632.length co64) rfl
                   have hfz243_0 := blk_frozen BK635.out 0
                   have hfz243_1 := blk_frozen BK635.out 1
                   have hnb244 := NB644_609.out
                   have hnc244 := NB609_644.out
                   have hnb245 := NB644_618.out
                   have hnc245 := NB618_644.out
                   have hnb246 := NB644_652.out
                   have hnc246 := NB652_644.out
                   have hnb247 := NB644_795.out
                   have hnc247 := NB795_644.out
                   have hcz248_0 := cz_ BK644.out 0 (.slice Ao68 t636.length co68) rfl
                   have hcz248_1 := cz_ BK644.out 1 (.slice Ao74 t639.length co74) rfl
                   have hcz248_2 := cz_ BK644.out 2 (.string t642) rfl
                   have hcz248_3 := cz_ BK644.out 3 (.int .i64 t643) rfl
                   have hfz248_0 := blk_frozen BK644.out 0
                   have hfz248_1 := blk_frozen BK644.out 1
                   have hfz248_2 := blk_frozen BK644.out 2
                   have hfz248_3 := blk_frozen BK644.out 3
                   go_wp2
                   go_ret
                   exact ⟨βFb, βs⟩
                 ·
                  rw [if_neg c230] at H
                  exact absurd H (by simp)
             ·
              rw [if_neg c158] at H
              have c158b0 : (t643 == 0) = false := beq_eq_false_iff_ne.mpr c158
              have c158b1 : (t643 != 0) = true := bne_iff_ne.mpr c158
              as_aux_lemma =>
               obtain rfl := Option.some.inj H
               have hnb249 := NB644_609.out
               have hnc249 := NB609_644.out
               have hnb250 := NB644_618.out
               have hnc250 := NB618_644.out
               have hnb251 := NB644_628.out
               have hnc251 := NB628_644.out
               have hnb252 := NB644_635.out
               have hnc252 := NB635_644.out
               have hnb253 := NB644_652.out
               have hnc253 := NB652_644.out
               have hcz254_0 := cz_ BK644.out 0 (.slice Ao68 t636.length co68) rfl
               have hcz254_1 := cz_ BK644.out 1 (.slice Ao74 t639.length co74) rfl
               have hcz254_2 := cz_ BK644.out 2 (.string t642) rfl
               have hcz254_3 := cz_ BK644.out 3 (.int .i64 t643) rfl
               have hfz254_0 := blk_frozen BK644.out 0
               have hfz254_1 := blk_frozen BK644.out 1
               have hfz254_2 := blk_frozen BK644.out 2
               have hfz254_3 := blk_frozen BK644.out 3
               go_wp2
               go_ret
               exact ⟨βFb, (by repeat (first | (with_reducible first | exact HB.out | apply below_alloc | apply pw_below_drewN | apply below_drew1 | refine below_set ?_ GE609.out | refine below_set ?_ GE618.out | refine below_set ?_ GE628.out | refine below_set ?_ GE635.out | refine below_set ?_ GE644.out | refine below_set ?_ GE652.out) | exact HB.out))⟩
         ·
          rw [if_neg c33] at H
          exact absurd H (by simp)
        ·
         replace c30 := Bool.eq_false_iff.mpr c30
         subst c30
         have H1 : (none) = some r := by rw [if_neg (show ¬ (false = true) by decide)] at H; exact H
         clear H
         have H := H1
         clear H1
         exact absurd H (by simp)
       ·
        replace c26 := Bool.eq_false_iff.mpr c26
        subst c26
        have H1 : (none) = some r := by rw [if_neg (show ¬ (false = true) by decide)] at H; exact H
        clear H
        have H := H1
        clear H1
        exact absurd H (by simp)
      ·
       replace c22 := Bool.eq_false_iff.mpr c22
       subst c22
       have H1 : (none) = some r := by rw [if_neg (show ¬ (false = true) by decide)] at H; exact H
       clear H
       have H := H1
       clear H1
       exact absurd H (by simp)
     ·
      replace c19 := Bool.eq_false_iff.mpr c19
      subst c19
      have H1 : (none) = some r := by rw [if_neg (show ¬ (false = true) by decide)] at H; exact H
      clear H
      have H := H1
      clear H1
      exact absurd H (by simp)
    ·
     replace c16 := Bool.eq_false_iff.mpr c16
     subst c16
     have H1 : (none) = some r := by rw [if_neg (show ¬ (false = true) by decide)] at H; exact H
     clear H
     have H := H1
     clear H1
     exact absurd H (by simp)
def laws_FnFlash.Pure : Prop := ∀ (l0 : List Int) (l1 : List Int), l0.length ≤ maxLen → l0.length * 1 ≤ 140737488351232 → (∀ x ∈ l0, (Lit.int .u8 x).wf = true) → l1.length ≤ maxLen → l1.length * 1 ≤ 140737488351232 → (∀ x ∈ l1, (Lit.int .u8 x).wf = true) → ∃ k, laws_FnFlash.f k l0 l1 = some true
theorem laws_FnFlash.walk (P : laws_FnFlash.Pure) (a0 : Option Addr) (len0 cap0 : Nat) (z0 : List Int) (a1 : Option Addr) (len1 cap1 : Nat) (z1 : List Int) (w : World) (w0 : (a0 = none ∧ len0 = 0 ∧ cap0 = 0 ∧ z0 = []) ∨ ∃ x, a0 = some x ∧ len0 ≤ cap0 ∧ cap0 ≤ maxLen ∧ z0.length = cap0 ∧ (∀ i, i < z0.length → w.cell? (x.add i) = some (.int .u8 (z0.getD i 0))) ∧ ∀ n ∈ z0, (Lit.int .u8 n).wf = true) (y0 : len0 * 1 ≤ 140737488351232) (w1 : (a1 = none ∧ len1 = 0 ∧ cap1 = 0 ∧ z1 = []) ∨ ∃ x, a1 = some x ∧ len1 ≤ cap1 ∧ cap1 ≤ maxLen ∧ z1.length = cap1 ∧ (∀ i, i < z1.length → w.cell? (x.add i) = some (.int .u8 (z1.getD i 0))) ∧ ∀ n ∈ z1, (Lit.int .u8 n).wf = true) (y1 : len1 * 1 ≤ 140737488351232) :
 Calls Try.prog 3 #[.slice a0 len0 cap0, .slice a1 len1 cap1] w fun e w' => e = .returned (.bool true) ∧ Below w.heap.size w w' := by
 obtain ⟨l0, rfl, hr0, hm0, hw0, hc0⟩ := ReadsInt.ofRowC w0
 obtain ⟨l1, rfl, hr1, hm1, hw1, hc1⟩ := ReadsInt.ofRowC w1
 obtain ⟨k, h⟩ := P l0 l1 hm0 y0 hw0 hm1 y1 hw1
 refine (laws_FnFlash.calls k _ _ l0 _ _ l1 true w (Kd.C_of_reads (d := (0 : Int)) (h1 := fun _ => rfl) hr0) hc0 (Kd.C_of_reads (d := (0 : Int)) (h1 := fun _ => rfl) hr1) hc1 h).mono ?_
 rintro e w' ⟨rfl, hd⟩
 exact ⟨rfl, hd⟩
end Go.Proofs.Ytboobfpmmaaogaa.Q
namespace Go.Proofs.Ytboobfpmmaaogaa.Pure
set_option linter.unusedVariables false
set_option linter.unusedSimpArgs false
open Go Go.RowKit Go.Proofs.YtboobfpmmaaogaaW.PrintWords Go.Proofs.YtboobfpmmaaogaaW.PrintLast Go.Proofs.YtboobfpmmaaogaaW.PrintMore
theorem wrap64_id {n : Int} (h0 : -9223372036854775808 ≤ n) (h1 : n ≤ 9223372036854775807) : wrap64 n = n := by
  unfold wrap64; omega
theorem i64_of_wf {n : Int} (h : (Lit.int .i64 n).wf = true) : -9223372036854775808 ≤ n ∧ n ≤ 9223372036854775807 := by
  simpa [Lit.wf, IntKind.min, IntKind.max, IntKind.signed, IntKind.bits] using h
theorem wrap_u64 (n : Int) : IntKind.u64.wrap n = n % 18446744073709551616 := by simp [IntKind.wrap, IntKind.bits, IntKind.signed]
theorem wrap_u64_id {n : Int} (h0 : 0 ≤ n) (h1 : n < 18446744073709551616) : IntKind.u64.wrap n = n := by rw [wrap_u64]; omega
theorem Ev.ok {α : Type} {g : Nat → Option α} {r : α} {K : Nat} (h : ∀ k, K ≤ k → g k = some r) : Ev g r := ⟨K, h⟩
theorem Ev.bind1 {α β : Type} {g : Option α} {f : Nat → α → Option β} {a : α} {r : β} (h : g = some a) (k : Ev (fun n => f n a) r) : Ev (fun n => g.bind (f n)) r := by
  subst h
  exact k
theorem set_mid {α : Type} (p : List α) (a b : α) (r : List α) : (p ++ a :: r).set (p.length : Int).toNat b = p ++ b :: r := by simp
theorem snoc_app {α : Type} (p : List α) (a : α) (r : List α) : p ++ a :: r = (p ++ [a]) ++ r := by simp
theorem lt_mid {α : Type} (p : List α) (a : α) (r : List α) : (p.length : Int) < ((p ++ a :: r).length : Int) := by rw [List.length_append, List.length_cons]; omega
theorem not_lt_end {α : Type} (p : List α) : ¬ (p.length : Int) < ((p ++ []).length : Int) := by rw [List.append_nil]; omega
theorem next64 {i : Nat} (h : i < 9223372036854775807) : wrap64 ((i : Int) + 1) = ((i + 1 : Nat) : Int) := by rw [wrap64_id (by omega) (by omega)]; omega
end Go.Proofs.Ytboobfpmmaaogaa.Pure
namespace Go.Proofs.Ytboobfpmmaaogaa.Pure
set_option linter.unusedVariables false
set_option linter.unusedSimpArgs false
open Go Go.RowKit Go.Proofs.Ytboobfpmmaaogaa.Q Go.Proofs.YtboobfpmmaaogaaW.PrintWords Go.Proofs.YtboobfpmmaaogaaW.PrintLast Go.Proofs.YtboobfpmmaaogaaW.PrintMore
def St (b : List Int) (i : Int) : Prop := 0 ≤ i ∧ i ≤ b.length ∧ b.length ≤ 1048576
theorem out_range (v m a : Int) (ha : 1 < a) (h : a ≤ 9223372036854775807) : 0 ≤ spec_l01Src_n.out v m a ∧ spec_l01Src_n.out v m a < a := by
  unfold spec_l01Src_n.out
  have h0 : 0 ≤ IntKind.u64.wrap (v + m / 1048576) := by rw [wrap_u64]; omega
  rw [wrap_u64_id (n := a) (by omega) (by omega)]
  generalize IntKind.u64.wrap (v + m / 1048576) = x at h0
  have h1 : 0 ≤ Int.tmod x a := Int.tmod_nonneg _ h0
  have h2 : Int.tmod x a < a := Int.tmod_lt_of_pos _ (by omega)
  rw [wrap64_id (by omega) (by omega)]
  exact ⟨h1, h2⟩
theorem draw_n (b : List Int) (i m s a : Int) (h : St b i) (ha : a ≤ 9223372036854775807) :
    ∃ r i' m', spec_l01Src_n.f b i m s a = some (r, i', m', s) ∧ St b i' ∧ 0 ≤ r ∧ (a ≤ 1 → r = 0) ∧ (1 < a → r < a) := by
  obtain ⟨h0, h1, h2⟩ := h
  unfold spec_l01Src_n.f
  by_cases g : a ≤ 1
  · exact ⟨0, i, m, by rw [if_pos g], ⟨h0, h1, h2⟩, by omega, fun _ => rfl, fun _ => by omega⟩
  · rw [if_neg g, if_neg (by rw [wrap_u64_id (by omega) (by omega)]; omega)]
    by_cases g2 : i < (b.length : Int)
    · have := out_range (IntKind.u64.wrap (rd b i)) (spec_l01Src_n.mix m) a (by omega) ha
      exact ⟨_, _, _, by rw [if_pos g2, if_pos h0, wrap64_id (by omega) (by omega)], ⟨by omega, by omega, h2⟩, this.1, fun _ => by omega, fun _ => this.2⟩
    · have := out_range 0 (spec_l01Src_n.mix m) a (by omega) ha
      exact ⟨_, _, _, by rw [if_neg g2], ⟨h0, h1, h2⟩, this.1, fun _ => by omega, fun _ => this.2⟩
theorem source_l0 (N : Nat) (hN : N ≤ 1048576) (l : List Int) (hl : l.length = N) (d : Nat) : ∀ (i : Nat) (m : Int), i + d = N → ∃ m' s', 0 ≤ s' ∧ s' ≤ 12 ∧ Ev (fun k => spec_l01Source.l0 k l (i : Int) l 0 m 0) (l, 0, m', s') := by
  have fin : ∀ m : Int, ∃ m' s', 0 ≤ s' ∧ s' ≤ 12 ∧ Ev (fun _ => (if (wrap64 ((l.length : Int) / 20)) > 12 then (some (l, (0 : Int), m, (12 : Int))) else (some (l, 0, m, wrap64 ((l.length : Int) / 20))))) (l, 0, m', s') := by
    intro m
    rw [wrap64_id (by omega) (by omega)]
    by_cases g : (l.length : Int) / 20 > 12
    · exact ⟨m, 12, by omega, by omega, by rw [if_pos g]; exact Ev.now _⟩
    · exact ⟨m, (l.length : Int) / 20, by omega, by omega, by rw [if_neg g]; exact Ev.now _⟩
  induction d with
  | zero =>
    intro i m h
    obtain ⟨m', s', a, b, e⟩ := fin m
    exact ⟨m', s', a, b, Ev.step (fun k => by rw [spec_l01Source.l0, if_neg (by omega)]) e⟩
  | succ d ih =>
    intro i m h
    by_cases g : (i : Int) < 64
    · obtain ⟨m', s', a, b, e⟩ := ih (i + 1) (IntKind.u64.wrap ((Go.bits .xor .u64 m (IntKind.u64.wrap (rd l (i : Int)))) * 1099511628211)) (by omega)
      exact ⟨m', s', a, b, Ev.step (fun k => by rw [spec_l01Source.l0, if_pos (by omega), if_pos g, if_pos (by omega), next64 (by omega)]) e⟩
    · obtain ⟨m', s', a, b, e⟩ := fin m
      exact ⟨m', s', a, b, Ev.step (fun k => by rw [spec_l01Source.l0, if_pos (by omega), if_neg g]) e⟩
theorem draw_source (l : List Int) (h : l.length ≤ 1048576) : ∃ m s, 0 ≤ s ∧ s ≤ 12 ∧ St l 0 ∧ Ev (fun k => spec_l01Source.f k l) (l, 0, m, s) := by
  obtain ⟨m, s, a, b, e⟩ := source_l0 l.length h l rfl l.length 0 88172645463325252 (by omega)
  exact ⟨m, s, a, b, ⟨by omega, by omega, h⟩, e⟩
theorem draw_one (b : List Int) (i m s a : Int) (h : St b i) (ha : a ≤ 9223372036854775807) :
    ∃ r i' m', spec_l01Src_one.f b i m s a = some (r, i', m', s) ∧ St b i' := by
  obtain ⟨r, i', m', e, h', _⟩ := draw_n b i m s a h ha
  unfold spec_l01Src_one.f
  rw [e]
  exact ⟨_, _, _, rfl, h'⟩
theorem edges_range : ∀ x ∈ ([0, 1, (-1), 2, 1000, 1001, 2147483648, 2147483647, (-2147483648), 4611686018427387904, 9223372036854775807, (-9223372036854775808), 1000000, 1000001] : List Int), -9223372036854775808 ≤ x ∧ x ≤ 9223372036854775807 := by decide
theorem draw_edge (b : List Int) (i m s : Int) (h : St b i) : ∃ r i' m', spec_l01Src_edge.f b i m s = some (r, i', m', s) ∧ St b i' ∧ -9223372036854775808 ≤ r ∧ r ≤ 9223372036854775807 := by
  unfold spec_l01Src_edge.f
  obtain ⟨r, i', m', e, h', b0, b1, b2⟩ := draw_n b i m s 14 h (by omega)
  have b2 := b2 (by omega)
  simp only [Option.bind_some, e]
  rw [if_pos b0, if_pos (by simp only [List.length_cons, List.length_nil]; omega)]
  refine ⟨_, _, _, rfl, h', edges_range _ ?_⟩
  have hl : r.toNat < ([0, 1, (-1), 2, 1000, 1001, 2147483648, 2147483647, (-2147483648), 4611686018427387904, 9223372036854775807, (-9223372036854775808), 1000000, 1000001] : List Int).length := by simp only [List.length_cons, List.length_nil]; omega
  rw [rd, List.getD_eq_getElem?_getD, List.getElem?_eq_getElem hl, Option.getD_some]
  exact List.getElem_mem _
theorem draw_bytes_l0 (b : List Int) (s n : Int) (hn : n ≤ 1000000) (d : Nat) : ∀ (j : Nat) (acc : List Int) (i m : Int), (j : Int) + d = n → acc.length = j → St b i →
    ∃ r i' m', Ev (fun k => spec_l01Src_bytes.l0 k n acc (j : Int) b i m s) (r, i', m', s) ∧ St b i' ∧ (r.size : Int) = n := by
  induction d with
  | zero =>
    intro j acc i m h hl hs
    exact ⟨strOfNums acc, i, m, Ev.step (fun k => by rw [spec_l01Src_bytes.l0, if_neg (by omega)]) (Ev.now _), hs, by rw [strOfNums_size]; omega⟩
  | succ d ih =>
    intro j acc i m h hl hs
    obtain ⟨r, i', m', e, h', _⟩ := draw_n b i m s 256 hs (by omega)
    obtain ⟨r2, i2, m2, e2, h2, b2⟩ := ih (j + 1) (acc ++ [r % 256]) i' m' (by omega) (by simp; omega) h'
    refine ⟨r2, i2, m2, Ev.step (fun k => by rw [spec_l01Src_bytes.l0, if_pos (by omega), e, next64 (by omega)]) ?_, h2, b2⟩
    simp only [Option.bind_some, if_pos (show acc.length < 140737488355328 by omega)]
    exact e2
theorem draw_bytes (b : List Int) (i m s n : Int) (hn0 : 0 ≤ n) (hn : n ≤ 1000000) (hs : St b i) :
    ∃ r i' m', Ev (fun k => spec_l01Src_bytes.f k b i m s n) (r, i', m', s) ∧ St b i' ∧ (r.size : Int) = n := by
  unfold spec_l01Src_bytes.f
  exact draw_bytes_l0 b s n hn n.toNat 0 [] i m (by omega) (by simp) hs
theorem rdS_mid (p : List ByteArray) (a : ByteArray) (r : List ByteArray) : rdOf ByteArray.empty (p ++ a :: r) (p.length : Int) = a := by simp [rdOf]
theorem lenS_snoc {α : Type} (q : List α) (e : α) : (q ++ [e]).length = q.length + 1 := by simp
abbrev Dty := S83
theorem rdD_mid (p : List Dty) (a : Dty) (r : List Dty) : rd_T83 (p ++ a :: r) (p.length : Int) = a := by simp [rd_T83]
theorem within_eq (a b c : Int) : impl_within.f a b c = some (decide (b ≤ a ∧ a ≤ c)) := by
  unfold impl_within.f
  by_cases h : a ≥ b
  · rw [if_pos h]; congr 1; rw [Bool.eq_iff_iff]; simp; omega
  · rw [if_neg h]; congr 1; simp; omega
theorem l03Is_eq (a b c : Int) : spec_l03Is.f a b c = some (decide (b ≤ a ∧ a ≤ c)) := by
  unfold spec_l03Is.f
  by_cases h : a ≥ b
  · rw [if_pos h]; congr 1; rw [Bool.eq_iff_iff]; simp; omega
  · rw [if_neg h]; congr 1; simp; omega
theorem idx_before {α : Type} (p : α → Bool) (x : α) (r : List α) (hx : p x = true) : ∀ (a : List α) (i : Int), (idxFrom p (a ++ x :: r) i < i + a.length ↔ a.any p = true) := by
  intro a
  induction a with
  | nil => intro i; simp [idxFrom, hx]
  | cons y a ih =>
    intro i
    rw [List.cons_append, idxFrom, List.any_cons]
    by_cases h : p y = true
    · rw [if_pos h, h]; simp; omega
    · rw [if_neg h, Bool.eq_false_iff.2 h, Bool.false_or, ← ih (i + 1)]; simp only [List.length_cons]; omega
def dirtM (n : Int) : List Dty → List Dty → Bool
  | _, [] => true
  | p, x :: r => if impl_isFlash.has n x.f0 = true then (if (x.f1.size : Int) > 96 then false else if p.any (impl_Flash_dirty.is x.f0) = true then false else dirtM n (p ++ [x]) r) else false
def flashM (S : List ByteArray) (D : List Dty) : Bool := impl_isFlash.head S D && dirtM S.length [] D
theorem scan_eq (n : Int) (r : List Dty) : ∀ (p : List Dty), impl_isFlash.scan n (p ++ r) r (p.length : Int) = dirtM n p r := by
  induction r with
  | nil => intro p; rfl
  | cons x r ih =>
    intro p
    have e : ((p.length : Int) + 1) = ((p ++ [x]).length : Int) := by simp
    have ea : p ++ x :: r = (p ++ [x]) ++ r := by simp
    have hx : impl_Flash_dirty.is x.f0 x = true := by simp [impl_Flash_dirty.is]
    have hb := idx_before (impl_Flash_dirty.is x.f0) x r hx p 0
    rw [Int.zero_add] at hb
    have ih' := ih (p ++ [x])
    rw [← ea, ← e] at ih'
    rw [impl_isFlash.scan, dirtM, ih']
    by_cases g : p.any (impl_Flash_dirty.is x.f0) = true
    · simp only [if_pos g, if_pos (hb.2 g)]
    · simp only [if_neg g, if_neg (fun h => g (hb.1 h))]
theorem implFlash (S : List ByteArray) (D : List Dty) (h1 : S.length ≤ 9223372036854775807) (h2 : D.length ≤ 9223372036854775807) : impl_isFlash.f S D = some (flashM S D) := by
  have := scan_eq S.length D []
  unfold impl_isFlash.f flashM
  rw [if_pos ⟨h1, h2⟩, ← this]; rfl
theorem specTwo (n : Nat) (S : List ByteArray) (L : List Dty) (x : Dty) (r : List Dty) (R : Bool) (q2 : List Dty) : ∀ (q1 : List Dty), (q1 ++ q2).length ≤ 40 → L = (q1 ++ q2) ++ x :: r →
    Ev (fun k => spec_FlashRight.l1 k (((q1 ++ q2).length : Int) + 1) S L) R →
    Ev (fun k => spec_FlashRight.l2 k ((q1 ++ q2).length : Int) (q1.length : Int) S L) (if q2.any (impl_Flash_dirty.is x.f0) = true then false else R) := by
  induction q2 with
  | nil =>
    intro q1 h hL hR
    rw [List.append_nil] at h hL hR ⊢
    refine Ev.step (f := fun k => spec_FlashRight.l1 k ((q1.length : Int) + 1) S L) (fun k => by rw [spec_FlashRight.l2, if_neg (by omega), wrap64_id (n := (q1.length : Int) + 1) (by omega) (by omega)]) ?_
    simpa using hR
  | cons y q2 ih =>
    intro q1 h hL hR
    have ea : q1 ++ y :: q2 = (q1 ++ [y]) ++ q2 := by simp
    have hlen : (q1 ++ y :: q2).length = q1.length + 1 + q2.length := by simp; omega
    have hy : rd_T83 L (q1.length : Int) = y := by rw [hL, List.append_assoc, List.cons_append]; exact rdD_mid _ _ _
    have hxx : rd_T83 L ((q1 ++ y :: q2).length : Int) = x := by rw [hL]; exact rdD_mid _ _ _
    have hLl : ((q1 ++ y :: q2).length : Int) < (L.length : Int) := by rw [hL]; exact lt_mid _ _ _
    have ih' := ih (q1 ++ [y]) (by rw [← ea]; exact h) (by rw [← ea]; exact hL) (by rw [← ea]; exact hR)
    rw [← ea, lenS_snoc] at ih'
    refine Ev.step (fun k => by rw [spec_FlashRight.l2, if_pos (by omega), if_pos (show (0 : Int) ≤ (q1.length : Int) by omega), if_pos (show (q1.length : Int) < (L.length : Int) by omega), if_pos (by omega), if_pos hLl, hy, hxx, next64 (by omega)]) ?_
    rw [List.any_cons]
    by_cases g : y.f0 = x.f0
    · simp only [if_pos g]
      rw [show impl_Flash_dirty.is x.f0 y = true by simp [impl_Flash_dirty.is, g], Bool.true_or, if_pos rfl]
      exact Ev.now _
    · simp only [if_neg g]
      rw [show impl_Flash_dirty.is x.f0 y = false by simp [impl_Flash_dirty.is, g], Bool.false_or]
      exact ih'
theorem specDirt (S : List ByteArray) (hS : 1 ≤ S.length ∧ S.length ≤ 40) (L : List Dty) (hL : L.length ≤ 40) (r : List Dty) : ∀ (p : List Dty), L = p ++ r → Ev (fun k => spec_FlashRight.l1 k (p.length : Int) S L) (dirtM S.length p r) := by
  induction r with
  | nil =>
    intro p h
    subst h
    exact Ev.step (f := fun _ => some true) (fun k => by rw [spec_FlashRight.l1, if_neg (not_lt_end p)]) (Ev.now _)
  | cons x r ih =>
    intro p h
    have hl : p.length + 1 + r.length ≤ 40 := by rw [h] at hL; simp at hL; omega
    have hlt : (p.length : Int) < (L.length : Int) := by rw [h]; exact lt_mid p x r
    have hx : rd_T83 L (p.length : Int) = x := by rw [h]; exact rdD_mid _ _ _
    have ih' := ih (p ++ [x]) (by rw [h]; simp)
    rw [lenS_snoc] at ih'
    have h2 := specTwo 0 S L x r _ p [] (by simp; omega) (by simpa using h) (by simpa using ih')
    rw [List.nil_append] at h2
    refine Ev.step (fun k => by rw [spec_FlashRight.l1, if_pos hlt, if_pos (by omega), hx, wrap64_id (n := (S.length : Int) - 1) (by omega) (by omega)]) ?_
    simp only [l03Is_eq, Option.bind_some]
    rw [dirtM]
    unfold impl_isFlash.has
    by_cases g : 0 ≤ x.f0 ∧ x.f0 ≤ (S.length : Int) - 1
    · simp only [decide_eq_true g, if_true]
      by_cases g2 : (x.f1.size : Int) > 96
      · rw [decide_eq_true g2, if_pos g2]
        exact Ev.step (f := fun _ => some false) (fun k => by rw [spec_FlashRight.j3, if_pos rfl]) (Ev.now _)
      · rw [decide_eq_false g2, if_neg g2]
        exact Ev.step (f := fun k => spec_FlashRight.l2 k (p.length : Int) 0 S L) (fun k => by rw [spec_FlashRight.j3, if_neg (by decide)]) h2
    · simp only [decide_eq_false g, Bool.false_eq_true, if_false]
      exact Ev.step (f := fun _ => some false) (fun k => by rw [spec_FlashRight.j3, if_pos rfl]) (Ev.now _)
theorem specSize (L : List Dty) (S : List ByteArray) (hS : S.length ≤ 40) (R : Bool) (hR : Ev (fun k => spec_FlashRight.l1 k 0 S L) R) (r : List ByteArray) : ∀ (p : List ByteArray), S = p ++ r → Ev (fun k => spec_FlashRight.l0 k (p.length : Int) S L) (!(r.any impl_isFlash.long) && R) := by
  induction r with
  | nil =>
    intro p h
    subst h
    refine Ev.step (fun k => by rw [spec_FlashRight.l0, if_neg (not_lt_end p)]) ?_
    simpa using hR
  | cons x r ih =>
    intro p h
    have hl : p.length + 1 + r.length ≤ 40 := by rw [h] at hS; simp at hS; omega
    have hlt : (p.length : Int) < (S.length : Int) := by rw [h]; exact lt_mid p x r
    have hx : rdOf ByteArray.empty S (p.length : Int) = x := by rw [h]; exact rdS_mid _ _ _
    have ih' := ih (p ++ [x]) (by rw [h]; simp)
    rw [lenS_snoc] at ih'
    refine Ev.step (fun k => by rw [spec_FlashRight.l0, if_pos hlt, if_pos (by omega), hx, next64 (by omega)]) ?_
    rw [List.any_cons]
    by_cases g : (x.size : Int) > 96
    · simp only [if_pos g]
      rw [show impl_isFlash.long x = true from decide_eq_true g, Bool.true_or, Bool.not_true, Bool.false_and]
      exact Ev.now _
    · simp only [if_neg g]
      rw [show impl_isFlash.long x = false from decide_eq_false g, Bool.false_or]
      exact ih'
theorem specFlash (S : List ByteArray) (D : List Dty) : Ev (fun k => spec_FlashRight.f k S D) (flashM S D) := by
  unfold spec_FlashRight.f flashM impl_isFlash.head
  by_cases h1 : (S.length : Int) < 1
  · simp only [if_pos h1]
    rw [decide_eq_false (show ¬ (1 ≤ (S.length : Int) ∧ (S.length : Int) ≤ 40) by omega), Bool.false_and, Bool.false_and]
    exact Ev.step (f := fun _ => some false) (fun k => by rw [spec_FlashRight.j0, if_pos rfl]) (Ev.now _)
  · simp only [if_neg h1]
    by_cases h2 : (S.length : Int) > 40
    · simp only [if_pos h2]
      rw [decide_eq_false (show ¬ (1 ≤ (S.length : Int) ∧ (S.length : Int) ≤ 40) by omega), Bool.false_and, Bool.false_and]
      exact Ev.step (f := fun _ => some false) (fun k => by rw [spec_FlashRight.j0, if_pos rfl]) (Ev.now _)
    · simp only [if_neg h2]
      rw [decide_eq_true (show 1 ≤ (S.length : Int) ∧ (S.length : Int) ≤ 40 by omega), Bool.true_and]
      by_cases h3 : (D.length : Int) > (S.length : Int)
      · rw [decide_eq_true h3, decide_eq_false (show ¬ (D.length : Int) ≤ (S.length : Int) by omega), Bool.false_and, Bool.false_and]
        exact Ev.step (f := fun _ => some false) (fun k => by rw [spec_FlashRight.j0, if_pos rfl]) (Ev.now _)
      · rw [decide_eq_false h3, decide_eq_true (show (D.length : Int) ≤ (S.length : Int) by omega), Bool.true_and]
        refine Ev.step (fun k => by rw [spec_FlashRight.j0, if_neg (by decide)]) ?_
        exact specSize D S (by omega) _ (specDirt S (by omega) D (by omega) D [] rfl) S [] rfl
theorem flash_len {S : List ByteArray} {D : List Dty} (h : flashM S D = true) : (1 ≤ S.length ∧ S.length ≤ 40) ∧ D.length ≤ S.length := by
  unfold flashM impl_isFlash.head at h
  simp only [Bool.and_eq_true, decide_eq_true_eq] at h
  omega
theorem dirtM_at (n : Int) : ∀ (r p : List Dty), dirtM n p r = true → ∀ x ∈ r, 0 ≤ x.f0 ∧ x.f0 ≤ n - 1 := by
  intro r
  induction r with
  | nil => intro p _ x hx; cases hx
  | cons y r ih =>
    intro p h x hx
    rw [dirtM] at h
    by_cases g : impl_isFlash.has n y.f0 = true
    · rw [if_pos g] at h
      split at h
      · cases h
      · split at h
        · cases h
        · rcases List.mem_cons.1 hx with rfl | hx
          · unfold impl_isFlash.has at g; simpa using g
          · exact ih _ h x hx
    · rw [if_neg g] at h; cases h
theorem flash_at {S : List ByteArray} {D : List Dty} (h : flashM S D = true) : ∀ x ∈ D, 0 ≤ x.f0 ∧ x.f0 < (S.length : Int) := by
  unfold flashM at h
  rw [Bool.and_eq_true] at h
  intro x hx
  have := dirtM_at _ _ _ h.2 x hx
  omega
def newOut (n : Int) : List ByteArray := if 1 ≤ n ∧ n ≤ 40 then List.replicate n.toNat (⟨#[]⟩ : ByteArray) else []
theorem newOut_length (n : Int) : (newOut n).length ≤ 40 := by
  unfold newOut; split
  · rw [List.length_replicate]; omega
  · simp
theorem implFlashNew (n : Int) : impl_FlashNew.f n = some (newOut n, []) := by
  unfold impl_FlashNew.f impl_within.f newOut
  by_cases h : 1 ≤ n ∧ n ≤ 40
  · rw [if_pos (show n ≥ 1 from h.1), Option.bind_some, decide_eq_true h.2, if_pos rfl, if_pos (by omega), if_pos (by omega), if_pos h]
  · rw [if_neg h]
    by_cases h1 : n ≥ 1
    · rw [if_pos h1, Option.bind_some, decide_eq_false (show ¬ n ≤ 40 by omega), if_neg (by decide)]
    · rw [if_neg h1, Option.bind_some, if_neg (by decide)]
theorem specFlashNew (n : Int) : spec_FlashNew.f n = some (newOut n, []) := by
  unfold spec_FlashNew.f spec_l03Is.f newOut
  by_cases h : 1 ≤ n ∧ n ≤ 40
  · rw [if_pos (show n ≥ 1 from h.1), Option.bind_some, decide_eq_true h.2, if_pos rfl, if_pos (by omega), if_pos (by omega), if_pos h]
  · rw [if_neg h]
    by_cases h1 : n ≥ 1
    · rw [if_pos h1, Option.bind_some, decide_eq_false (show ¬ n ≤ 40 by omega), if_neg (by decide)]
    · rw [if_neg h1, Option.bind_some, if_neg (by decide)]
abbrev FOut := List ByteArray × List Dty × ByteArray × Int
def illF (c : Int) : FOut := ([], [], ⟨#[]⟩, c)
theorem implHas (S : List ByteArray) (D : List Dty) (a : Int) (h : 1 ≤ S.length ∧ S.length ≤ 9223372036854775807) : impl_Flash_has.f S D a = some (decide (0 ≤ a ∧ a ≤ (S.length : Int) - 1)) := by
  unfold impl_Flash_has.f
  rw [show impl_size_string.f S = some (S.length : Int) from rfl, Option.bind_some, wrap64_id (n := (S.length : Int) - 1) (by omega) (by omega), within_eq]
  rfl
theorem implClone (S : List ByteArray) (D : List Dty) (h1 : S.length ≤ 1000000) (h2 : D.length ≤ 1000000) : impl_cloneFlash.f S D = some (S, D) := by
  unfold impl_cloneFlash.f slices_Clone_string_string.f slices_Clone_S83.f
  rw [if_pos (by omega), Option.bind_some, if_pos (by omega), Option.bind_some]
theorem specCopy (S : List ByteArray) (D : List Dty) (h1 : S.length ≤ 10000000) (h2 : D.length ≤ 10000000) : spec_l03Copy.f S D = some (S, D) := by
  unfold spec_l03Copy.f
  simp only [Option.bind_some, List.length_nil, List.nil_append, if_pos (show 0 + S.length < 8796093022208 by omega), if_pos (show 0 + D.length < 5864062014805 by omega)]
def getF (S : List ByteArray) : List Dty → Int → ByteArray
  | [], a => rdOf ByteArray.empty S a
  | x :: r, a => if x.f0 = a then x.f1 else getF S r a
theorem idx_get (S : List ByteArray) (a : Int) (r : List Dty) : ∀ (p : List Dty), (∀ x ∈ p, x.f0 ≠ a) →
    (if 0 ≤ idxFrom (impl_Flash_dirty.is a) r (p.length : Int) then (rd_T83 (p ++ r) (idxFrom (impl_Flash_dirty.is a) r (p.length : Int))).f1 else rdOf ByteArray.empty S a) = getF S r a := by
  induction r with
  | nil => intro p _; simp [idxFrom, getF]
  | cons x r ih =>
    intro p hp
    rw [idxFrom, getF]
    by_cases h : x.f0 = a
    · rw [if_pos (show impl_Flash_dirty.is a x = true by simp [impl_Flash_dirty.is, h]), if_pos (by omega), if_pos h, rdD_mid]
    · rw [if_neg (show ¬ impl_Flash_dirty.is a x = true by simp [impl_Flash_dirty.is, h]), if_neg h]
      have := ih (p ++ [x]) (fun y hy => by rcases List.mem_append.1 hy with hy | hy; exact hp y hy; rw [List.mem_singleton] at hy; rw [hy]; exact h)
      rw [← snoc_app, lenS_snoc] at this
      rw [show ((p.length + 1 : Nat) : Int) = (p.length : Int) + 1 by omega] at this
      exact this
theorem implRead (S : List ByteArray) (D : List Dty) (a : Int) (h2 : D.length ≤ 1000000) (h0 : 0 ≤ a) (h1 : a < (S.length : Int)) : impl_Flash_read.f S D a = some (getF S D a) := by
  unfold impl_Flash_read.f
  rw [show impl_Flash_dirty.f S D a = some (idxFrom (impl_Flash_dirty.is a) D 0) by unfold impl_Flash_dirty.f; rw [if_pos (by omega)], Option.bind_some]
  have e := idx_get S a D [] (fun x hx => by cases hx)
  simp only [List.length_nil, List.nil_append] at e
  rw [← e]
  have hlt := idxFrom_lt (impl_Flash_dirty.is a) D 0
  by_cases g : idxFrom (impl_Flash_dirty.is a) D 0 ≥ 0
  · rw [if_pos g, if_pos g, if_pos (by omega), if_pos (by exact g)]
    rfl
  · rw [if_neg g, if_pos h0, if_pos h1, if_neg (by exact g)]
theorem specGetF (S : List ByteArray) (a : Int) (h0 : 0 ≤ a) (h1 : a < (S.length : Int)) (N : Nat) (hN : N ≤ 1000000) (r : List Dty) : ∀ (p : List Dty), p.length + r.length = N → Ev (fun k => spec_l03Get.l0 k a (p.length : Int) S (p ++ r)) (getF S r a) := by
  induction r with
  | nil => intro p h; exact Ev.step (f := fun _ => some (rdOf ByteArray.empty S a)) (fun k => by rw [spec_l03Get.l0, if_neg (not_lt_end p), if_pos h0, if_pos h1]) (Ev.now _)
  | cons x r ih =>
    intro p h
    simp only [List.length_cons] at h
    refine Ev.step (fun k => by rw [spec_l03Get.l0, if_pos (lt_mid p x r), if_pos (by omega), rdD_mid, next64 (by omega)]) ?_
    rw [getF]
    by_cases g : x.f0 = a
    · simp only [if_pos g]; exact Ev.now _
    · simp only [if_neg g]
      have := ih (p ++ [x]) (by simp; omega)
      rw [← snoc_app, lenS_snoc] at this
      exact this
theorem specRead (S : List ByteArray) (D : List Dty) (a : Int) (h0 : 0 ≤ a) (h1 : a < (S.length : Int)) (h2 : D.length ≤ 1000000) : Ev (fun k => spec_l03Get.f k S D a) (getF S D a) := by
  unfold spec_l03Get.f
  exact specGetF S a h0 h1 D.length h2 D [] (by simp)
def readF (S : List ByteArray) (D : List Dty) (a : Int) : FOut := if flashM S D = true then (if 0 ≤ a ∧ a ≤ (S.length : Int) - 1 then (S, D, getF S D a, 0) else illF 8) else illF 1
theorem implFlashRead (S : List ByteArray) (D : List Dty) (a : Int) (h1 : S.length ≤ 9223372036854775807) (h2 : D.length ≤ 9223372036854775807) : impl_FlashRead.f S D a = some (readF S D a) := by
  unfold impl_FlashRead.f readF illF
  rw [implFlash S D h1 h2, Option.bind_some]
  by_cases g : flashM S D = true
  · obtain ⟨hs, hd⟩ := flash_len g
    rw [if_pos g, if_pos g, implHas S D a (by omega), Option.bind_some]
    by_cases g2 : 0 ≤ a ∧ a ≤ (S.length : Int) - 1
    · rw [decide_eq_true g2, if_pos rfl, if_pos g2, implClone S D (by omega) (by omega), Option.bind_some, implRead S D a (by omega) g2.1 (by omega)]; rfl
    · rw [decide_eq_false g2, if_neg (by decide), if_neg g2]
  · rw [if_neg g, if_neg g]
theorem specFlashRead (S : List ByteArray) (D : List Dty) (a : Int) : Ev (fun k => spec_FlashRead.f k S D a) (readF S D a) := by
  unfold spec_FlashRead.f readF illF spec_l03Ill.f
  refine Ev.bind (specFlash S D) ?_
  by_cases g : flashM S D = true
  · obtain ⟨hs, hd⟩ := flash_len g
    simp only [if_pos g, wrap64_id (n := (S.length : Int) - 1) (by omega) (by omega), l03Is_eq, Option.bind_some]
    by_cases g2 : 0 ≤ a ∧ a ≤ (S.length : Int) - 1
    · simp only [decide_eq_true g2, if_true, if_pos g2, specCopy S D (by omega) (by omega), Option.bind_some]
      exact Ev.bind (specRead S D a g2.1 (by omega) (by omega)) (Ev.now _)
    · simp only [decide_eq_false g2, Bool.false_eq_true, if_false, if_neg g2]
      exact Ev.now _
  · simp only [if_neg g, Option.bind_some]
    exact Ev.now _
def syncF (S : List ByteArray) (D : List Dty) : FOut := if flashM S D = true then (impl_Flash_synced S D, [], ⟨#[]⟩, 0) else illF 1
theorem synced_length : ∀ (D : List Dty) (S : List ByteArray), (impl_Flash_synced S D).length = S.length := by
  intro D
  induction D with
  | nil => intro S; rfl
  | cons x r ih => intro S; rw [impl_Flash_synced, ih, List.length_set]
theorem implFlashSync (S : List ByteArray) (D : List Dty) (h1 : S.length ≤ 9223372036854775807) (h2 : D.length ≤ 9223372036854775807) : impl_FlashSync.f S D = some (syncF S D) := by
  unfold impl_FlashSync.f syncF illF
  rw [implFlash S D h1 h2, Option.bind_some]
  by_cases g : flashM S D = true
  · obtain ⟨hs, hd⟩ := flash_len g
    have hok : impl_FlashSync.okD S D = true := by
      unfold impl_FlashSync.okD
      simp only [Bool.and_eq_true, decide_eq_true_eq, List.all_eq_true]
      exact ⟨by omega, fun x hx => flash_at g x hx⟩
    rw [if_pos g, if_pos g, implClone S D (by omega) (by omega), Option.bind_some, if_pos hok]
  · rw [if_neg g, if_neg g]
theorem specSynced (S0 : List ByteArray) (N : Nat) (hN : N ≤ 1000000) (r : List Dty) : ∀ (p : List Dty) (S : List ByteArray), p.length + r.length = N → (∀ x ∈ r, 0 ≤ x.f0 ∧ x.f0 < (S.length : Int)) → Ev (fun k => spec_l03Sync.l0 k (p.length : Int) S0 (p ++ r) S) (impl_Flash_synced S r, ([] : List Dty)) := by
  induction r with
  | nil => intro p S h _; exact Ev.step (f := fun _ => some (S, ([] : List Dty))) (fun k => by rw [spec_l03Sync.l0, if_neg (not_lt_end p)]) (Ev.now _)
  | cons x r ih =>
    intro p S h hs
    simp only [List.length_cons] at h
    obtain ⟨x0, x1⟩ := hs x (by simp)
    refine Ev.step (fun k => by rw [spec_l03Sync.l0, if_pos (lt_mid p x r), if_pos (by omega), rdD_mid, if_pos x0, if_pos x1, next64 (by omega)]) ?_
    rw [impl_Flash_synced]
    have := ih (p ++ [x]) (S.set x.f0.toNat x.f1) (by simp; omega) (fun y hy => by rw [List.length_set]; exact hs y (by simp [hy]))
    rw [← snoc_app, lenS_snoc] at this
    exact this
theorem specFlashSync (S : List ByteArray) (D : List Dty) : Ev (fun k => spec_FlashSync.f k S D) (syncF S D) := by
  unfold spec_FlashSync.f syncF illF spec_l03Ill.f
  refine Ev.bind (specFlash S D) ?_
  by_cases g : flashM S D = true
  · obtain ⟨hs, hd⟩ := flash_len g
    simp only [if_pos g]
    refine Ev.bind (a := (impl_Flash_synced S D, ([] : List Dty))) ?_ (Ev.now _)
    unfold spec_l03Sync.f
    simp only [Option.bind_some, List.length_nil, List.nil_append, if_pos (show 0 + S.length < 8796093022208 by omega)]
    exact specSynced S D.length (by omega) D [] S (by simp) (flash_at g)
  · simp only [if_neg g, Option.bind_some]
    exact Ev.now _
def writeF (S : List ByteArray) (D : List Dty) (a : Int) (d : ByteArray) : FOut :=
  if (d.size : Int) > 8000 then illF 2 else if flashM S D = true ∧ ¬ (d.size : Int) > 96 then (if 0 ≤ a ∧ a ≤ (S.length : Int) - 1 then (S, impl_Flash_put S D a d, ⟨#[]⟩, 0) else illF 8) else illF 1
theorem put_length (S : List ByteArray) (D : List Dty) (a : Int) (d : ByteArray) : (impl_Flash_put S D a d).length ≤ D.length + 1 := by
  unfold impl_Flash_put; split <;> simp
theorem implFlashWrite (S : List ByteArray) (D : List Dty) (a : Int) (d : ByteArray) (h1 : S.length ≤ 9223372036854775807) (h2 : D.length ≤ 9223372036854775807) : impl_FlashWrite.f S D a d = some (writeF S D a d) := by
  unfold impl_FlashWrite.f writeF illF
  by_cases g0 : (d.size : Int) > 8000
  · rw [if_pos g0, if_pos g0]
  · rw [if_neg g0, if_neg g0, implFlash S D h1 h2, Option.bind_some]
    by_cases g : flashM S D = true
    · obtain ⟨hs, hd⟩ := flash_len g
      rw [if_pos g]
      by_cases g1 : (d.size : Int) > 96
      · rw [if_pos g1, if_neg (fun h => h.2 g1)]
      · rw [if_neg g1, if_pos ⟨g, g1⟩, implHas S D a (by omega), Option.bind_some]
        by_cases g2 : 0 ≤ a ∧ a ≤ (S.length : Int) - 1
        · rw [decide_eq_true g2, if_pos rfl, if_pos g2, implClone S D (by omega) (by omega), Option.bind_some, if_pos (by show D.length ≤ 1000000; omega)]
        · rw [decide_eq_false g2, if_neg (by decide), if_neg g2]
    · rw [if_neg g, if_neg (fun h => g h.1)]
def putGo (a : Int) (d : ByteArray) : List Dty → List Dty → List Dty
  | p, [] => p ++ [⟨a, d⟩]
  | p, x :: r => if x.f0 = a then p ++ ⟨x.f0, d⟩ :: r else putGo a d (p ++ [x]) r
theorem putGo_eq (S : List ByteArray) (a : Int) (d : ByteArray) (r : List Dty) : ∀ (p : List Dty), putGo a d p r = (if 0 ≤ idxFrom (impl_Flash_dirty.is a) r (p.length : Int) then (p ++ r).set (idxFrom (impl_Flash_dirty.is a) r (p.length : Int)).toNat ⟨(rd_T83 (p ++ r) (idxFrom (impl_Flash_dirty.is a) r (p.length : Int))).f0, d⟩ else (p ++ r) ++ [⟨a, d⟩]) := by
  induction r with
  | nil => intro p; simp [putGo, idxFrom]
  | cons x r ih =>
    intro p
    rw [putGo, idxFrom]
    by_cases h : x.f0 = a
    · rw [if_pos h, if_pos (show impl_Flash_dirty.is a x = true by simp [impl_Flash_dirty.is, h]), if_pos (show (0 : Int) ≤ (p.length : Int) by omega), rdD_mid, set_mid]
    · rw [if_neg (show ¬ impl_Flash_dirty.is a x = true by simp [impl_Flash_dirty.is, h]), if_neg h, ih (p ++ [x])]
      rw [lenS_snoc, show p ++ [x] ++ r = p ++ x :: r by simp, show ((p.length + 1 : Nat) : Int) = (p.length : Int) + 1 by omega]
theorem specPutF_l0 (S : List ByteArray) (a : Int) (d : ByteArray) (N : Nat) (hN : N ≤ 1000000) (r : List Dty) : ∀ (p : List Dty), p.length + r.length = N → Ev (fun k => spec_l03Put.l0 k a d (p.length : Int) S (p ++ r)) (S, putGo a d p r) := by
  induction r with
  | nil => intro p h; simp at h; exact Ev.step (f := fun _ => some (S, p ++ [⟨a, d⟩])) (fun k => by rw [spec_l03Put.l0, if_neg (not_lt_end p), List.append_nil, if_pos (by omega)]) (Ev.now _)
  | cons x r ih =>
    intro p h
    simp only [List.length_cons] at h
    refine Ev.step (fun k => by rw [spec_l03Put.l0, if_pos (lt_mid p x r), if_pos (by omega), rdD_mid, next64 (by omega), set_mid]) ?_
    rw [putGo]
    by_cases g : x.f0 = a
    · simp only [if_pos g]; exact Ev.now _
    · simp only [if_neg g]
      have := ih (p ++ [x]) (by simp; omega)
      rw [← snoc_app, lenS_snoc] at this
      exact this
theorem specFlashWrite (S : List ByteArray) (D : List Dty) (a : Int) (d : ByteArray) : Ev (fun k => spec_FlashWrite.f k S D a d) (writeF S D a d) := by
  unfold spec_FlashWrite.f writeF illF spec_l03Ill.f
  by_cases g0 : (d.size : Int) > 8000
  · simp only [if_pos g0, Option.bind_some]; exact Ev.now _
  · simp only [if_neg g0]
    refine Ev.bind (specFlash S D) ?_
    by_cases g : flashM S D = true
    · obtain ⟨hs, hd⟩ := flash_len g
      simp only [if_pos g]
      by_cases g1 : (d.size : Int) > 96
      · rw [if_neg (fun h => h.2 g1), decide_eq_true g1]
        exact Ev.step (f := fun _ => some ([], [], ⟨#[]⟩, 1)) (fun k => by rw [spec_FlashWrite.j0, if_pos rfl]; rfl) (Ev.now _)
      · rw [if_pos ⟨g, g1⟩, decide_eq_false g1]
        refine Ev.step (fun k => by rw [spec_FlashWrite.j0, if_neg (by decide), wrap64_id (n := (S.length : Int) - 1) (by omega) (by omega), l03Is_eq, Option.bind_some]) ?_
        by_cases g2 : 0 ≤ a ∧ a ≤ (S.length : Int) - 1
        · simp only [decide_eq_true g2, if_true, if_pos g2]
          refine Ev.bind (a := (S, impl_Flash_put S D a d)) ?_ (Ev.now _)
          unfold spec_l03Put.f
          rw [specCopy S D (by omega) (by omega)]
          simp only [Option.bind_some]
          have e := putGo_eq S a d D []
          simp only [List.length_nil, List.nil_append] at e
          unfold impl_Flash_put
          have := specPutF_l0 S a d D.length (by omega) D [] (by simp)
          rw [e] at this
          exact this
        · simp only [decide_eq_false g2, Bool.false_eq_true, if_false, if_neg g2]
          unfold spec_l03Ill.f
          exact Ev.now _
    · simp only [if_neg g, if_neg (show ¬ (flashM S D = true ∧ ¬ (d.size : Int) > 96) from fun h => g h.1)]
      exact Ev.step (f := fun _ => some ([], [], ⟨#[]⟩, 1)) (fun k => by rw [spec_FlashWrite.j0, if_pos rfl]; rfl) (Ev.now _)
theorem syncF_len1 (S : List ByteArray) (D : List Dty) : (syncF S D).1.length ≤ S.length := by
  unfold syncF illF; split
  · rw [synced_length]; exact Nat.le_refl _
  · simp
theorem syncF_len2 (S : List ByteArray) (D : List Dty) : (syncF S D).2.1.length ≤ D.length + 1 := by
  unfold syncF illF; split <;> simp
theorem readF_len1 (S : List ByteArray) (D : List Dty) (a : Int) : (readF S D a).1.length ≤ S.length := by
  unfold readF illF; split
  · split <;> simp
  · simp
theorem readF_len2 (S : List ByteArray) (D : List Dty) (a : Int) : (readF S D a).2.1.length ≤ D.length + 1 := by
  unfold readF illF; split
  · split <;> simp
  · simp
theorem writeF_len1 (S : List ByteArray) (D : List Dty) (a : Int) (d : ByteArray) : (writeF S D a d).1.length ≤ S.length := by
  unfold writeF illF; split
  · simp
  · split
    · split <;> simp
    · simp
theorem writeF_len2 (S : List ByteArray) (D : List Dty) (a : Int) (d : ByteArray) : (writeF S D a d).2.1.length ≤ D.length + 1 := by
  unfold writeF illF; split
  · simp
  · split
    · split
      · exact put_length S D a d
      · simp
    · simp
theorem writeF_ok (S : List ByteArray) (D : List Dty) (a : Int) (d : ByteArray) (h : (writeF S D a d).2.2.2 = 0) : writeF S D a d = (S, impl_Flash_put S D a d, ⟨#[]⟩, 0) ∧ flashM S D = true ∧ d.size ≤ 96 ∧ 0 ≤ a ∧ a ≤ (S.length : Int) - 1 := by
  unfold writeF at h ⊢
  by_cases g0 : (d.size : Int) > 8000
  · rw [if_pos g0] at h; exact absurd h (by unfold illF; decide)
  rw [if_neg g0] at h ⊢
  by_cases g1 : flashM S D = true ∧ ¬ (d.size : Int) > 96
  rotate_left
  · rw [if_neg g1] at h; exact absurd h (by unfold illF; decide)
  rw [if_pos g1] at h ⊢
  by_cases g2 : 0 ≤ a ∧ a ≤ (S.length : Int) - 1
  rotate_left
  · rw [if_neg g2] at h; exact absurd h (by unfold illF; decide)
  rw [if_pos g2]
  exact ⟨rfl, g1.1, by omega, g2⟩
theorem syncF_ok (S : List ByteArray) (D : List Dty) (h : (syncF S D).2.2.2 = 0) : syncF S D = (impl_Flash_synced S D, [], ⟨#[]⟩, 0) ∧ flashM S D = true := by
  unfold syncF at h ⊢
  by_cases g : flashM S D = true
  · rw [if_pos g]; exact ⟨rfl, g⟩
  · rw [if_neg g] at h; exact absurd h (by unfold illF; decide)
theorem draw_flash_j4 (b : List Int) (s i m : Int) (S : List ByteArray) (D : List Dty) : Ev (fun n => spec_l01Src_l03Flash.j4 n b i m s S D) (S, D, i, m, s) := Ev.step (fun n => by rw [spec_l01Src_l03Flash.j4]) (Ev.now _)
theorem draw_flash_l1 (b : List Int) (s : Int) (D : List Dty) (d : Nat) : ∀ (S : List ByteArray) (i m : Int), S.length + d = 41 → St b i → ∃ S' i' m', Ev (fun n => spec_l01Src_l03Flash.l1 n b i m s S D) (S', D, i', m', s) ∧ St b i' ∧ S'.length ≤ 41 := by
  induction d with
  | zero =>
    intro S i m h hs
    obtain ⟨r1, i1, m1, e1, s1, a1, _, c1⟩ := draw_n b i m s 2 hs (by omega)
    have c1 := c1 (by omega)
    refine ⟨S, i1, m1, Ev.step (fun n => by rw [spec_l01Src_l03Flash.l1, e1, Option.bind_some, wrap64_id (by omega) (by omega), if_neg (by omega)]) (draw_flash_j4 b s i1 m1 S D), s1, by omega⟩
  | succ d ih =>
    intro S i m h hs
    obtain ⟨r1, i1, m1, e1, s1, a1, _, c1⟩ := draw_n b i m s 2 hs (by omega)
    have c1 := c1 (by omega)
    by_cases g : (S.length : Int) < 40 + r1
    · obtain ⟨S', i', m', e, s', l⟩ := ih (S ++ [⟨#[]⟩]) i1 m1 (by simp; omega) s1
      exact ⟨S', i', m', Ev.step (fun n => by rw [spec_l01Src_l03Flash.l1, e1, Option.bind_some, wrap64_id (by omega) (by omega), if_pos g, if_pos (by omega)]) e, s', l⟩
    · exact ⟨S, i1, m1, Ev.step (fun n => by rw [spec_l01Src_l03Flash.l1, e1, Option.bind_some, wrap64_id (by omega) (by omega), if_neg g]) (draw_flash_j4 b s i1 m1 S D), s1, by omega⟩
theorem draw_flash_end (b : List Int) (s : Int) (S : List ByteArray) (D : List Dty) (i m : Int) (h0 : 1 ≤ S.length ∧ S.length ≤ 40) (hD : D.length ≤ 50) (hs : St b i) :
    ∃ S' D' i' m', Ev (fun n => spec_l01Src_l03Flash.l0 n 0 b i m s S D) (S', D', i', m', s) ∧ St b i' ∧ S'.length ≤ 41 ∧ D'.length ≤ 60 := by
  obtain ⟨g1, i1, m1, e1, s1⟩ := draw_one b i m s 15 hs (by omega)
  obtain ⟨r2, i2, m2, e2, s2, a2, _, c2⟩ := draw_n b i1 m1 s 4 s1 (by omega)
  obtain ⟨r3, i3, m3, e3, s3, _⟩ := draw_n b i2 m2 s 8 s2 (by omega)
  obtain ⟨r4, i4, m4, e4, s4, a4, _, c4⟩ := draw_n b i2 m2 s 2 s2 (by omega)
  have c4 := c4 (by omega)
  by_cases g : g1 = true
  rotate_left
  · exact ⟨S, D, i1, m1, Ev.step (fun n => by rw [spec_l01Src_l03Flash.l0, if_neg (by decide), e1, Option.bind_some, if_neg g]) (draw_flash_j4 b s i1 m1 S D), s1, by omega, by omega⟩
  by_cases k0 : r2 = 0
  · exact ⟨[], D, i2, m2, Ev.step (fun n => by rw [spec_l01Src_l03Flash.l0, if_neg (by decide), e1, Option.bind_some, if_pos g, e2, Option.bind_some, if_pos k0]) (draw_flash_j4 b s i2 m2 [] D), s2, by simp, by omega⟩
  by_cases k1 : r2 = 1
  · exact ⟨S, D ++ [⟨r3, ⟨#[]⟩⟩], i3, m3, Ev.step (fun n => by rw [spec_l01Src_l03Flash.l0, if_neg (by decide), e1, Option.bind_some, if_pos g, e2, Option.bind_some, if_neg k0, if_pos k1, e3, Option.bind_some, if_pos (by omega)]) (draw_flash_j4 b s i3 m3 S (D ++ [⟨r3, ⟨#[]⟩⟩])), s3, by omega, by simp; omega⟩
  by_cases k2 : r2 = 2
  · refine ⟨S.set (0 : Int).toNat (strOfNums (List.replicate (96 + r4).toNat 0)), D, i4, m4, Ev.step (fun n => by rw [spec_l01Src_l03Flash.l0, if_neg (by decide), e1, Option.bind_some, if_pos g, e2, Option.bind_some, if_neg k0, if_neg k1, if_pos k2, e4, Option.bind_some, wrap64_id (n := 96 + r4) (by omega) (by omega), if_pos (by omega), if_pos (by omega), if_pos (by omega)]) (draw_flash_j4 b s i4 m4 _ D), s4, by rw [List.length_set]; omega, by omega⟩
  · obtain ⟨S', i', m', e, s', l⟩ := draw_flash_l1 b s D (41 - S.length) S i2 m2 (by omega) s2
    exact ⟨S', D, i', m', Ev.step (fun n => by rw [spec_l01Src_l03Flash.l0, if_neg (by decide), e1, Option.bind_some, if_pos g, e2, Option.bind_some, if_neg k0, if_neg k1, if_neg k2]) e, s', l, by omega⟩
theorem draw_flash_l0 (b : List Int) (s : Int) (d : Nat) : ∀ (S : List ByteArray) (D : List Dty) (i m : Int), 1 ≤ S.length ∧ S.length ≤ 40 → D.length + d ≤ 50 → St b i →
    ∃ S' D' i' m', Ev (fun n => spec_l01Src_l03Flash.l0 n (d : Int) b i m s S D) (S', D', i', m', s) ∧ St b i' ∧ S'.length ≤ 41 ∧ D'.length ≤ 60 := by
  induction d with
  | zero => intro S D i m h0 hD hs; exact draw_flash_end b s S D i m h0 (by omega) hs
  | succ d ih =>
    intro S D i m h0 hD hs
    have hw : wrap64 (((d + 1 : Nat) : Int) - 1) = (d : Int) := by rw [wrap64_id (by omega) (by omega)]; omega
    have fin : ∀ (R : FOut) (i m : Int), (R.2.2.2 = 0 → R.1.length = S.length ∧ R.2.1.length ≤ D.length + 1) → St b i →
        ∃ S' D' i' m', Ev (fun n => spec_l01Src_l03Flash.j1 n ((d + 1 : Nat) : Int) b i m s S D R.1 R.2.1 R.2.2.1 R.2.2.2) (S', D', i', m', s) ∧ St b i' ∧ S'.length ≤ 41 ∧ D'.length ≤ 60 := by
      intro R i m hR hs
      by_cases c : R.2.2.2 = 0
      · obtain ⟨l1, l2⟩ := hR c
        obtain ⟨S', D', i', m', e, s', q⟩ := ih R.1 R.2.1 i m (by omega) (by omega) hs
        exact ⟨S', D', i', m', Ev.step (fun n => by rw [spec_l01Src_l03Flash.j1, if_pos c]) (Ev.step (fun n => by rw [spec_l01Src_l03Flash.j2, hw]) e), s', q⟩
      · obtain ⟨S', D', i', m', e, s', q⟩ := ih S D i m h0 (by omega) hs
        exact ⟨S', D', i', m', Ev.step (fun n => by rw [spec_l01Src_l03Flash.j1, if_neg c]) (Ev.step (fun n => by rw [spec_l01Src_l03Flash.j2, hw]) e), s', q⟩
    obtain ⟨r1, i1, m1, e1, s1, _⟩ := draw_n b i m s 7 hs (by omega)
    obtain ⟨r2, i2, m2, e2, s2, a2, _, c2⟩ := draw_n b i1 m1 s 5 s1 (by omega)
    have c2 := c2 (by omega)
    obtain ⟨t, i3, m3, e3, s3, _⟩ := draw_bytes b i2 m2 s r2 a2 (by omega) s2
    obtain ⟨g1, i4, m4, e4, s4⟩ := draw_one b i3 m3 s 4 s3 (by omega)
    by_cases g : g1 = true
    · obtain ⟨S', D', i', m', e, s', q⟩ := fin (syncF S D) i4 m4 (fun c => by obtain ⟨h, _⟩ := syncF_ok S D c; rw [h]; exact ⟨synced_length D S, by simp⟩) s4
      refine ⟨S', D', i', m', Ev.step (fun n => by rw [spec_l01Src_l03Flash.l0, if_pos (by omega), e1, Option.bind_some, e2, Option.bind_some]) (Ev.bind e3 (Ev.bind (specFlashWrite S D r1 t) ?_)), s', q⟩
      simp only [e4, Option.bind_some, if_pos g]
      exact Ev.bind (specFlashSync S D) e
    · obtain ⟨S', D', i', m', e, s', q⟩ := fin (writeF S D r1 t) i4 m4 (fun c => by obtain ⟨h, _⟩ := writeF_ok S D r1 t c; rw [h]; exact ⟨rfl, put_length S D r1 t⟩) s4
      refine ⟨S', D', i', m', Ev.step (fun n => by rw [spec_l01Src_l03Flash.l0, if_pos (by omega), e1, Option.bind_some, e2, Option.bind_some]) (Ev.bind e3 (Ev.bind (specFlashWrite S D r1 t) ?_)), s', q⟩
      simp only [e4, Option.bind_some, if_neg g]
      exact e
theorem draw_flash (b : List Int) (i m s : Int) (hs : St b i) : ∃ S D i' m', Ev (fun n => spec_l01Src_l03Flash.f n b i m s) (S, D, i', m', s) ∧ St b i' ∧ S.length ≤ 41 ∧ D.length ≤ 60 := by
  unfold spec_l01Src_l03Flash.f
  obtain ⟨r1, i1, m1, e1, s1, a1, _, c1⟩ := draw_n b i m s 7 hs (by omega)
  have c1 := c1 (by omega)
  obtain ⟨r2, i2, m2, e2, s2, a2, _, c2⟩ := draw_n b i1 m1 s 9 s1 (by omega)
  have c2 := c2 (by omega)
  have hl : 1 ≤ (newOut (1 + r1)).length ∧ (newOut (1 + r1)).length ≤ 40 := by
    refine ⟨?_, newOut_length _⟩
    unfold newOut; rw [if_pos (by omega), List.length_replicate]; omega
  obtain ⟨S, D, i', m', e, s', q⟩ := draw_flash_l0 b s r2.toNat (newOut (1 + r1)) [] i2 m2 hl (by simp; omega) s2
  rw [Int.toNat_of_nonneg a2] at e
  simp only [e1, Option.bind_some, wrap64_id (n := 1 + r1) (by omega) (by omega), specFlashNew, e2]
  exact ⟨S, D, i', m', e, s', q⟩
theorem wf_of_range {x : Int} (h0 : -9223372036854775808 ≤ x) (h1 : x ≤ 9223372036854775807) : (Lit.int .i64 x).wf = true := by
  simp [Lit.wf, IntKind.min, IntKind.max, IntKind.signed, IntKind.bits]; omega
theorem draw_fates_l0 (b : List Int) (s : Int) (d : Nat) : ∀ (l : List Int) (i m : Int), d + l.length ≤ 50 → (∀ x ∈ l, (Lit.int .i64 x).wf = true) → St b i →
    ∃ l' i' m', Ev (fun n => spec_l01Src_l03Fates.l0 n l (d : Int) b i m s) (l', i', m', s) ∧ St b i' ∧ l'.length ≤ 60 ∧ (∀ x ∈ l', (Lit.int .i64 x).wf = true) := by
  induction d with
  | zero =>
    intro l i m hl hw hs
    obtain ⟨g1, i1, m1, e1, s1⟩ := draw_one b i m s 25 hs (by omega)
    obtain ⟨r2, i2, m2, e2, s2, h0, h1⟩ := draw_edge b i1 m1 s s1
    by_cases g : g1 = true
    · refine ⟨l ++ [r2], i2, m2, Ev.step (fun n => by rw [spec_l01Src_l03Fates.l0, if_neg (by decide), e1, Option.bind_some, if_pos g, e2, Option.bind_some, if_pos (by omega)]) (Ev.now _), s2, by simp; omega, fun x hx => ?_⟩
      rcases List.mem_append.1 hx with hx | hx
      · exact hw x hx
      · rw [List.mem_singleton] at hx; subst hx; exact wf_of_range h0 h1
    · exact ⟨l, i1, m1, Ev.step (fun n => by rw [spec_l01Src_l03Fates.l0, if_neg (by decide), e1, Option.bind_some, if_neg g]) (Ev.now _), s1, by omega, hw⟩
  | succ d ih =>
    intro l i m hl hw hs
    have hwr : wrap64 (((d + 1 : Nat) : Int) - 1) = (d : Int) := by rw [wrap64_id (by omega) (by omega)]; omega
    obtain ⟨r1, i1, m1, e1, s1, a1, _, c1⟩ := draw_n b i m s 12 hs (by omega)
    have c1 := c1 (by omega)
    obtain ⟨r2, i2, m2, e2, s2, a2, _, c2⟩ := draw_n b i1 m1 s 3 s1 (by omega)
    have c2 := c2 (by omega)
    obtain ⟨y, hy⟩ : ∃ y : List Int, y = [0, 1, wrap64 (2 + r1)] := ⟨_, rfl⟩
    have hyl : y.length = 3 := by rw [hy]; rfl
    have hyw : (Lit.int .i64 (rd y r2)).wf = true := by
      rw [wrap64_id (by omega) (by omega)] at hy
      have : rd y r2 ∈ y := by
        rw [rd, List.getD_eq_getElem?_getD, List.getElem?_eq_getElem (show r2.toNat < y.length by omega)]
        exact List.getElem_mem _
      rw [hy] at this ⊢
      simp only [List.mem_cons, List.not_mem_nil, or_false] at this
      rcases this with h | h | h <;> rw [h]
      · decide
      · decide
      · exact wf_of_range (by omega) (by omega)
    obtain ⟨l', i', m', e, s', q⟩ := ih (l ++ [rd y r2]) i2 m2 (by simp; omega) (fun x hx => by
      rcases List.mem_append.1 hx with hx | hx
      · exact hw x hx
      · rw [List.mem_singleton] at hx; subst hx; exact hyw) s2
    refine ⟨l', i', m', Ev.step (fun n => by rw [spec_l01Src_l03Fates.l0, if_pos (by omega), e1]) ?_, s', q⟩
    simp only [Option.bind_some, ← hy, e2, if_pos a2, if_pos (show r2 < (y.length : Int) by omega), if_pos (show l.length < 17592186044416 by omega), hwr]
    exact e
theorem draw_fates (b : List Int) (i m s : Int) (hs : St b i) : ∃ l i' m', Ev (fun n => spec_l01Src_l03Fates.f n b i m s) (l, i', m', s) ∧ St b i' ∧ l.length ≤ 60 ∧ (∀ x ∈ l, (Lit.int .i64 x).wf = true) := by
  unfold spec_l01Src_l03Fates.f
  obtain ⟨r1, i1, m1, e1, s1, a1, _, c1⟩ := draw_n b i m s 7 hs (by omega)
  have c1 := c1 (by omega)
  obtain ⟨l, i', m', e, s', q⟩ := draw_fates_l0 b s r1.toNat [] i1 m1 (by simp; omega) (by simp) s1
  rw [Int.toNat_of_nonneg a1] at e
  simp only [e1, Option.bind_some]
  exact ⟨l, i', m', e, s', q⟩
theorem draw_FlashWrite (l : List Int) (h : l.length ≤ 1048576) : ∃ S D a d, Ev (fun k => spec_DrawFlashWrite.f k l) (S, D, a, d) ∧ S.length ≤ 41 ∧ D.length ≤ 60 := by
  unfold spec_DrawFlashWrite.f
  obtain ⟨m, s, _, _, hs, e0⟩ := draw_source l h
  obtain ⟨S, D, i1, m1, e1, s1, l1, l2⟩ := draw_flash l 0 m s hs
  obtain ⟨r2, i2, m2, e2, s2, _⟩ := draw_n l i1 m1 s 8 s1 (by omega)
  obtain ⟨g1, i3, m3, e3, s3⟩ := draw_one l i2 m2 s 10 s2 (by omega)
  obtain ⟨r4, i4, m4, e4, s4, a4, _, c4⟩ := draw_n l i3 m3 s 2 s3 (by omega)
  have c4 := c4 (by omega)
  obtain ⟨r5, i5, m5, e5, s5, a5, _, c5⟩ := draw_n l i3 m3 s 5 s3 (by omega)
  have c5 := c5 (by omega)
  obtain ⟨t, i6, m6, e6, s6, _⟩ := draw_bytes l i5 m5 s r5 a5 (by omega) s5
  by_cases g : g1 = true
  · refine ⟨S, D, r2, strOfNums (List.replicate (96 + r4).toNat 0), Ev.bind e0 (Ev.bind e1 ?_), l1, l2⟩
    simp only [e2, Option.bind_some, e3, if_pos g, e4, wrap64_id (n := 96 + r4) (by omega) (by omega), if_pos (show 0 ≤ 96 + r4 by omega), if_pos (show (96 + r4).toNat ≤ 281474976710656 by omega)]
    exact Ev.now _
  · refine ⟨S, D, r2, t, Ev.bind e0 (Ev.bind e1 ?_), l1, l2⟩
    simp only [e2, Option.bind_some, e3, if_neg g, e5]
    exact Ev.bind e6 (Ev.now _)
theorem draw_FlashCrash (l : List Int) (h : l.length ≤ 1048576) : ∃ S D t, Ev (fun k => spec_DrawFlashCrash.f k l) (S, D, t) ∧ S.length ≤ 41 ∧ D.length ≤ 60 ∧ t.length ≤ 60 ∧ (∀ x ∈ t, (Lit.int .i64 x).wf = true) := by
  unfold spec_DrawFlashCrash.f
  obtain ⟨m, s, _, _, hs, e0⟩ := draw_source l h
  obtain ⟨S, D, i1, m1, e1, s1, l1, l2⟩ := draw_flash l 0 m s hs
  obtain ⟨t, i2, m2, e2, s2, l3, hw⟩ := draw_fates l i1 m1 s s1
  exact ⟨S, D, t, Ev.bind e0 (Ev.bind e1 (Ev.bind e2 (Ev.now _))), l1, l2, l3, hw⟩
theorem draw_FlashRead (l : List Int) (h : l.length ≤ 1048576) : ∃ S D a, Ev (fun k => spec_DrawFlashRead.f k l) (S, D, a) ∧ S.length ≤ 41 ∧ D.length ≤ 60 := by
  unfold spec_DrawFlashRead.f
  obtain ⟨m, s, _, _, hs, e0⟩ := draw_source l h
  obtain ⟨S, D, i1, m1, e1, s1, l1, l2⟩ := draw_flash l 0 m s hs
  obtain ⟨g1, i3, m3, e3, s3⟩ := draw_one l i1 m1 s 10 s1 (by omega)
  obtain ⟨r4, i4, m4, e4, s4, _⟩ := draw_edge l i3 m3 s s3
  obtain ⟨r5, i5, m5, e5, s5, _⟩ := draw_n l i3 m3 s 8 s3 (by omega)
  by_cases g : g1 = true
  · refine ⟨S, D, r4, Ev.bind e0 (Ev.bind e1 ?_), l1, l2⟩
    simp only [e3, Option.bind_some, if_pos g, e4]; exact Ev.now _
  · refine ⟨S, D, r5, Ev.bind e0 (Ev.bind e1 ?_), l1, l2⟩
    simp only [e3, Option.bind_some, if_neg g, e5]; exact Ev.now _
theorem draw_FlashNew (l : List Int) (h : l.length ≤ 1048576) : ∃ a, Ev (fun k => spec_DrawFlashNew.f k l) a := by
  unfold spec_DrawFlashNew.f
  obtain ⟨m, s, _, _, hs, e0⟩ := draw_source l h
  obtain ⟨g1, i3, m3, e3, s3⟩ := draw_one l 0 m s 4 hs (by omega)
  obtain ⟨r4, i4, m4, e4, s4, _⟩ := draw_edge l i3 m3 s s3
  obtain ⟨r5, i5, m5, e5, s5, a5, _, c5⟩ := draw_n l i4 m4 s 5 s4 (by omega)
  have c5 := c5 (by omega)
  obtain ⟨r6, i6, m6, e6, s6, _⟩ := draw_n l i3 m3 s 20 s3 (by omega)
  by_cases g : g1 = true
  · refine ⟨rd ([0, 1, 40, 41, r4] : List Int) r5, Ev.bind e0 ?_⟩
    simp only [e3, Option.bind_some, if_pos g, e4, e5, if_pos a5, if_pos (show r5 < (([0, 1, 40, 41, r4] : List Int).length : Int) from by simp only [List.length_cons, List.length_nil]; omega)]
    exact Ev.now _
  · refine ⟨r6, Ev.bind e0 ?_⟩
    simp only [e3, Option.bind_some, if_neg g, e6]; exact Ev.now _
theorem draw_Torn (l : List Int) (h : l.length ≤ 1048576) : ∃ a b t, Ev (fun k => spec_DrawTorn.f k l) (a, b, t) ∧ b.size ≤ 8 ∧ (Lit.int .i64 t).wf = true := by
  unfold spec_DrawTorn.f
  obtain ⟨m, s, _, _, hs, e0⟩ := draw_source l h
  obtain ⟨r1, i1, m1, e1, s1, a1, _, c1⟩ := draw_n l 0 m s 9 hs (by omega)
  have c1 := c1 (by omega)
  obtain ⟨x, i2, m2, e2, s2, _⟩ := draw_bytes l i1 m1 s r1 a1 (by omega) s1
  obtain ⟨r3, i3, m3, e3, s3, a3, _, c3⟩ := draw_n l i2 m2 s 9 s2 (by omega)
  have c3 := c3 (by omega)
  obtain ⟨y, i4, m4, e4, s4, hy⟩ := draw_bytes l i3 m3 s r3 a3 (by omega) s3
  obtain ⟨g1, i5, m5, e5, s5⟩ := draw_one l i4 m4 s 8 s4 (by omega)
  obtain ⟨r6, i6, m6, e6, s6, h0, h1⟩ := draw_edge l i5 m5 s s5
  obtain ⟨r7, i7, m7, e7, s7, a7, _, c7⟩ := draw_n l i5 m5 s 14 s5 (by omega)
  have c7 := c7 (by omega)
  by_cases g : g1 = true
  · refine ⟨x, y, r6, Ev.bind e0 ?_, by omega, wf_of_range h0 h1⟩
    simp only [e1, Option.bind_some]
    refine Ev.bind e2 ?_
    simp only [e3, Option.bind_some]
    refine Ev.bind e4 ?_
    simp only [e5, Option.bind_some, if_pos g, e6]; exact Ev.now _
  · refine ⟨x, y, r7, Ev.bind e0 ?_, by omega, wf_of_range (by omega) (by omega)⟩
    simp only [e1, Option.bind_some]
    refine Ev.bind e2 ?_
    simp only [e3, Option.bind_some]
    refine Ev.bind e4 ?_
    simp only [e5, Option.bind_some, if_neg g, e7]; exact Ev.now _
end Go.Proofs.Ytboobfpmmaaogaa.Pure
