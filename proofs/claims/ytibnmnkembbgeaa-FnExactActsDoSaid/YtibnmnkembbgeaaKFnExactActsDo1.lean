/- For each Go function that the laws of this text reach: a Lean function, and the proof that the Go function returns what the Lean function tells, wherever it tells some value. Written by a program of this session. -/
import Derived.Test.YtibnmnkembbgeaaKFnExactActsDo0
namespace Go.Proofs.Ytibnmnkembbgeaa.Q
open Go.RowKit Go.Proofs.YtibnmnkembbgeaaW.PrintWords Go.Proofs.YtibnmnkembbgeaaW.PrintLast Go.Proofs.YtibnmnkembbgeaaW.PrintMore
attribute [local go_sem] max2_int min2_int max_two min_two max_three min_three max_four min_four Instr.field asAgg   -- for this text's walks alone
set_option linter.unusedVariables false
set_option linter.unusedSimpArgs false
/-! ### laws_eqDirtyS: function 76 -/
def laws_eqDirtyS.l0 : Nat → List (S92) → List (S92) → Int → Option (Bool)
 | 0, _, _, _ => none
 | k + 1, x0, x1, x5 => if x5 < (x0.length : Int) then (if 0 ≤ x5 then (if x5 < (x1.length : Int) then ((laws_eqDirty.f ((rd_T92 x0 x5).f0) ((rd_T92 x0 x5).f1) ((rd_T92 x1 x5).f0) ((rd_T92 x1 x5).f1)).bind fun t150 => (if t150 = true then (laws_eqDirtyS.l0 k x0 x1 (wrap64 (x5 + 1))) else (some false))) else (none)) else (none)) else (some true)
def laws_eqDirtyS.f (k : Nat) (l0 : List (S92)) (l1 : List (S92)) : Option (Bool) := if (l0.length : Int) = (l1.length : Int) then (laws_eqDirtyS.l0 k l0 l1 0) else (some false)
theorem laws_eqDirtyS.mono_l : ∀ k, (∀ y0 y1 y2, LeO (laws_eqDirtyS.l0 k y0 y1 y2) (laws_eqDirtyS.l0 (k + 1) y0 y1 y2))
 | 0 => fun _ _ _ r h => by simp [laws_eqDirtyS.l0] at h
 | k + 1 => by
  have ih0 := laws_eqDirtyS.mono_l k
  ·
   intro y0 y1 y2
   unfold laws_eqDirtyS.l0
   repeat' first
   | (with_reducible exact ih0 _ _ _)
   | (with_reducible exact LeO.refl _)
   | (with_reducible exact LeO.none _)
   | (with_reducible refine LeO.ite ?_ ?_)
   | (with_reducible refine LeO.bind ?_ (fun _ => ?_))
   | exact ih0 _ _ _
   | exact LeO.none _
   | refine LeO.ite ?_ ?_
   | refine LeO.bind ?_ (fun _ => ?_)
theorem laws_eqDirtyS.mono : ∀ a0 a1 k, LeO (laws_eqDirtyS.f k a0 a1) (laws_eqDirtyS.f (k + 1) a0 a1) := by
 intro a0 a1 k
 have ih0 := laws_eqDirtyS.mono_l k
 unfold laws_eqDirtyS.f
 repeat' first
   | (with_reducible exact ih0 _ _ _)
   | (with_reducible exact LeO.refl _)
   | (with_reducible exact LeO.none _)
   | (with_reducible refine LeO.ite ?_ ?_)
   | (with_reducible refine LeO.bind ?_ (fun _ => ?_))
   | exact ih0 _ _ _
   | exact LeO.none _
   | refine LeO.ite ?_ ?_
   | refine LeO.bind ?_ (fun _ => ?_)
def laws_eqDirtyS.T6 : Bool × List (List Nat × List Nat) := (true, [([], []), ([], []), ([0, 1], [0, 1]), ([2], [2]), ([], []), ([], []), ([4, 5], [4, 5]), ([6], [6]), ([3, 7], [3, 7]), ([8], [8])])
def laws_eqDirtyS.B6 : List Nat := [0, 0, 3, 7, 0, 0, 48, 112, 255, 511]
theorem laws_eqDirtyS.tab6 : rtab .any (opsOf Try.f76 6) = laws_eqDirtyS.T6 := by kernel_rfl
theorem laws_eqDirtyS.bits6 : waitsOk laws_eqDirtyS.T6.2 laws_eqDirtyS.B6 = true := by kernel_rfl
set_option maxHeartbeats 8000000 in
set_option maxRecDepth 100000 in
theorem laws_eqDirtyS.calls (k : Nat) (A0 : Option Addr) (c0 : Nat) (l0 : List (S92)) (A1 : Option Addr) (c1 : Nat) (l1 : List (S92)) (r : Bool) (w : World) (hr0 : Kd.C k92 w A0 l0.length l0) (hc0 : l0.length ≤ c0) (hr1 : Kd.C k92 w A1 l1.length l1) (hc1 : l1.length ≤ c1) (h : laws_eqDirtyS.f k l0 l1 = some r) :
  Calls Try.prog 76 #[.slice A0 l0.length c0, .slice A1 l1.length c1] w fun e w' => e = .returned (.bool r) ∧ Below w.heap.size w w' := by
 have hu92 := Try.underlying92
 have HR0 := Aside0.mk hr0
 have HC0 := Aside0.mk hc0
 clear hr0 hc0
 have HR1 := Aside0.mk hr1
 have HC1 := Aside0.mk hc1
 clear hr1 hc1
 have HB := Aside0.mk (Below.refl w.heap.size w)
 have H : (if (l0.length : Int) = (l1.length : Int) then (laws_eqDirtyS.l0 k l0 l1 0) else (some false)) = some r := h
 clear h
 by_cases c3 : (l0.length : Int) = (l1.length : Int)
 ·
  rw [if_pos c3] at H
  have c3b0 : ((l0.length : Int) == (l1.length : Int)) = true := beq_iff_eq.mpr c3
  have c3b1 : ((l0.length : Int) != (l1.length : Int)) = false := bne_eq_false_iff_eq.mpr c3
  have c3b2 : (l0.length == l1.length) = true := by first | simpa using c3 | (simp at c3 ⊢; omega)
  clear c3
  have H' := Aside0.mk H
  clear H
  go_enter Try.func76, Try.ntmps76
  go_wp2
  go_loopg [5] k (fun kq v5 w' => ∃ (x5_1 : Int), v5 = .int .i64 x5_1 ∧ Aside0 (laws_eqDirtyS.l0 kq l0 l1 x5_1 = some r) ∧ Aside0 (kq ≤ k) ∧ Aside0 (Below w.heap.size w w'))
  case atStart => exact ⟨(0), (by first | rfl | (simp; done) | (simp [*]; done)), H', ⟨Nat.le_refl _⟩, ⟨zh_ HB.out⟩⟩
  case round =>
   clear H'
   try clear c1
   try clear p2
   try clear c3
   try clear c3b0
   try clear c3b1
   try clear c3b2
   obtain ⟨x5_1, rfl, HA, HK1, HB⟩ := hrel
   cases gk with
   | zero => exact absurd HA.out (by simp [laws_eqDirtyS.l0])
   | succ k1 =>
    have H := HA.out
    clear HA
    simp only [laws_eqDirtyS.l0] at H
    by_cases c4 : x5_1 < (l0.length : Int)
    ·
     rw [if_pos c4] at H
     have c4b0 : decide (x5_1 < (l0.length : Int)) = true := decide_eq_true c4
     clear c4
     by_cases c5 : 0 ≤ x5_1
     ·
      rw [if_pos c5] at H
      have c5b0 : decide (0 ≤ x5_1) = true := decide_eq_true c5
      clear c5
      by_cases c6 : x5_1 < (l1.length : Int)
      ·
       rw [if_pos c6] at H
       have c6b0 : decide (x5_1 < (l1.length : Int)) = true := decide_eq_true c6
       clear c6
       replace H := Option.bind_eq_some_iff.mp H
       obtain ⟨t150, A70, H⟩ := H
       replace H : (if t150 = true then (laws_eqDirtyS.l0 k1 l0 l1 (wrap64 (x5_1 + 1))) else (some false)) = some r := H
       have A7 := Aside0.mk A70
       clear A70
       by_cases c8 : t150 = true
       ·
        subst c8
        have H1 : (laws_eqDirtyS.l0 k1 l0 l1 (wrap64 (x5_1 + 1))) = some r := by rw [if_pos rfl] at H; exact H
        clear H
        have H := H1
        clear H1
        have H' := Aside0.mk H
        clear H
        try go_wp2
        have n0_ := Aside0.mk (below_drew1 HB.out)
        clear HB
        have HB := n0_
        clear n0_
        have p148 : 0 ≤ (x5_1 : Int) := of_decide_eq_true (by first | (with_reducible assumption) | assumption)
        have q148 : x5_1 < (l0.length : Int) := of_decide_eq_true (by first | (with_reducible assumption) | assumption)
        obtain ⟨ad148, e148, hx148_0, hx148_1⟩ := at_T92 HR0.out x5_1 p148 q148
        have hw148_1 := hx148_1
        have hw148_0 := hx148_0
        cases e148
        replace hx148_0 := (HB.out.cell (World.block_lt_of_cell? _ _ hx148_0)).trans hx148_0
        replace hx148_1 := (HB.out.cell (World.block_lt_of_cell? _ _ hx148_1)).trans hx148_1
        replace p148 := eq_true p148
        replace q148 := eq_true q148
        have p149 : 0 ≤ (x5_1 : Int) := of_decide_eq_true (by first | (with_reducible assumption) | assumption)
        have q149 : x5_1 < (l1.length : Int) := of_decide_eq_true (by first | (with_reducible assumption) | assumption)
        obtain ⟨ad149, e149, hx149_0, hx149_1⟩ := at_T92 HR1.out x5_1 p149 q149
        have hw149_1 := hx149_1
        have hw149_0 := hx149_0
        cases e149
        replace hx149_0 := (HB.out.cell (World.block_lt_of_cell? _ _ hx149_0)).trans hx149_0
        replace hx149_1 := (HB.out.cell (World.block_lt_of_cell? _ _ hx149_1)).trans hx149_1
        replace p149 := eq_true p149
        replace q149 := eq_true q149
        refine start_ (n := 10) (S := fun w' => w'.cell? (ad148.add ((x5_1).toNat * 2)) = some (.int .i64 ((rd_T92 l0 x5_1).f0)) ∧ w'.cell? ⟨(ad148.add ((x5_1).toNat * 2)).block, (ad148.add ((x5_1).toNat * 2)).off + 1, none⟩ = some (.string ((rd_T92 l0 x5_1).f1)) ∧ w'.cell? (ad149.add ((x5_1).toNat * 2)) = some (.int .i64 ((rd_T92 l1 x5_1).f0)) ∧ w'.cell? ⟨(ad149.add ((x5_1).toNat * 2)).block, (ad149.add ((x5_1).toNat * 2)).off + 1, none⟩ = some (.string ((rd_T92 l1 x5_1).f1))) (ds := []) #[false, false, false, false, false, false, false, false, false, false] (by kernel_rfl) rfl rfl ⟨((HB.out.cell (World.block_lt_of_cell? _ _ hw148_0)).trans hw148_0), ((HB.out.cell (World.block_lt_of_cell? _ _ hw148_1)).trans hw148_1), ((HB.out.cell (World.block_lt_of_cell? _ _ hw149_0)).trans hw149_0), ((HB.out.cell (World.block_lt_of_cell? _ _ hw149_1)).trans hw149_1)⟩ (fun hHeld => ?_); refine with_tabW laws_eqDirtyS.tab6 laws_eqDirtyS.bits6 (fun HT_ HW_ => ?_)
        generalize wr.drew = w9 at HB hx148_0 hx148_1 hx149_0 hx149_1 hHeld ⊢
        refine pure_ (i := 0) (N := some 17) (v := ?_) (a' := ?_) #[true, false, false, false, false, false, false, false, false, false] rfl rfl (any_of HT_.out (by kernel_rfl)) (fun _ _ _ h => h) (Or.inl ⟨by rfl, ?_⟩) ?_ ?_
        rotate_left
        ·
         intro w'
         go_simp
         with_reducible rfl
        rotate_left
        ·
         simp only [Act.put, List.setIfInBounds_toArray, List.set_cons_zero, List.set_cons_succ, i64_w, i32_w]
         rfl
        refine pure_ (i := 1) (N := some 18) (v := ?_) (a' := ?_) #[true, true, false, false, false, false, false, false, false, false] rfl rfl (any_of HT_.out (by kernel_rfl)) (fun _ _ _ h => h) (Or.inl ⟨by rfl, ?_⟩) ?_ ?_
        rotate_left
        ·
         intro w'
         go_simp
         with_reducible rfl
        rotate_left
        ·
         simp only [Act.put, List.setIfInBounds_toArray, List.set_cons_zero, List.set_cons_succ, i64_w, i32_w]
         rfl
        refine pure_ (i := 2) (N := some 19) (v := ?_) (a' := ?_) #[true, true, true, false, false, false, false, false, false, false] rfl rfl (any_of HT_.out (by kernel_rfl)) (fun _ _ _ h => h) (Or.inl ⟨by rfl, ?_⟩) ?_ ?_
        rotate_left
        ·
         intro w'
         go_simp
         with_reducible rfl
        rotate_left
        ·
         simp only [Act.put, List.setIfInBounds_toArray, List.set_cons_zero, List.set_cons_succ, i64_w, i32_w]
         rfl
        refine pure_ (i := 4) (N := some 21) (v := ?_) (a' := ?_) #[true, true, true, false, true, false, false, false, false, false] rfl rfl (any_of HT_.out (by kernel_rfl)) (fun _ _ _ h => h) (Or.inl ⟨by rfl, ?_⟩) ?_ ?_
        rotate_left
        ·
         intro w'
         go_simp
         with_reducible rfl
        rotate_left
        ·
         simp only [Act.put, List.setIfInBounds_toArray, List.set_cons_zero, List.set_cons_succ, i64_w, i32_w]
         rfl
        refine pure_ (i := 5) (N := some 22) (v := ?_) (a' := ?_) #[true, true, true, false, true, true, false, false, false, false] rfl rfl (any_of HT_.out (by kernel_rfl)) (fun _ _ _ h => h) (Or.inl ⟨by rfl, ?_⟩) ?_ ?_
        rotate_left
        ·
         intro w'
         go_simp
         with_reducible rfl
        rotate_left
        ·
         simp only [Act.put, List.setIfInBounds_toArray, List.set_cons_zero, List.set_cons_succ, i64_w, i32_w]
         rfl
        refine pure_ (i := 6) (N := some 23) (v := ?_) (a' := ?_) #[true, true, true, false, true, true, true, false, false, false] rfl rfl (any_of HT_.out (by kernel_rfl)) (fun _ _ _ h => h) (Or.inl ⟨by rfl, ?_⟩) ?_ ?_
        rotate_left
        ·
         intro w'
         go_simp
         with_reducible rfl
        rotate_left
        ·
         simp only [Act.put, List.setIfInBounds_toArray, List.set_cons_zero, List.set_cons_succ, i64_w, i32_w]
         rfl
        refine take_ (i := 3) (N := some 20) (v := ?_) (a' := ?_) #[true, true, true, true, true, true, true, false, false, false] rfl rfl (take_ofW HT_.out HW_.out (by kernel_rfl)) (fun _ _ _ h => h) (Or.inl ⟨by rfl, ?_⟩) hHeld ?_ ?_
        rotate_left
        ·
         rintro w' ⟨s0, s1, s2, s3⟩
         go_simp
         with_reducible rfl
        rotate_left
        ·
         simp only [Act.put, List.setIfInBounds_toArray, List.set_cons_zero, List.set_cons_succ, i64_w, i32_w]
         rfl
        refine take_ (i := 7) (N := some 24) (v := ?_) (a' := ?_) #[true, true, true, true, true, true, true, true, false, false] rfl rfl (take_ofW HT_.out HW_.out (by kernel_rfl)) (fun _ _ _ h => h) (Or.inl ⟨by rfl, ?_⟩) hHeld ?_ ?_
        rotate_left
        ·
         rintro w' ⟨s0, s1, s2, s3⟩
         go_simp
         with_reducible rfl
        rotate_left
        ·
         simp only [Act.put, List.setIfInBounds_toArray, List.set_cons_zero, List.set_cons_succ, i64_w, i32_w]
         rfl
        refine one_ (i := 8) (N := some 25) #[true, true, true, true, true, true, true, true, true, false] rfl rfl (one_of HT_.out (by kernel_rfl)) (by decide) (fun K hK => ?_)
        refine goes_ Try.func130 (by kernel_rfl) rfl #[.agg #[.int .i64 ((rd_T92 l0 x5_1).f0), .string ((rd_T92 l0 x5_1).f1)], .agg #[.int .i64 ((rd_T92 l1 x5_1).f0), .string ((rd_T92 l1 x5_1).f1)]] (by rfl) rfl rfl zs_ ?_
        with_reducible refine (laws_eqDirty.calls ((rd_T92 l0 x5_1).f0) ((rd_T92 l0 x5_1).f1) ((rd_T92 l1 x5_1).f0) ((rd_T92 l1 x5_1).f1) true _ A7.out).mono ?_
        rintro e w10 ⟨rfl, hb⟩
        refine ⟨_, rfl, ?_⟩
        have n0_ := Aside0.mk (below_step (zh_ HB.out) hb)
        clear HB
        have HB := n0_
        clear n0_
        (try clear hb)
        (try clear hb2)
        (try clear hk)
        (try clear hi)
        refine hK.out _ _ ⟨((HB.out.cell (World.block_lt_of_cell? _ _ hw148_0)).trans hw148_0), ((HB.out.cell (World.block_lt_of_cell? _ _ hw148_1)).trans hw148_1), ((HB.out.cell (World.block_lt_of_cell? _ _ hw149_0)).trans hw149_0), ((HB.out.cell (World.block_lt_of_cell? _ _ hw149_1)).trans hw149_1)⟩ (fun hHeld => ?_)
        clear hK K
        refine norm_ (a' := ?_) ?_ ?_
        rotate_left
        ·
         show Act.put _ (some 25) _ = _
         simp only [Act.put, List.setIfInBounds_toArray, List.set_cons_zero, List.set_cons_succ, i64_w, i32_w]
         rfl
        refine pure_ (i := 9) (N := some 26) (v := ?_) (a' := ?_) #[true, true, true, true, true, true, true, true, true, true] rfl rfl (any_of HT_.out (by kernel_rfl)) (fun _ _ _ h => h) (Or.inl ⟨by rfl, ?_⟩) ?_ ?_
        rotate_left
        ·
         intro w'
         go_simp
         with_reducible rfl
        rotate_left
        ·
         simp only [Act.put, List.setIfInBounds_toArray, List.set_cons_zero, List.set_cons_succ, i64_w, i32_w]
         rfl
        refine done_ (done_of HT_.out (by kernel_rfl)) ?_
        try go_wp2
        go_roundg k1
        case measure => have := HK1.out; omega
        case rel => exact ⟨(wrap64 (x5_1 + 1)), (by first | rfl | (simp; done) | (simp [*]; done)), H', ⟨by have := HK1.out; omega⟩, ⟨zh_ HB.out⟩⟩
       ·
        replace c8 := Bool.eq_false_iff.mpr c8
        subst c8
        have H1 : (some false) = some r := by rw [if_neg (show ¬ (false = true) by decide)] at H; exact H
        clear H
        have H := H1
        clear H1
        obtain rfl := Option.some.inj H
        try go_wp2
        have n0_ := Aside0.mk (below_drew1 HB.out)
        clear HB
        have HB := n0_
        clear n0_
        have p148 : 0 ≤ (x5_1 : Int) := of_decide_eq_true (by first | (with_reducible assumption) | assumption)
        have q148 : x5_1 < (l0.length : Int) := of_decide_eq_true (by first | (with_reducible assumption) | assumption)
        obtain ⟨ad148, e148, hx148_0, hx148_1⟩ := at_T92 HR0.out x5_1 p148 q148
        have hw148_1 := hx148_1
        have hw148_0 := hx148_0
        cases e148
        replace hx148_0 := (HB.out.cell (World.block_lt_of_cell? _ _ hx148_0)).trans hx148_0
        replace hx148_1 := (HB.out.cell (World.block_lt_of_cell? _ _ hx148_1)).trans hx148_1
        replace p148 := eq_true p148
        replace q148 := eq_true q148
        have p149 : 0 ≤ (x5_1 : Int) := of_decide_eq_true (by first | (with_reducible assumption) | assumption)
        have q149 : x5_1 < (l1.length : Int) := of_decide_eq_true (by first | (with_reducible assumption) | assumption)
        obtain ⟨ad149, e149, hx149_0, hx149_1⟩ := at_T92 HR1.out x5_1 p149 q149
        have hw149_1 := hx149_1
        have hw149_0 := hx149_0
        cases e149
        replace hx149_0 := (HB.out.cell (World.block_lt_of_cell? _ _ hx149_0)).trans hx149_0
        replace hx149_1 := (HB.out.cell (World.block_lt_of_cell? _ _ hx149_1)).trans hx149_1
        replace p149 := eq_true p149
        replace q149 := eq_true q149
        refine start_ (n := 10) (S := fun w' => w'.cell? (ad148.add ((x5_1).toNat * 2)) = some (.int .i64 ((rd_T92 l0 x5_1).f0)) ∧ w'.cell? ⟨(ad148.add ((x5_1).toNat * 2)).block, (ad148.add ((x5_1).toNat * 2)).off + 1, none⟩ = some (.string ((rd_T92 l0 x5_1).f1)) ∧ w'.cell? (ad149.add ((x5_1).toNat * 2)) = some (.int .i64 ((rd_T92 l1 x5_1).f0)) ∧ w'.cell? ⟨(ad149.add ((x5_1).toNat * 2)).block, (ad149.add ((x5_1).toNat * 2)).off + 1, none⟩ = some (.string ((rd_T92 l1 x5_1).f1))) (ds := []) #[false, false, false, false, false, false, false, false, false, false] (by kernel_rfl) rfl rfl ⟨((HB.out.cell (World.block_lt_of_cell? _ _ hw148_0)).trans hw148_0), ((HB.out.cell (World.block_lt_of_cell? _ _ hw148_1)).trans hw148_1), ((HB.out.cell (World.block_lt_of_cell? _ _ hw149_0)).trans hw149_0), ((HB.out.cell (World.block_lt_of_cell? _ _ hw149_1)).trans hw149_1)⟩ (fun hHeld => ?_); refine with_tabW laws_eqDirtyS.tab6 laws_eqDirtyS.bits6 (fun HT_ HW_ => ?_)
        generalize wr.drew = w11 at HB hx148_0 hx148_1 hx149_0 hx149_1 hHeld ⊢
        refine pure_ (i := 0) (N := some 17) (v := ?_) (a' := ?_) #[true, false, false, false, false, false, false, false, false, false] rfl rfl (any_of HT_.out (by kernel_rfl)) (fun _ _ _ h => h) (Or.inl ⟨by rfl, ?_⟩) ?_ ?_
        rotate_left
        ·
         intro w'
         go_simp
         with_reducible rfl
        rotate_left
        ·
         simp only [Act.put, List.setIfInBounds_toArray, List.set_cons_zero, List.set_cons_succ, i64_w, i32_w]
         rfl
        refine pure_ (i := 1) (N := some 18) (v := ?_) (a' := ?_) #[true, true, false, false, false, false, false, false, false, false] rfl rfl (any_of HT_.out (by kernel_rfl)) (fun _ _ _ h => h) (Or.inl ⟨by rfl, ?_⟩) ?_ ?_
        rotate_left
        ·
         intro w'
         go_simp
         with_reducible rfl
        rotate_left
        ·
         simp only [Act.put, List.setIfInBounds_toArray, List.set_cons_zero, List.set_cons_succ, i64_w, i32_w]
         rfl
        refine pure_ (i := 2) (N := some 19) (v := ?_) (a' := ?_) #[true, true, true, false, false, false, false, false, false, false] rfl rfl (any_of HT_.out (by kernel_rfl)) (fun _ _ _ h => h) (Or.inl ⟨by rfl, ?_⟩) ?_ ?_
        rotate_left
        ·
         intro w'
         go_simp
         with_reducible rfl
        rotate_left
        ·
         simp only [Act.put, List.setIfInBounds_toArray, List.set_cons_zero, List.set_cons_succ, i64_w, i32_w]
         rfl
        refine pure_ (i := 4) (N := some 21) (v := ?_) (a' := ?_) #[true, true, true, false, true, false, false, false, false, false] rfl rfl (any_of HT_.out (by kernel_rfl)) (fun _ _ _ h => h) (Or.inl ⟨by rfl, ?_⟩) ?_ ?_
        rotate_left
        ·
         intro w'
         go_simp
         with_reducible rfl
        rotate_left
        ·
         simp only [Act.put, List.setIfInBounds_toArray, List.set_cons_zero, List.set_cons_succ, i64_w, i32_w]
         rfl
        refine pure_ (i := 5) (N := some 22) (v := ?_) (a' := ?_) #[true, true, true, false, true, true, false, false, false, false] rfl rfl (any_of HT_.out (by kernel_rfl)) (fun _ _ _ h => h) (Or.inl ⟨by rfl, ?_⟩) ?_ ?_
        rotate_left
        ·
         intro w'
         go_simp
         with_reducible rfl
        rotate_left
        ·
         simp only [Act.put, List.setIfInBounds_toArray, List.set_cons_zero, List.set_cons_succ, i64_w, i32_w]
         rfl
        refine pure_ (i := 6) (N := some 23) (v := ?_) (a' := ?_) #[true, true, true, false, true, true, true, false, false, false] rfl rfl (any_of HT_.out (by kernel_rfl)) (fun _ _ _ h => h) (Or.inl ⟨by rfl, ?_⟩) ?_ ?_
        rotate_left
        ·
         intro w'
         go_simp
         with_reducible rfl
        rotate_left
        ·
         simp only [Act.put, List.setIfInBounds_toArray, List.set_cons_zero, List.set_cons_succ, i64_w, i32_w]
         rfl
        refine take_ (i := 3) (N := some 20) (v := ?_) (a' := ?_) #[true, true, true, true, true, true, true, false, false, false] rfl rfl (take_ofW HT_.out HW_.out (by kernel_rfl)) (fun _ _ _ h => h) (Or.inl ⟨by rfl, ?_⟩) hHeld ?_ ?_
        rotate_left
        ·
         rintro w' ⟨s0, s1, s2, s3⟩
         go_simp
         with_reducible rfl
        rotate_left
        ·
         simp only [Act.put, List.setIfInBounds_toArray, List.set_cons_zero, List.set_cons_succ, i64_w, i32_w]
         rfl
        refine take_ (i := 7) (N := some 24) (v := ?_) (a' := ?_) #[true, true, true, true, true, true, true, true, false, false] rfl rfl (take_ofW HT_.out HW_.out (by kernel_rfl)) (fun _ _ _ h => h) (Or.inl ⟨by rfl, ?_⟩) hHeld ?_ ?_
        rotate_left
        ·
         rintro w' ⟨s0, s1, s2, s3⟩
         go_simp
         with_reducible rfl
        rotate_left
        ·
         simp only [Act.put, List.setIfInBounds_toArray, List.set_cons_zero, List.set_cons_succ, i64_w, i32_w]
         rfl
        refine one_ (i := 8) (N := some 25) #[true, true, true, true, true, true, true, true, true, false] rfl rfl (one_of HT_.out (by kernel_rfl)) (by decide) (fun K hK => ?_)
        refine goes_ Try.func130 (by kernel_rfl) rfl #[.agg #[.int .i64 ((rd_T92 l0 x5_1).f0), .string ((rd_T92 l0 x5_1).f1)], .agg #[.int .i64 ((rd_T92 l1 x5_1).f0), .string ((rd_T92 l1 x5_1).f1)]] (by rfl) rfl rfl zs_ ?_
        with_reducible refine (laws_eqDirty.calls ((rd_T92 l0 x5_1).f0) ((rd_T92 l0 x5_1).f1) ((rd_T92 l1 x5_1).f0) ((rd_T92 l1 x5_1).f1) false _ A7.out).mono ?_
        rintro e w12 ⟨rfl, hb⟩
        refine ⟨_, rfl, ?_⟩
        have n0_ := Aside0.mk (below_step (zh_ HB.out) hb)
        clear HB
        have HB := n0_
        clear n0_
        (try clear hb)
        (try clear hb2)
        (try clear hk)
        (try clear hi)
        refine hK.out _ _ ⟨((HB.out.cell (World.block_lt_of_cell? _ _ hw148_0)).trans hw148_0), ((HB.out.cell (World.block_lt_of_cell? _ _ hw148_1)).trans hw148_1), ((HB.out.cell (World.block_lt_of_cell? _ _ hw149_0)).trans hw149_0), ((HB.out.cell (World.block_lt_of_cell? _ _ hw149_1)).trans hw149_1)⟩ (fun hHeld => ?_)
        clear hK K
        refine norm_ (a' := ?_) ?_ ?_
        rotate_left
        ·
         show Act.put _ (some 25) _ = _
         simp only [Act.put, List.setIfInBounds_toArray, List.set_cons_zero, List.set_cons_succ, i64_w, i32_w]
         rfl
        refine pure_ (i := 9) (N := some 26) (v := ?_) (a' := ?_) #[true, true, true, true, true, true, true, true, true, true] rfl rfl (any_of HT_.out (by kernel_rfl)) (fun _ _ _ h => h) (Or.inl ⟨by rfl, ?_⟩) ?_ ?_
        rotate_left
        ·
         intro w'
         go_simp
         with_reducible rfl
        rotate_left
        ·
         simp only [Act.put, List.setIfInBounds_toArray, List.set_cons_zero, List.set_cons_succ, i64_w, i32_w]
         rfl
        refine done_ (done_of HT_.out (by kernel_rfl)) ?_
        try go_wp2
        go_ret
        exact ⟨by first | rfl | (simp [errW_none, errW_some] <;> rfl) | (simp [*, errW_none, errW_some] <;> rfl), by repeat (first | (with_reducible first | exact HB.out | apply below_alloc | apply pw_below_drewN | apply below_drew1) | exact HB.out)⟩
      ·
       rw [if_neg c6] at H
       exact absurd H (by simp)
     ·
      rw [if_neg c5] at H
      exact absurd H (by simp)
    ·
     rw [if_neg c4] at H
     have c4b0 : decide (x5_1 < (l0.length : Int)) = false := decide_eq_false c4
     clear c4
     obtain rfl := Option.some.inj H
     go_wp2
     go_ret
     exact ⟨by first | rfl | (simp [errW_none, errW_some] <;> rfl) | (simp [*, errW_none, errW_some] <;> rfl), by repeat (first | (with_reducible first | exact HB.out | apply below_alloc | apply pw_below_drewN | apply below_drew1) | exact HB.out)⟩
 ·
  rw [if_neg c3] at H
  have c3b0 : ((l0.length : Int) == (l1.length : Int)) = false := beq_eq_false_iff_ne.mpr c3
  have c3b1 : ((l0.length : Int) != (l1.length : Int)) = true := bne_iff_ne.mpr c3
  have c3b2 : (l0.length == l1.length) = false := by first | simpa using c3 | (simp at c3 ⊢; omega)
  obtain rfl := Option.some.inj H
  go_enter Try.func76, Try.ntmps76
  go_wp2
  go_ret
  exact ⟨by first | rfl | (simp [errW_none, errW_some] <;> rfl) | (simp [*, errW_none, errW_some] <;> rfl), by repeat (first | (with_reducible first | exact HB.out | apply below_alloc | apply pw_below_drewN | apply below_drew1) | exact HB.out)⟩

/-! ### laws_eqFlash: function 18 -/
def laws_eqFlash.f (k : Nat) (l0_0 : List ByteArray) (l0_1 : List (S92)) (l1_0 : List ByteArray) (l1_1 : List (S92)) : Option (Bool) := (laws_eqStringS.f k l0_0 l1_0).bind fun t153 => (if t153 = true then ((laws_eqDirtyS.f k l0_1 l1_1).bind fun t154 => (if t154 = true then (some true) else (some false))) else (some false))
theorem laws_eqFlash.mono : ∀ a0 a1 a2 a3 k, LeO (laws_eqFlash.f k a0 a1 a2 a3) (laws_eqFlash.f (k + 1) a0 a1 a2 a3) := by
 intro a0 a1 a2 a3 k
 unfold laws_eqFlash.f
 repeat' first
   | (with_reducible exact laws_eqDirtyS.mono _ _ _)
   | (with_reducible exact laws_eqStringS.mono _ _ _)
   | (with_reducible exact LeO.refl _)
   | (with_reducible exact LeO.none _)
   | (with_reducible refine LeO.ite ?_ ?_)
   | (with_reducible refine LeO.bind ?_ (fun _ => ?_))
   | exact laws_eqDirtyS.mono _ _ _
   | exact laws_eqStringS.mono _ _ _
   | exact LeO.none _
   | refine LeO.ite ?_ ?_
   | refine LeO.bind ?_ (fun _ => ?_)
set_option maxHeartbeats 8000000 in
set_option maxRecDepth 100000 in
theorem laws_eqFlash.calls (k : Nat) (A0_0 : Option Addr) (c0_0 : Nat) (l0_0 : List ByteArray) (A0_1 : Option Addr) (c0_1 : Nat) (l0_1 : List (S92)) (A1_0 : Option Addr) (c1_0 : Nat) (l1_0 : List ByteArray) (A1_1 : Option Addr) (c1_1 : Nat) (l1_1 : List (S92)) (r : Bool) (w : World) (hr0_0 : Kd.C Kd.string w A0_0 l0_0.length l0_0) (hc0_0 : l0_0.length ≤ c0_0) (hr0_1 : Kd.C k92 w A0_1 l0_1.length l0_1) (hc0_1 : l0_1.length ≤ c0_1) (hr1_0 : Kd.C Kd.string w A1_0 l1_0.length l1_0) (hc1_0 : l1_0.length ≤ c1_0) (hr1_1 : Kd.C k92 w A1_1 l1_1.length l1_1) (hc1_1 : l1_1.length ≤ c1_1) (h : laws_eqFlash.f k l0_0 l0_1 l1_0 l1_1 = some r) :
  Calls Try.prog 18 #[.agg #[.slice A0_0 l0_0.length c0_0, .slice A0_1 l0_1.length c0_1], .agg #[.slice A1_0 l1_0.length c1_0, .slice A1_1 l1_1.length c1_1]] w fun e w' => e = .returned (.bool r) ∧ Below w.heap.size w w' := by
 have hu30 := Try.underlying30
 have HR0_0 := Aside0.mk hr0_0
 have HC0_0 := Aside0.mk hc0_0
 clear hr0_0 hc0_0
 have HR0_1 := Aside0.mk hr0_1
 have HC0_1 := Aside0.mk hc0_1
 clear hr0_1 hc0_1
 have HR1_0 := Aside0.mk hr1_0
 have HC1_0 := Aside0.mk hc1_0
 clear hr1_0 hc1_0
 have HR1_1 := Aside0.mk hr1_1
 have HC1_1 := Aside0.mk hc1_1
 clear hr1_1 hc1_1
 have HB := Aside0.mk (Below.refl w.heap.size w)
 have H : ((laws_eqStringS.f k l0_0 l1_0).bind fun t153 => (if t153 = true then ((laws_eqDirtyS.f k l0_1 l1_1).bind fun t154 => (if t154 = true then (some true) else (some false))) else (some false))) = some r := h
 clear h
 replace H := Option.bind_eq_some_iff.mp H
 obtain ⟨t153, A30, H⟩ := H
 replace H : (if t153 = true then ((laws_eqDirtyS.f k l0_1 l1_1).bind fun t154 => (if t154 = true then (some true) else (some false))) else (some false)) = some r := H
 have A3 := Aside0.mk A30
 clear A30
 by_cases c4 : t153 = true
 ·
  subst c4
  have H1 : ((laws_eqDirtyS.f k l0_1 l1_1).bind fun t154 => (if t154 = true then (some true) else (some false))) = some r := by rw [if_pos rfl] at H; exact H
  clear H
  have H := H1
  clear H1
  replace H := Option.bind_eq_some_iff.mp H
  obtain ⟨t154, A50, H⟩ := H
  replace H : (if t154 = true then (some true) else (some false)) = some r := H
  have A5 := Aside0.mk A50
  clear A50
  by_cases c6 : t154 = true
  ·
   subst c6
   have H1 : (some true) = some r := by rw [if_pos rfl] at H; exact H
   clear H
   have H := H1
   clear H1
   obtain rfl := Option.some.inj H
   go_enter Try.func18, Try.ntmps18
   go_wp2_with (first | ((with_reducible refine gate_dst (N := 2) rfl ?_); refine box_event ?hg (N := 2) ?hd (cs := #[.slice A0_0 l0_0.length c0_0, .slice A0_1 l0_1.length c0_1]) (t := 30) ?hr ?_; (case hd => rfl); (case hg => rfl); (case hr => first | (go_simp; done) | (go_simp; rfl)); intro gb151 hg w7 hbox hb; have n0_ := Aside0.mk (below_step (zh_ HB.out) hb); have n1_ := Aside0.mk (hbox); have n2_ := Aside0.mk ((by rw [hg]; exact (below_size (zh_ HB.out)) : w.heap.size ≤ gb151)); have n3_ := Aside0.mk ((by rw [hg]; exact (below_size (zh_ HB.out)) : w.heap.size ≤ gb151)); clear HB; have HB := n0_; have BK151 := n1_; have GW151 := n2_; have GE151 := n3_; clear n0_ n1_ n2_ n3_; clear hb hbox hg) | ((with_reducible refine gate_dst (N := 3) rfl ?_); refine box_event ?hg (N := 3) ?hd (cs := #[.slice A1_0 l1_0.length c1_0, .slice A1_1 l1_1.length c1_1]) (t := 30) ?hr ?_; (case hd => rfl); (case hg => rfl); (case hr => first | (go_simp; done) | (go_simp; rfl)); intro gb152 hg w8 hbox hb; have n0_ := Aside0.mk (blk_below (g := gb151) (o := .cells #[.slice A0_0 l0_0.length c0_0, .slice A0_1 l0_1.length c0_1] 30 (0, 0)) (zb_ BK151.out) hb); have n1_ := Aside0.mk (below_step (zg1_ HB.out GE151.out) hb); have n2_ := Aside0.mk (hbox); have n3_ := Aside0.mk ((by rw [hg]; exact (below_size (zg1_ HB.out GE151.out)) : w.heap.size ≤ gb152)); have n4_ := Aside0.mk ((by rw [hg]; exact (below_size (zg1_ HB.out GE151.out)) : w.heap.size ≤ gb152)); have n5_ := Aside0.mk ((by rw [hg]; exact Nat.ne_of_lt (blk_lt (g := gb151) (o := .cells #[.slice A0_0 l0_0.length c0_0, .slice A0_1 l0_1.length c0_1] 30 (0, 0)) (zb_ BK151.out)) : gb151 ≠ gb152)); have n6_ := Aside0.mk ((by rw [hg]; exact Nat.ne_of_gt (blk_lt (g := gb151) (o := .cells #[.slice A0_0 l0_0.length c0_0, .slice A0_1 l0_1.length c0_1] 30 (0, 0)) (zb_ BK151.out)) : gb152 ≠ gb151)); clear BK151; clear HB; have BK151 := n0_; have HB := n1_; have BK152 := n2_; have GW152 := n3_; have GE152 := n4_; have NB151_152 := n5_; have NB152_151 := n6_; clear n0_ n1_ n2_ n3_ n4_ n5_ n6_; clear hb hbox hg; have hnb9 := NB151_152.out; have hnc9 := NB152_151.out; have hcz10_0 : w8.cell? ⟨gb151, 0, none⟩ = some (.slice A0_0 l0_0.length c0_0) := (blk_cell BK151.out 0).trans rfl; have hcz10_1 : w8.cell? ⟨gb151, 1, none⟩ = some (.slice A0_1 l0_1.length c0_1) := (blk_cell BK151.out 1).trans rfl; have hfz10_0 := blk_frozen BK151.out 0; have hfz10_1 := blk_frozen BK151.out 1; have hcz11_0 : w8.cell? ⟨gb152, 0, none⟩ = some (.slice A1_0 l1_0.length c1_0) := (blk_cell BK152.out 0).trans rfl; have hcz11_1 : w8.cell? ⟨gb152, 1, none⟩ = some (.slice A1_1 l1_1.length c1_1) := (blk_cell BK152.out 1).trans rfl; have hfz11_0 := blk_frozen BK152.out 0; have hfz11_1 := blk_frozen BK152.out 1) | ((with_reducible refine gate_callee (f := 75) rfl ?_); refine goesL_ (some 9) rfl rfl Try.func75 (by kernel_rfl) rfl #[.slice A0_0 l0_0.length c0_0, .slice A1_0 l1_0.length c1_0] rfl zs_ ?_; (with_reducible refine (laws_eqStringS.calls k _ _ l0_0 _ _ l1_0 true _ ?side1 ?side2 ?side3 ?side4 A3.out).mono ?_); (case side1 => exact zc_ (Kd.C_below HR0_0.out HB.out)); (case side2 => exact HC0_0.out); (case side3 => exact zc_ (Kd.C_below HR1_0.out HB.out)); (case side4 => exact HC1_0.out); rintro e w' ⟨rfl, ⟨nd, rfl⟩⟩; refine ⟨_, rfl, ?_⟩) | ((with_reducible refine gate_callee (f := 76) rfl ?_); refine goesL_ (some 15) rfl rfl Try.func76 (by kernel_rfl) rfl #[.slice A0_1 l0_1.length c0_1, .slice A1_1 l1_1.length c1_1] rfl zs_ ?_; (with_reducible refine (laws_eqDirtyS.calls k _ _ l0_1 _ _ l1_1 true _ ?side1 ?side2 ?side3 ?side4 A5.out).mono ?_); (case side1 => exact zc_ (Kd.C_below HR0_1.out (zg2_ HB.out GE151.out GE152.out))); (case side2 => exact HC0_1.out); (case side3 => exact zc_ (Kd.C_below HR1_1.out (zg2_ HB.out GE151.out GE152.out))); (case side4 => exact HC1_1.out); rintro e w12 ⟨rfl, hb⟩; refine ⟨_, rfl, ?_⟩; have n0_ := Aside0.mk (blk_below (g := gb151) (o := .cells #[.slice A0_0 l0_0.length c0_0, .slice A0_1 l0_1.length c0_1] 30 (0, 0)) (zb_ BK151.out) hb); have n1_ := Aside0.mk (blk_below (g := gb152) (o := .cells #[.slice A1_0 l1_0.length c1_0, .slice A1_1 l1_1.length c1_1] 30 (0, 0)) (zb_ BK152.out) hb); have n2_ := Aside0.mk (below_step (zg2_ HB.out GE151.out GE152.out) hb); clear BK151; clear BK152; clear HB; have BK151 := n0_; have BK152 := n1_; have HB := n2_; clear n0_ n1_ n2_; (try clear hb); (try clear hb2); (try clear hk); (try clear hi)))
   go_ret
   exact ⟨by first | rfl | (simp [errW_none, errW_some] <;> rfl) | (simp [*, errW_none, errW_some] <;> rfl), by repeat (first | (with_reducible first | exact HB.out | apply below_alloc | apply pw_below_drewN | apply below_drew1 | refine below_set ?_ GE151.out | refine below_set ?_ GE152.out) | exact HB.out)⟩
  ·
   replace c6 := Bool.eq_false_iff.mpr c6
   subst c6
   have H1 : (some false) = some r := by rw [if_neg (show ¬ (false = true) by decide)] at H; exact H
   clear H
   have H := H1
   clear H1
   obtain rfl := Option.some.inj H
   go_enter Try.func18, Try.ntmps18
   go_wp2_with (first | ((with_reducible refine gate_dst (N := 2) rfl ?_); refine box_event ?hg (N := 2) ?hd (cs := #[.slice A0_0 l0_0.length c0_0, .slice A0_1 l0_1.length c0_1]) (t := 30) ?hr ?_; (case hd => rfl); (case hg => rfl); (case hr => first | (go_simp; done) | (go_simp; rfl)); intro gb151 hg w13 hbox hb; have n0_ := Aside0.mk (below_step (zh_ HB.out) hb); have n1_ := Aside0.mk (hbox); have n2_ := Aside0.mk ((by rw [hg]; exact (below_size (zh_ HB.out)) : w.heap.size ≤ gb151)); have n3_ := Aside0.mk ((by rw [hg]; exact (below_size (zh_ HB.out)) : w.heap.size ≤ gb151)); clear HB; have HB := n0_; have BK151 := n1_; have GW151 := n2_; have GE151 := n3_; clear n0_ n1_ n2_ n3_; clear hb hbox hg) | ((with_reducible refine gate_dst (N := 3) rfl ?_); refine box_event ?hg (N := 3) ?hd (cs := #[.slice A1_0 l1_0.length c1_0, .slice A1_1 l1_1.length c1_1]) (t := 30) ?hr ?_; (case hd => rfl); (case hg => rfl); (case hr => first | (go_simp; done) | (go_simp; rfl)); intro gb152 hg w14 hbox hb; have n0_ := Aside0.mk (blk_below (g := gb151) (o := .cells #[.slice A0_0 l0_0.length c0_0, .slice A0_1 l0_1.length c0_1] 30 (0, 0)) (zb_ BK151.out) hb); have n1_ := Aside0.mk (below_step (zg1_ HB.out GE151.out) hb); have n2_ := Aside0.mk (hbox); have n3_ := Aside0.mk ((by rw [hg]; exact (below_size (zg1_ HB.out GE151.out)) : w.heap.size ≤ gb152)); have n4_ := Aside0.mk ((by rw [hg]; exact (below_size (zg1_ HB.out GE151.out)) : w.heap.size ≤ gb152)); have n5_ := Aside0.mk ((by rw [hg]; exact Nat.ne_of_lt (blk_lt (g := gb151) (o := .cells #[.slice A0_0 l0_0.length c0_0, .slice A0_1 l0_1.length c0_1] 30 (0, 0)) (zb_ BK151.out)) : gb151 ≠ gb152)); have n6_ := Aside0.mk ((by rw [hg]; exact Nat.ne_of_gt (blk_lt (g := gb151) (o := .cells #[.slice A0_0 l0_0.length c0_0, .slice A0_1 l0_1.length c0_1] 30 (0, 0)) (zb_ BK151.out)) : gb152 ≠ gb151)); clear BK151; clear HB; have BK151 := n0_; have HB := n1_; have BK152 := n2_; have GW152 := n3_; have GE152 := n4_; have NB151_152 := n5_; have NB152_151 := n6_; clear n0_ n1_ n2_ n3_ n4_ n5_ n6_; clear hb hbox hg; have hnb15 := NB151_152.out; have hnc15 := NB152_151.out; have hcz16_0 : w14.cell? ⟨gb151, 0, none⟩ = some (.slice A0_0 l0_0.length c0_0) := (blk_cell BK151.out 0).trans rfl; have hcz16_1 : w14.cell? ⟨gb151, 1, none⟩ = some (.slice A0_1 l0_1.length c0_1) := (blk_cell BK151.out 1).trans rfl; have hfz16_0 := blk_frozen BK151.out 0; have hfz16_1 := blk_frozen BK151.out 1; have hcz17_0 : w14.cell? ⟨gb152, 0, none⟩ = some (.slice A1_0 l1_0.length c1_0) := (blk_cell BK152.out 0).trans rfl; have hcz17_1 : w14.cell? ⟨gb152, 1, none⟩ = some (.slice A1_1 l1_1.length c1_1) := (blk_cell BK152.out 1).trans rfl; have hfz17_0 := blk_frozen BK152.out 0; have hfz17_1 := blk_frozen BK152.out 1) | ((with_reducible refine gate_callee (f := 75) rfl ?_); refine goesL_ (some 9) rfl rfl Try.func75 (by kernel_rfl) rfl #[.slice A0_0 l0_0.length c0_0, .slice A1_0 l1_0.length c1_0] rfl zs_ ?_; (with_reducible refine (laws_eqStringS.calls k _ _ l0_0 _ _ l1_0 true _ ?side1 ?side2 ?side3 ?side4 A3.out).mono ?_); (case side1 => exact zc_ (Kd.C_below HR0_0.out HB.out)); (case side2 => exact HC0_0.out); (case side3 => exact zc_ (Kd.C_below HR1_0.out HB.out)); (case side4 => exact HC1_0.out); rintro e w' ⟨rfl, ⟨nd, rfl⟩⟩; refine ⟨_, rfl, ?_⟩) | ((with_reducible refine gate_callee (f := 76) rfl ?_); refine goesL_ (some 15) rfl rfl Try.func76 (by kernel_rfl) rfl #[.slice A0_1 l0_1.length c0_1, .slice A1_1 l1_1.length c1_1] rfl zs_ ?_; (with_reducible refine (laws_eqDirtyS.calls k _ _ l0_1 _ _ l1_1 false _ ?side1 ?side2 ?side3 ?side4 A5.out).mono ?_); (case side1 => exact zc_ (Kd.C_below HR0_1.out (zg2_ HB.out GE151.out GE152.out))); (case side2 => exact HC0_1.out); (case side3 => exact zc_ (Kd.C_below HR1_1.out (zg2_ HB.out GE151.out GE152.out))); (case side4 => exact HC1_1.out); rintro e w18 ⟨rfl, hb⟩; refine ⟨_, rfl, ?_⟩; have n0_ := Aside0.mk (blk_below (g := gb151) (o := .cells #[.slice A0_0 l0_0.length c0_0, .slice A0_1 l0_1.length c0_1] 30 (0, 0)) (zb_ BK151.out) hb); have n1_ := Aside0.mk (blk_below (g := gb152) (o := .cells #[.slice A1_0 l1_0.length c1_0, .slice A1_1 l1_1.length c1_1] 30 (0, 0)) (zb_ BK152.out) hb); have n2_ := Aside0.mk (below_step (zg2_ HB.out GE151.out GE152.out) hb); clear BK151; clear BK152; clear HB; have BK151 := n0_; have BK152 := n1_; have HB := n2_; clear n0_ n1_ n2_; (try clear hb); (try clear hb2); (try clear hk); (try clear hi)))
   go_ret
   exact ⟨by first | rfl | (simp [errW_none, errW_some] <;> rfl) | (simp [*, errW_none, errW_some] <;> rfl), by repeat (first | (with_reducible first | exact HB.out | apply below_alloc | apply pw_below_drewN | apply below_drew1 | refine below_set ?_ GE151.out | refine below_set ?_ GE152.out) | exact HB.out)⟩
 ·
  replace c4 := Bool.eq_false_iff.mpr c4
  subst c4
  have H1 : (some false) = some r := by rw [if_neg (show ¬ (false = true) by decide)] at H; exact H
  clear H
  have H := H1
  clear H1
  obtain rfl := Option.some.inj H
  go_enter Try.func18, Try.ntmps18
  go_wp2_with (first | ((with_reducible refine gate_dst (N := 2) rfl ?_); refine box_event ?hg (N := 2) ?hd (cs := #[.slice A0_0 l0_0.length c0_0, .slice A0_1 l0_1.length c0_1]) (t := 30) ?hr ?_; (case hd => rfl); (case hg => rfl); (case hr => first | (go_simp; done) | (go_simp; rfl)); intro gb151 hg w19 hbox hb; have n0_ := Aside0.mk (below_step (zh_ HB.out) hb); have n1_ := Aside0.mk (hbox); have n2_ := Aside0.mk ((by rw [hg]; exact (below_size (zh_ HB.out)) : w.heap.size ≤ gb151)); have n3_ := Aside0.mk ((by rw [hg]; exact (below_size (zh_ HB.out)) : w.heap.size ≤ gb151)); clear HB; have HB := n0_; have BK151 := n1_; have GW151 := n2_; have GE151 := n3_; clear n0_ n1_ n2_ n3_; clear hb hbox hg) | ((with_reducible refine gate_dst (N := 3) rfl ?_); refine box_event ?hg (N := 3) ?hd (cs := #[.slice A1_0 l1_0.length c1_0, .slice A1_1 l1_1.length c1_1]) (t := 30) ?hr ?_; (case hd => rfl); (case hg => rfl); (case hr => first | (go_simp; done) | (go_simp; rfl)); intro gb152 hg w20 hbox hb; have n0_ := Aside0.mk (blk_below (g := gb151) (o := .cells #[.slice A0_0 l0_0.length c0_0, .slice A0_1 l0_1.length c0_1] 30 (0, 0)) (zb_ BK151.out) hb); have n1_ := Aside0.mk (below_step (zg1_ HB.out GE151.out) hb); have n2_ := Aside0.mk (hbox); have n3_ := Aside0.mk ((by rw [hg]; exact (below_size (zg1_ HB.out GE151.out)) : w.heap.size ≤ gb152)); have n4_ := Aside0.mk ((by rw [hg]; exact (below_size (zg1_ HB.out GE151.out)) : w.heap.size ≤ gb152)); have n5_ := Aside0.mk ((by rw [hg]; exact Nat.ne_of_lt (blk_lt (g := gb151) (o := .cells #[.slice A0_0 l0_0.length c0_0, .slice A0_1 l0_1.length c0_1] 30 (0, 0)) (zb_ BK151.out)) : gb151 ≠ gb152)); have n6_ := Aside0.mk ((by rw [hg]; exact Nat.ne_of_gt (blk_lt (g := gb151) (o := .cells #[.slice A0_0 l0_0.length c0_0, .slice A0_1 l0_1.length c0_1] 30 (0, 0)) (zb_ BK151.out)) : gb152 ≠ gb151)); clear BK151; clear HB; have BK151 := n0_; have HB := n1_; have BK152 := n2_; have GW152 := n3_; have GE152 := n4_; have NB151_152 := n5_; have NB152_151 := n6_; clear n0_ n1_ n2_ n3_ n4_ n5_ n6_; clear hb hbox hg; have hnb21 := NB151_152.out; have hnc21 := NB152_151.out; have hcz22_0 : w20.cell? ⟨gb151, 0, none⟩ = some (.slice A0_0 l0_0.length c0_0) := (blk_cell BK151.out 0).trans rfl; have hcz22_1 : w20.cell? ⟨gb151, 1, none⟩ = some (.slice A0_1 l0_1.length c0_1) := (blk_cell BK151.out 1).trans rfl; have hfz22_0 := blk_frozen BK151.out 0; have hfz22_1 := blk_frozen BK151.out 1; have hcz23_0 : w20.cell? ⟨gb152, 0, none⟩ = some (.slice A1_0 l1_0.length c1_0) := (blk_cell BK152.out 0).trans rfl; have hcz23_1 : w20.cell? ⟨gb152, 1, none⟩ = some (.slice A1_1 l1_1.length c1_1) := (blk_cell BK152.out 1).trans rfl; have hfz23_0 := blk_frozen BK152.out 0; have hfz23_1 := blk_frozen BK152.out 1) | ((with_reducible refine gate_callee (f := 75) rfl ?_); refine goesL_ (some 9) rfl rfl Try.func75 (by kernel_rfl) rfl #[.slice A0_0 l0_0.length c0_0, .slice A1_0 l1_0.length c1_0] rfl zs_ ?_; (with_reducible refine (laws_eqStringS.calls k _ _ l0_0 _ _ l1_0 false _ ?side1 ?side2 ?side3 ?side4 A3.out).mono ?_); (case side1 => exact zc_ (Kd.C_below HR0_0.out HB.out)); (case side2 => exact HC0_0.out); (case side3 => exact zc_ (Kd.C_below HR1_0.out HB.out)); (case side4 => exact HC1_0.out); rintro e w' ⟨rfl, ⟨nd, rfl⟩⟩; refine ⟨_, rfl, ?_⟩))
  go_ret
  exact ⟨by first | rfl | (simp [errW_none, errW_some] <;> rfl) | (simp [*, errW_none, errW_some] <;> rfl), by repeat (first | (with_reducible first | exact HB.out | apply below_alloc | apply pw_below_drewN | apply below_drew1 | refine below_set ?_ GE151.out | refine below_set ?_ GE152.out) | exact HB.out)⟩

/-! ### impl_Flash_dirty: function 129 -/
def idxFrom {α : Type} (p : α → Bool) : List α → Int → Int
 | [], _ => -1
 | x :: r, i => if p x = true then i else idxFrom p r (i + 1)
theorem idxFrom_drop {α : Type} (l : List α) (k : Nat) (h : k < l.length) : l.drop k = l[k] :: l.drop (k + 1) := by simp
theorem idxFrom_nonneg {α : Type} (p : α → Bool) : ∀ (l : List α) (i : Int), 0 ≤ i → (0 ≤ idxFrom p l i ↔ l.any p = true) := by
 intro l
 induction l with
 | nil => intro i h; simp [idxFrom]
 | cons x r ih =>
  intro i h
  rw [idxFrom, List.any_cons]
  by_cases hx : p x = true
  ·
   rw [if_pos hx, hx]; simp [h]
  ·
   rw [if_neg hx, ih (i + 1) (by omega), Bool.eq_false_iff.2 hx]; simp

set_option maxHeartbeats 8000000 in
/-- A loop over structs with a predicate that keeps I. -/
theorem slices_IndexFunc_92.calls (I : World → Prop) (p : S92 → Bool) (g : Nat) (cap : Array Value) (eg : ∀ args w, (callFunc g args).run Try.prog w = .ok (.enter g args) w) (Ad : Option Addr) (c : Nat) (l : List S92) (w : World)
  (hR : Kd.C k92 w Ad l.length l) (hc : l.length ≤ c) (hbig : l.length ≤ 9223372036854775807) (hw : I w) (hI : ∀ W, I W → Below w.heap.size w W)
  (hp : ∀ (W : World), I W → ∀ x ∈ l, Calls Try.prog g (#[.agg #[.int .i64 x.f0, .string x.f1]] ++ cap) W fun e w' => e = .returned (.bool (p x)) ∧ I w') :
  Calls Try.prog 144 #[.slice Ad l.length c, .func (.func g) #[] cap] w fun e w' => e = .returned (.int .i64 (idxFrom p l 0)) ∧ I w' := by
 have HR := Aside0.mk hR
 clear hR
 go_enter Try.func144, Try.ntmps144
 go_wp2
 go_loopg [5, 8] l.length (fun gg _ s8 wr => ∃ kk : Nat, kk ≤ l.length ∧ l.length - kk ≤ gg ∧ s8 = .int .i64 kk ∧ Aside0 (I wr) ∧ Aside0 (idxFrom p l 0 = idxFrom p (l.drop kk) kk))
 case atStart => exact ⟨0, Nat.zero_le _, by omega, rfl, ⟨hw⟩, ⟨by simp⟩⟩
 case round =>
  obtain ⟨kk, hkk, hg, rfl, IW, IX⟩ := hrel
  by_cases hlt : kk < l.length
  ·
   have hltz : (kk : Int) < (l.length : Int) := by omega
   obtain ⟨ad, rfl, hx0, hx1⟩ := at_T92 HR.out (kk : Int) (by omega) hltz
   have hy : rd_T92 l (kk : Int) = l[kk] := by simp [rd_T92, hlt]
   rw [hy] at hx0; replace hx0 := ((hI wr IW.out).cell (World.block_lt_of_cell? _ _ hx0)).trans hx0; simp only [Int.toNat_natCast] at hx0
   rw [hy] at hx1; replace hx1 := ((hI wr IW.out).cell (World.block_lt_of_cell? _ _ hx1)).trans hx1; simp only [Int.toNat_natCast] at hx1
   have hcall := hp wr IW.out l[kk] (List.getElem_mem hlt)
   have IX2 := IX.out
   rw [idxFrom_drop l kk hlt, idxFrom] at IX2
   clear hp IX hy
   generalize l[kk] = y at hx0 hx1 hcall IX2
   have IX3 := Aside0.mk IX2
   clear IX2
   cases hq : p y with
   | true =>
    rw [hq] at hcall
    go_wp2_with (go_at_fn g; refine hcall.mono ?_; rintro e w' ⟨rfl, hb'⟩)
    go_ret
    exact ⟨by rw [IX3.out, if_pos hq]; rfl, hb'⟩
   | false =>
    rw [hq] at hcall
    go_wp2_with (go_at_fn g; refine hcall.mono ?_; rintro e w' ⟨rfl, hb'⟩)
    go_roundg (l.length - (kk + 1))
    case measure => omega
    case rel => exact ⟨kk + 1, by omega, by omega, by go_num, ⟨hb'⟩, ⟨by rw [IX3.out, hq]; simp⟩⟩
  ·
   have hltz : ¬ (kk : Int) < (l.length : Int) := by omega
   have : kk = l.length := by omega
   subst this
   go_wp2
   go_ret
   exact ⟨by rw [IX.out]; simp [idxFrom], IW.out⟩

def impl_Flash_dirty.is (b : Int) (x : S92) : Bool := x.f0 == b
def impl_Flash_dirty.f (l0_0 : List ByteArray) (l0_1 : List S92) (a1 : Int) : Option Int := if l0_1.length ≤ 9223372036854775807 then some (idxFrom (impl_Flash_dirty.is a1) l0_1 0) else none
theorem impl_Flash_dirty.pred (a1 : Int) (gb : Nat) (W0 W : World) (hc : W0.cell? ⟨gb, 0, none⟩ = some (.int .i64 a1)) (hB : Below W0.heap.size W0 W) (x : S92) :
  Calls Try.prog 145 (#[.agg #[.int .i64 x.f0, .string x.f1]] ++ #[.pointer (some ⟨gb, 0, none⟩)]) W fun e w' => e = .returned (.bool (impl_Flash_dirty.is a1 x)) ∧ Below W0.heap.size W0 w' := by
 have hc' := (hB.cell (World.block_lt_of_cell? _ _ hc)).trans hc
 have hc2 : ∀ o, (W.alloc o).cell? ⟨gb, 0, none⟩ = some (.int .i64 a1) := fun o => (Below.cell (below_alloc (Below.refl _ W) o) (World.block_lt_of_cell? _ _ hc')).trans hc'
 show Calls Try.prog 145 #[.agg #[.int .i64 x.f0, .string x.f1], .pointer (some ⟨gb, 0, none⟩)] W _
 have HB := Aside0.mk hB
 clear hB hc
 unfold impl_Flash_dirty.is
 go_enter Try.func145, Try.ntmps145
 go_wp2
 all_goals (go_ret; exact ⟨rfl, by repeat (first | exact HB.out | apply pw_below_drewN | apply below_drew1 | apply below_alloc)⟩)
theorem impl_Flash_dirty.calls (A0_0 : Option Addr) (c0_0 : Nat) (l0_0 : List ByteArray) (A0_1 : Option Addr) (c0_1 : Nat) (l0_1 : List S92) (a1 : Int) (r : Int) (w : World) (hr0_0 : Kd.C Kd.string w A0_0 l0_0.length l0_0) (hc0_0 : l0_0.length ≤ c0_0) (hr0_1 : Kd.C k92 w A0_1 l0_1.length l0_1) (hc0_1 : l0_1.length ≤ c0_1) (h : impl_Flash_dirty.f l0_0 l0_1 a1 = some r) :
  Calls Try.prog 129 #[.agg #[.slice A0_0 l0_0.length c0_0, .slice A0_1 l0_1.length c0_1], .int .i64 a1] w fun e w' => e = .returned (.int .i64 r) ∧ Below w.heap.size w w' := by
 unfold impl_Flash_dirty.f at h
 by_cases hbig : l0_1.length ≤ 9223372036854775807
 ·
  rw [if_pos hbig] at h
  obtain rfl := Option.some.inj h
  clear h
  have eg : ∀ args w, (callFunc 145 args).run Try.prog w = .ok (.enter 145 args) w := enters_of Try.func145 (by kernel_rfl) rfl
  have hcon := fun (W : World) (hR : Kd.C k92 W A0_1 l0_1.length l0_1) (gb : Nat) (hc : W.cell? ⟨gb, 0, none⟩ = some (.int .i64 a1)) => slices_IndexFunc_92.calls (fun W' => Below W.heap.size W W') (impl_Flash_dirty.is a1) 145 #[.pointer (some ⟨gb, 0, none⟩)] eg A0_1 c0_1 l0_1 W hR hc0_1 hbig (Below.refl _ _) (fun _ h => h) (fun W' hb x _ => impl_Flash_dirty.pred a1 gb W W' hc hb x)
  have HR0 := Aside0.mk hr0_1
  clear hr0_0 hc0_0 hr0_1 hbig
  go_enter Try.func129, Try.ntmps129
  go_wp2_with (go_at_call 144; refine (hcon _ (by repeat (first | exact HR0.out | (with_reducible refine Kd.C_alloc ?_ _) | (with_reducible refine Kd.C_drewN ?_ _) | (with_reducible refine Kd.C_drew ?_))) _ (by go_simp)).mono ?_; rintro e w' ⟨rfl, hb'⟩)
  go_ret
  exact ⟨rfl, below_step (by repeat (first | exact Below.refl _ _ | apply pw_below_drewN | apply below_drew1 | apply below_alloc)) hb'⟩
 ·
  rw [if_neg hbig] at h; cases h


/-! ### impl_isFlash: function 74 -/
set_option maxHeartbeats 8000000 in
/-- A loop over texts with a predicate that keeps I. -/
theorem slices_IndexFunc_s.calls (I : World → Prop) (p : ByteArray → Bool) (g : Nat) (cap : Array Value) (eg : ∀ args w, (callFunc g args).run Try.prog w = .ok (.enter g args) w) (Ad : Option Addr) (c : Nat) (l : List ByteArray) (w : World)
  (hR : Kd.string.C w Ad l.length l) (hc : l.length ≤ c) (hbig : l.length ≤ 9223372036854775807) (hw : I w) (hI : ∀ W, I W → Below w.heap.size w W)
  (hp : ∀ (W : World), I W → ∀ x ∈ l, Calls Try.prog g (#[.string x] ++ cap) W fun e w' => e = .returned (.bool (p x)) ∧ I w') :
  Calls Try.prog 143 #[.slice Ad l.length c, .func (.func g) #[] cap] w fun e w' => e = .returned (.int .i64 (idxFrom p l 0)) ∧ I w' := by
 have HR := Aside0.mk hR
 clear hR
 go_enter Try.func143, Try.ntmps143
 go_wp2
 go_loopg [5, 8] l.length (fun gg _ s8 wr => ∃ kk : Nat, kk ≤ l.length ∧ l.length - kk ≤ gg ∧ s8 = .int .i64 kk ∧ Aside0 (I wr) ∧ Aside0 (idxFrom p l 0 = idxFrom p (l.drop kk) kk))
 case atStart => exact ⟨0, Nat.zero_le _, by omega, rfl, ⟨hw⟩, ⟨by simp⟩⟩
 case round =>
  obtain ⟨kk, hkk, hg, rfl, IW, IX⟩ := hrel
  by_cases hlt : kk < l.length
  ·
   have hltz : (kk : Int) < (l.length : Int) := by omega
   obtain ⟨ad, rfl, hx⟩ := Kd.at_string HR.out (kk : Int) (by omega) hltz
   have hx' := ((hI wr IW.out).cell (World.block_lt_of_cell? _ _ hx)).trans hx
   have hy : rdOf ByteArray.empty l (kk : Int) = l[kk] := by simp [rdOf, hlt]
   rw [hy] at hx hx'
   simp only [Int.toNat_natCast, Nat.mul_one] at hx'
   have hcall := hp wr IW.out l[kk] (List.getElem_mem hlt)
   have IX2 := IX.out
   rw [idxFrom_drop l kk hlt, idxFrom] at IX2
   clear hp IX hy hx
   generalize l[kk] = y at hx' hcall IX2
   have IX3 := Aside0.mk IX2
   clear IX2
   cases hq : p y with
   | true =>
    rw [hq] at hcall
    go_wp2_with (go_at_fn g; refine hcall.mono ?_; rintro e w' ⟨rfl, hb'⟩)
    go_ret
    exact ⟨by rw [IX3.out, if_pos hq]; rfl, hb'⟩
   | false =>
    rw [hq] at hcall
    go_wp2_with (go_at_fn g; refine hcall.mono ?_; rintro e w' ⟨rfl, hb'⟩)
    go_roundg (l.length - (kk + 1))
    case measure => omega
    case rel => exact ⟨kk + 1, by omega, by omega, by go_num, ⟨hb'⟩, ⟨by rw [IX3.out, hq]; simp⟩⟩
  ·
   have hltz : ¬ (kk : Int) < (l.length : Int) := by omega
   have : kk = l.length := by omega
   subst this
   go_wp2
   go_ret
   exact ⟨by rw [IX.out]; simp [idxFrom], IW.out⟩

set_option maxHeartbeats 8000000 in
theorem slices_ContainsFunc_s.calls (I : World → Prop) (p : ByteArray → Bool) (g : Nat) (cap : Array Value) (eg : ∀ args w, (callFunc g args).run Try.prog w = .ok (.enter g args) w) (Ad : Option Addr) (c : Nat) (l : List ByteArray) (w : World)
  (hR : Kd.string.C w Ad l.length l) (hc : l.length ≤ c) (hbig : l.length ≤ 9223372036854775807) (hw : I w) (hI : ∀ W, I W → Below w.heap.size w W)
  (hp : ∀ (W : World), I W → ∀ x ∈ l, Calls Try.prog g (#[.string x] ++ cap) W fun e w' => e = .returned (.bool (p x)) ∧ I w') :
  Calls Try.prog 127 #[.slice Ad l.length c, .func (.func g) #[] cap] w fun e w' => e = .returned (.bool (l.any p)) ∧ I w' := by
 have hcon := slices_IndexFunc_s.calls I p g cap eg Ad c l w hR hc hbig hw hI hp
 have hn := Aside0.mk (idxFrom_nonneg p l 0 (by omega))
 clear hp hR
 generalize idxFrom p l 0 = r at hcon hn
 go_enter Try.func127, Try.ntmps127
 go_wp2_with (go_at_call 143; refine hcon.mono ?_; rintro e w' ⟨rfl, hb'⟩)
 go_ret
 refine ⟨?_, hb'⟩
 have : decide (0 ≤ r) = l.any p := by rw [Bool.eq_iff_iff, decide_eq_true_iff]; exact hn.out
 rw [← this]; rfl
theorem slices_ContainsFunc_s.quiet (p : ByteArray → Bool) (g : Nat) (cap : Array Value) (eg : ∀ args w, (callFunc g args).run Try.prog w = .ok (.enter g args) w) (Ad : Option Addr) (c : Nat) (l : List ByteArray) (w : World)
  (hR : Kd.string.C w Ad l.length l) (hc : l.length ≤ c) (hbig : l.length ≤ 9223372036854775807)
  (hp : ∀ (W : World), ∀ x ∈ l, Calls Try.prog g (#[.string x] ++ cap) W fun e w' => e = .returned (.bool (p x)) ∧ Drawn0 W w') :
  Calls Try.prog 127 #[.slice Ad l.length c, .func (.func g) #[] cap] w fun e w' => e = .returned (.bool (l.any p)) ∧ Drawn0 w w' :=
 slices_ContainsFunc_s.calls (fun W => Drawn0 w W) p g cap eg Ad c l w hR hc hbig ⟨0, rfl⟩ (fun W ⟨⟨n, hn⟩⟩ => by rw [hn]; exact pw_below_drewN (Below.refl _ _) n)
  (fun W ⟨⟨n, hn⟩⟩ x hx => (hp W x hx).mono fun e w' ⟨he, ⟨m, hm⟩⟩ => ⟨he, ⟨n + m, by rw [hm, hn]; exact World.drewN_drewN _ _ _⟩⟩)

def impl_isFlash.long (s : ByteArray) : Bool := decide ((s.size : Int) > 96)
def impl_isFlash.has (n : Int) (a : Int) : Bool := decide (0 ≤ a ∧ a ≤ n - 1)
def impl_isFlash.scan (n : Int) (L : List S92) : List S92 → Int → Bool
 | [], _ => true
 | x :: r, i => if impl_isFlash.has n x.f0 = true then (if (x.f1.size : Int) > 96 then false else if idxFrom (impl_Flash_dirty.is x.f0) L 0 < i then false else impl_isFlash.scan n L r (i + 1)) else false
def impl_isFlash.head (l0_0 : List ByteArray) (l0_1 : List S92) : Bool := decide (1 ≤ (l0_0.length : Int) ∧ (l0_0.length : Int) ≤ 40) && (decide ((l0_1.length : Int) ≤ (l0_0.length : Int)) && !(l0_0.any impl_isFlash.long))
def impl_isFlash.f (l0_0 : List ByteArray) (l0_1 : List S92) : Option Bool :=
 if l0_0.length ≤ 9223372036854775807 ∧ l0_1.length ≤ 9223372036854775807 then some (impl_isFlash.head l0_0 l0_1 && impl_isFlash.scan l0_0.length l0_1 l0_1 0) else none
theorem impl_isFlash.pred (s : ByteArray) (W : World) : Calls Try.prog 128 #[.string s] W fun e w' => e = .returned (.bool (impl_isFlash.long s)) ∧ Drawn0 W w' := by
 unfold impl_isFlash.long
 go_enter Try.func128, Try.ntmps128
 go_wp2
 all_goals (go_ret; exact ⟨rfl, ⟨0, rfl⟩⟩)
theorem impl_isFlash.within_ (a lo hi : Int) (d : Bool) (hd : decide (lo ≤ a ∧ a ≤ hi) = d) : impl_within.f a lo hi = some d := by
 rw [← hd]
 unfold impl_within.f
 by_cases h1 : a ≥ lo
 ·
  rw [if_pos h1]; congr 1; rw [Bool.eq_iff_iff]; simp; omega
 ·
  rw [if_neg h1]; congr 1; rw [eq_comm, decide_eq_false_iff_not]; omega
set_option maxHeartbeats 8000000 in
set_option maxRecDepth 100000 in
theorem impl_isFlash.calls (A0_0 : Option Addr) (c0_0 : Nat) (l0_0 : List ByteArray) (A0_1 : Option Addr) (c0_1 : Nat) (l0_1 : List S92) (r : Bool) (w : World) (hr0_0 : Kd.C Kd.string w A0_0 l0_0.length l0_0) (hc0_0 : l0_0.length ≤ c0_0) (hr0_1 : Kd.C k92 w A0_1 l0_1.length l0_1) (hc0_1 : l0_1.length ≤ c0_1) (h : impl_isFlash.f l0_0 l0_1 = some r) :
  Calls Try.prog 74 #[.agg #[.slice A0_0 l0_0.length c0_0, .slice A0_1 l0_1.length c0_1]] w fun e w' => e = .returned (.bool r) ∧ Below w.heap.size w w' := by
 unfold impl_isFlash.f at h
 by_cases hbig : l0_0.length ≤ 9223372036854775807 ∧ l0_1.length ≤ 9223372036854775807
 ·
  rw [if_pos hbig] at h
  obtain rfl := Option.some.inj h
  clear h
  have HBIG := Aside0.mk hbig
  have hu30 := Try.underlying30
  have HR0 := Aside0.mk hr0_0
  have HC0 := Aside0.mk hc0_0
  have HR1 := Aside0.mk hr0_1
  have HC1 := Aside0.mk hc0_1
  have HS := Aside0.mk (show impl_size_string.f l0_0 = some (l0_0.length : Int) from rfl)
  have eg : ∀ args w, (callFunc 128 args).run Try.prog w = .ok (.enter 128 args) w := enters_of Try.func128 (by kernel_rfl) rfl
  have hcon := fun W hR => slices_ContainsFunc_s.quiet impl_isFlash.long 128 #[] eg A0_0 c0_0 l0_0 W hR hc0_0 hbig.1 (fun W x _ => impl_isFlash.pred x W)
  clear hr0_0 hc0_0 hr0_1 hc0_1 eg
  unfold impl_isFlash.head
  by_cases h1 : 1 ≤ (l0_0.length : Int) ∧ (l0_0.length : Int) ≤ 40
  ·
   have HD := Aside0.mk (impl_isFlash.within_ (l0_0.length : Int) 1 40 true (decide_eq_true h1))
   rw [decide_eq_true h1, Bool.true_and]
   by_cases h2 : (l0_1.length : Int) ≤ (l0_0.length : Int)
   ·
    have h2b : decide ((l0_1.length : Int) > (l0_0.length : Int)) = false := decide_eq_false (by omega)
    have h2c : decide (l0_0.length < l0_1.length) = false := decide_eq_false (by omega)
    rw [decide_eq_true h2, Bool.true_and]
    clear h1 hbig h2
    generalize l0_0.any impl_isFlash.long = v at hcon ⊢
    cases v with
    | true =>
     go_enter Try.func74, Try.ntmps74
     go_wp2_with (first
      | (go_at_call 126; refine (impl_size_string.calls A0_0 c0_0 l0_0 _ _ (by repeat (first | exact HR0.out | (with_reducible refine Kd.C_alloc ?_ _) | (with_reducible refine Kd.C_drewN ?_ _) | (with_reducible refine Kd.C_drew ?_))) HC0.out HS.out).mono ?_; rintro e w1 ⟨rfl, ⟨n1, rfl⟩⟩)
      | (go_at_call 116; refine (impl_within.calls _ _ _ _ _ HD.out).mono ?_; rintro e w1 ⟨rfl, ⟨n2, rfl⟩⟩)
      | (go_at_call 127; refine (hcon _ (by repeat (first | exact HR0.out | (with_reducible refine Kd.C_alloc ?_ _) | (with_reducible refine Kd.C_drewN ?_ _) | (with_reducible refine Kd.C_drew ?_)))).mono ?_; rintro e w' ⟨rfl, ⟨n3, rfl⟩⟩))
     go_ret
     exact ⟨rfl, by repeat (first | exact Below.refl _ _ | apply pw_below_drewN | apply below_drew1 | apply below_alloc)⟩
    | false =>
     have HB0 := Aside0.mk (blk_new w (.cells #[.slice A0_0 l0_0.length c0_0, .slice A0_1 l0_1.length c0_1] 30))
     go_enter Try.func74, Try.ntmps74
     go_wp2_with (first
      | (go_at_call 126; refine (impl_size_string.calls A0_0 c0_0 l0_0 _ _ (by repeat (first | exact HR0.out | (with_reducible refine Kd.C_alloc ?_ _) | (with_reducible refine Kd.C_drewN ?_ _) | (with_reducible refine Kd.C_drew ?_))) HC0.out HS.out).mono ?_; rintro e w1 ⟨rfl, ⟨n1, rfl⟩⟩)
      | (go_at_call 116; refine (impl_within.calls _ _ _ _ _ HD.out).mono ?_; rintro e w1 ⟨rfl, ⟨n2, rfl⟩⟩)
      | (go_at_call 127; refine (hcon _ (by repeat (first | exact HR0.out | (with_reducible refine Kd.C_alloc ?_ _) | (with_reducible refine Kd.C_drewN ?_ _) | (with_reducible refine Kd.C_drew ?_)))).mono ?_; rintro e w' ⟨rfl, ⟨n3, rfl⟩⟩))
     clear hcon h2b h2c HD HS
     go_loopg [3, 4, 27] l0_1.length (fun gg _ _ v27 wr => ∃ kk : Nat, v27 = .int .i64 kk ∧ Aside0 (kk ≤ l0_1.length) ∧ Aside0 (l0_1.length - kk ≤ gg) ∧ Aside0 (Below w.heap.size w wr) ∧ Aside0 (wr.heap[w.heap.size]? = some (.cells #[.slice A0_0 l0_0.length c0_0, .slice A0_1 l0_1.length c0_1] 30 (0, 0))) ∧ Aside0 (impl_isFlash.scan l0_0.length l0_1 l0_1 0 = impl_isFlash.scan l0_0.length l0_1 (l0_1.drop kk) kk))
     case atStart => exact ⟨0, rfl, ⟨Nat.zero_le _⟩, ⟨Nat.le_refl _⟩, ⟨by repeat (first | exact Below.refl _ _ | apply pw_below_drewN | apply below_drew1 | apply below_alloc)⟩, HB0, ⟨rfl⟩⟩
     case round =>
      clear HB0
      obtain ⟨kk, rfl, HK, HG, HB, HX, HS⟩ := hrel
      by_cases hlt : kk < l0_1.length
      ·
       have hltz : decide ((kk : Int) < (l0_1.length : Int)) = true := decide_eq_true (by omega)
       have p0 : (0 : Int) ≤ (kk : Int) := by omega
       have qq0 : (kk : Int) < (l0_1.length : Int) := by omega
       obtain ⟨ad, rfl, hx0, hx1⟩ := at_T92 HR1.out (kk : Int) p0 qq0
       have hy : rd_T92 l0_1 (kk : Int) = l0_1[kk] := by simp [rd_T92, hlt]
       rw [hy] at hx0; replace hx0 := (HB.out.cell (World.block_lt_of_cell? _ _ hx0)).trans hx0; simp only [Int.toNat_natCast] at hx0
       rw [hy] at hx1; replace hx1 := (HB.out.cell (World.block_lt_of_cell? _ _ hx1)).trans hx1; simp only [Int.toNat_natCast] at hx1
       have HS2 := HS.out
       rw [idxFrom_drop l0_1 kk hlt, impl_isFlash.scan] at HS2
       clear HS hy
       generalize l0_1[kk] = x at hx0 hx1 HS2
       have hh : impl_Flash_has.f l0_0 l0_1 x.f0 = some (impl_isFlash.has l0_0.length x.f0) := by
        unfold impl_Flash_has.f
        rw [show impl_size_string.f l0_0 = some (l0_0.length : Int) from rfl, Option.bind_some, show wrap64 ((l0_0.length : Int) - 1) = (l0_0.length : Int) - 1 from by have := HBIG.out; unfold wrap64; omega, impl_isFlash.within_ x.f0 0 ((l0_0.length : Int) - 1) _ rfl]
        rfl
       have htch : impl_Flash_dirty.f l0_0 l0_1 x.f0 = some (idxFrom (impl_Flash_dirty.is x.f0) l0_1 0) := by unfold impl_Flash_dirty.f; rw [if_pos HBIG.out.2]
       have e27 : wrap64 ((kk : Int) + 1) = ((kk + 1 : Nat) : Int) := by have := HBIG.out; unfold wrap64; omega
       generalize idxFrom (impl_Flash_dirty.is x.f0) l0_1 0 = tv at htch HS2
       generalize impl_isFlash.has l0_0.length x.f0 = hv at hh HS2
       have HT := Aside0.mk htch
       have HH := Aside0.mk hh
       have HWB := Aside0.mk (blk_alloc HX.out (.cells #[.int .i64 x.f0, .string x.f1] 92))
       have HWN := Aside0.mk (blk_new wr (.cells #[.int .i64 x.f0, .string x.f1] 92))
       have hb0 : ∀ o, (wr.alloc o).cell? ⟨w.heap.size, 0, none⟩ = some (.slice A0_0 l0_0.length c0_0) := fun o => (blk_cell (blk_alloc HX.out o) 0).trans rfl
       have hb1 : ∀ o, (wr.alloc o).cell? ⟨w.heap.size, 1, none⟩ = some (.slice (some ad) l0_1.length c0_1) := fun o => (blk_cell (blk_alloc HX.out o) 1).trans rfl
       clear htch hh
       cases hv with
       | false =>
        go_wp2_with (go_at_call 89; refine (impl_Flash_has.calls A0_0 c0_0 l0_0 (some ad) c0_1 l0_1 x.f0 _ _ (Kd.C_below HR0.out (by repeat (first | exact HB.out | apply pw_below_drewN | apply below_drew1 | apply below_alloc))) HC0.out (Kd.C_below HR1.out (by repeat (first | exact HB.out | apply pw_below_drewN | apply below_drew1 | apply below_alloc))) HC1.out HH.out).mono ?_; rintro e w2 ⟨rfl, hb2⟩; have HB2 := Aside0.mk (show Below w.heap.size w w2 from below_then (by repeat (first | exact HB.out | apply pw_below_drewN | apply below_drew1 | apply below_alloc)) (below_size (by repeat (first | exact HB.out | apply pw_below_drewN | apply below_drew1 | apply below_alloc))) hb2); have hkB := blk_below (by exact HWB.out) hb2; have hkN := blk_below (by exact HWN.out) hb2; have HKB := Aside0.mk hkB; have q0 : w2.cell? ⟨w.heap.size, 0, none⟩ = some (.slice A0_0 l0_0.length c0_0) := (blk_cell hkB 0).trans rfl; have q1 : w2.cell? ⟨w.heap.size, 1, none⟩ = some (.slice (some ad) l0_1.length c0_1) := (blk_cell hkB 1).trans rfl; have m0 : w2.cell? ⟨wr.heap.size, 0, none⟩ = some (.int .i64 x.f0) := (blk_cell hkN 0).trans rfl; have m1 : w2.cell? ⟨wr.heap.size, 1, none⟩ = some (.string x.f1) := (blk_cell hkN 1).trans rfl; clear hb2 hkB hkN)
        go_ret
        exact ⟨by rw [HS2]; rfl, HB2.out⟩
       | true =>
        by_cases h9 : (x.f1.size : Int) > 96
        ·
         have hl1 : decide ((x.f1.size : Int) > 96) = true := decide_eq_true h9
         have hl2 : decide (96 < x.f1.size) = true := decide_eq_true (by omega)
         rw [if_pos rfl, if_pos h9] at HS2
         clear h9
         have HS := Aside0.mk HS2
         clear HS2
         go_wp2_with (go_at_call 89; refine (impl_Flash_has.calls A0_0 c0_0 l0_0 (some ad) c0_1 l0_1 x.f0 _ _ (Kd.C_below HR0.out (by repeat (first | exact HB.out | apply pw_below_drewN | apply below_drew1 | apply below_alloc))) HC0.out (Kd.C_below HR1.out (by repeat (first | exact HB.out | apply pw_below_drewN | apply below_drew1 | apply below_alloc))) HC1.out HH.out).mono ?_; rintro e w2 ⟨rfl, hb2⟩; have HB2 := Aside0.mk (show Below w.heap.size w w2 from below_then (by repeat (first | exact HB.out | apply pw_below_drewN | apply below_drew1 | apply below_alloc)) (below_size (by repeat (first | exact HB.out | apply pw_below_drewN | apply below_drew1 | apply below_alloc))) hb2); have hkB := blk_below (by exact HWB.out) hb2; have hkN := blk_below (by exact HWN.out) hb2; have HKB := Aside0.mk hkB; have q0 : w2.cell? ⟨w.heap.size, 0, none⟩ = some (.slice A0_0 l0_0.length c0_0) := (blk_cell hkB 0).trans rfl; have q1 : w2.cell? ⟨w.heap.size, 1, none⟩ = some (.slice (some ad) l0_1.length c0_1) := (blk_cell hkB 1).trans rfl; have m0 : w2.cell? ⟨wr.heap.size, 0, none⟩ = some (.int .i64 x.f0) := (blk_cell hkN 0).trans rfl; have m1 : w2.cell? ⟨wr.heap.size, 1, none⟩ = some (.string x.f1) := (blk_cell hkN 1).trans rfl; clear hb2 hkB hkN)
         go_ret
         exact ⟨by rw [HS.out]; rfl, HB2.out⟩
        ·
         have hl1 : decide ((x.f1.size : Int) > 96) = false := decide_eq_false h9
         have hl2 : decide (96 < x.f1.size) = false := decide_eq_false (by omega)
         rw [if_pos rfl, if_neg h9] at HS2
         clear h9
         by_cases ht : tv < (kk : Int)
         ·
          have htb : decide (tv < (kk : Int)) = true := decide_eq_true ht
          rw [if_pos ht] at HS2
          have HS := Aside0.mk HS2
          clear HS2 ht
          go_wp2_with (first | (go_at_call 89; refine (impl_Flash_has.calls A0_0 c0_0 l0_0 (some ad) c0_1 l0_1 x.f0 _ _ (Kd.C_below HR0.out (by repeat (first | exact HB.out | apply pw_below_drewN | apply below_drew1 | apply below_alloc))) HC0.out (Kd.C_below HR1.out (by repeat (first | exact HB.out | apply pw_below_drewN | apply below_drew1 | apply below_alloc))) HC1.out HH.out).mono ?_; rintro e w2 ⟨rfl, hb2⟩; have HB2 := Aside0.mk (show Below w.heap.size w w2 from below_then (by repeat (first | exact HB.out | apply pw_below_drewN | apply below_drew1 | apply below_alloc)) (below_size (by repeat (first | exact HB.out | apply pw_below_drewN | apply below_drew1 | apply below_alloc))) hb2); have hkB := blk_below (by exact HWB.out) hb2; have hkN := blk_below (by exact HWN.out) hb2; have HKB := Aside0.mk hkB; have q0 : w2.cell? ⟨w.heap.size, 0, none⟩ = some (.slice A0_0 l0_0.length c0_0) := (blk_cell hkB 0).trans rfl; have q1 : w2.cell? ⟨w.heap.size, 1, none⟩ = some (.slice (some ad) l0_1.length c0_1) := (blk_cell hkB 1).trans rfl; have m0 : w2.cell? ⟨wr.heap.size, 0, none⟩ = some (.int .i64 x.f0) := (blk_cell hkN 0).trans rfl; have m1 : w2.cell? ⟨wr.heap.size, 1, none⟩ = some (.string x.f1) := (blk_cell hkN 1).trans rfl; clear hb2 hkB hkN) | (go_at_call 129; refine (impl_Flash_dirty.calls A0_0 c0_0 l0_0 (some ad) c0_1 l0_1 x.f0 tv _ (Kd.C_below HR0.out (by repeat (first | exact HB2.out | apply pw_below_drewN | apply below_drew1))) HC0.out (Kd.C_below HR1.out (by repeat (first | exact HB2.out | apply pw_below_drewN | apply below_drew1))) HC1.out HT.out).mono ?_; rintro e w3 ⟨rfl, hb3⟩; have HB3 := Aside0.mk (show Below w.heap.size w w3 from below_then (by repeat (first | exact HB2.out | apply pw_below_drewN | apply below_drew1)) (below_size (by repeat (first | exact HB2.out | apply pw_below_drewN | apply below_drew1))) hb3); have HKB3 := Aside0.mk (blk_below (by exact HKB.out) hb3); clear hb3))
          go_ret
          exact ⟨by rw [HS.out]; rfl, HB3.out⟩
         ·
          have htb : decide (tv < (kk : Int)) = false := decide_eq_false ht
          rw [if_neg ht] at HS2
          have HS := Aside0.mk HS2
          clear HS2 ht
          go_wp2_with (first | (go_at_call 89; refine (impl_Flash_has.calls A0_0 c0_0 l0_0 (some ad) c0_1 l0_1 x.f0 _ _ (Kd.C_below HR0.out (by repeat (first | exact HB.out | apply pw_below_drewN | apply below_drew1 | apply below_alloc))) HC0.out (Kd.C_below HR1.out (by repeat (first | exact HB.out | apply pw_below_drewN | apply below_drew1 | apply below_alloc))) HC1.out HH.out).mono ?_; rintro e w2 ⟨rfl, hb2⟩; have HB2 := Aside0.mk (show Below w.heap.size w w2 from below_then (by repeat (first | exact HB.out | apply pw_below_drewN | apply below_drew1 | apply below_alloc)) (below_size (by repeat (first | exact HB.out | apply pw_below_drewN | apply below_drew1 | apply below_alloc))) hb2); have hkB := blk_below (by exact HWB.out) hb2; have hkN := blk_below (by exact HWN.out) hb2; have HKB := Aside0.mk hkB; have q0 : w2.cell? ⟨w.heap.size, 0, none⟩ = some (.slice A0_0 l0_0.length c0_0) := (blk_cell hkB 0).trans rfl; have q1 : w2.cell? ⟨w.heap.size, 1, none⟩ = some (.slice (some ad) l0_1.length c0_1) := (blk_cell hkB 1).trans rfl; have m0 : w2.cell? ⟨wr.heap.size, 0, none⟩ = some (.int .i64 x.f0) := (blk_cell hkN 0).trans rfl; have m1 : w2.cell? ⟨wr.heap.size, 1, none⟩ = some (.string x.f1) := (blk_cell hkN 1).trans rfl; clear hb2 hkB hkN) | (go_at_call 129; refine (impl_Flash_dirty.calls A0_0 c0_0 l0_0 (some ad) c0_1 l0_1 x.f0 tv _ (Kd.C_below HR0.out (by repeat (first | exact HB2.out | apply pw_below_drewN | apply below_drew1))) HC0.out (Kd.C_below HR1.out (by repeat (first | exact HB2.out | apply pw_below_drewN | apply below_drew1))) HC1.out HT.out).mono ?_; rintro e w3 ⟨rfl, hb3⟩; have HB3 := Aside0.mk (show Below w.heap.size w w3 from below_then (by repeat (first | exact HB2.out | apply pw_below_drewN | apply below_drew1)) (below_size (by repeat (first | exact HB2.out | apply pw_below_drewN | apply below_drew1))) hb3); have HKB3 := Aside0.mk (blk_below (by exact HKB.out) hb3); clear hb3))
          go_roundg (l0_1.length - (kk + 1))
          case measure => have := HG.out; omega
          case rel => exact ⟨kk + 1, by rw [e27], ⟨by omega⟩, ⟨Nat.le_refl _⟩, HB3, HKB3, ⟨by have e : ((kk + 1 : Nat) : Int) = (kk : Int) + 1 := (by omega); rw [HS.out, e]⟩⟩
      ·
       have hltz : decide ((kk : Int) < (l0_1.length : Int)) = false := decide_eq_false (by omega)
       have hk : kk = l0_1.length := by have := HK.out; omega
       have HS2 := HS.out
       rw [hk, List.drop_length, impl_isFlash.scan] at HS2
       go_wp2
       go_ret
       exact ⟨by rw [HS2]; rfl, HB.out⟩
   ·
    have h2b : decide ((l0_1.length : Int) > (l0_0.length : Int)) = true := decide_eq_true (by omega)
    have h2c : decide (l0_0.length < l0_1.length) = true := decide_eq_true (by omega)
    rw [decide_eq_false h2]
    clear h1 hbig h2
    go_enter Try.func74, Try.ntmps74
    go_wp2_with (first
     | (go_at_call 126; refine (impl_size_string.calls A0_0 c0_0 l0_0 _ _ (by repeat (first | exact HR0.out | (with_reducible refine Kd.C_alloc ?_ _) | (with_reducible refine Kd.C_drewN ?_ _) | (with_reducible refine Kd.C_drew ?_))) HC0.out HS.out).mono ?_; rintro e w1 ⟨rfl, ⟨n1, rfl⟩⟩)
     | (go_at_call 116; refine (impl_within.calls _ _ _ _ _ HD.out).mono ?_; rintro e w1 ⟨rfl, ⟨n2, rfl⟩⟩))
    go_ret
    exact ⟨rfl, by repeat (first | exact Below.refl _ _ | apply pw_below_drewN | apply below_drew1 | apply below_alloc)⟩
  ·
   have HD := Aside0.mk (impl_isFlash.within_ (l0_0.length : Int) 1 40 false (decide_eq_false h1))
   rw [decide_eq_false h1]
   clear h1 hbig
   go_enter Try.func74, Try.ntmps74
   go_wp2_with (first
    | (go_at_call 126; refine (impl_size_string.calls A0_0 c0_0 l0_0 _ _ (by repeat (first | exact HR0.out | (with_reducible refine Kd.C_alloc ?_ _) | (with_reducible refine Kd.C_drewN ?_ _) | (with_reducible refine Kd.C_drew ?_))) HC0.out HS.out).mono ?_; rintro e w1 ⟨rfl, ⟨n1, rfl⟩⟩)
    | (go_at_call 116; refine (impl_within.calls _ _ _ _ _ HD.out).mono ?_; rintro e w1 ⟨rfl, ⟨n2, rfl⟩⟩))
   go_ret
   exact ⟨rfl, by repeat (first | exact Below.refl _ _ | apply pw_below_drewN | apply below_drew1 | apply below_alloc)⟩
 ·
  rw [if_neg hbig] at h; cases h


end Go.Proofs.Ytibnmnkembbgeaa.Q
