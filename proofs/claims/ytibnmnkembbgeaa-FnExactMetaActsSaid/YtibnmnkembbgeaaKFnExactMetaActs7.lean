/- For each Go function that the laws of this text reach: a Lean function, and the proof that the Go function returns what the Lean function tells, wherever it tells some value. Written by a program of this session. -/
import Derived.Test.YtibnmnkembbgeaaKFnExactMetaActs0
import Derived.Test.YtibnmnkembbgeaaKFnExactMetaActs4
import Derived.Test.YtibnmnkembbgeaaKFnExactMetaActs6
namespace Go.Proofs.Ytibnmnkembbgeaa.Q
open Go.RowKit Go.Proofs.YtibnmnkembbgeaaW.PrintWords Go.Proofs.YtibnmnkembbgeaaW.PrintLast Go.Proofs.YtibnmnkembbgeaaW.PrintMore
attribute [local go_sem] max2_int min2_int max_two min_two max_three min_three max_four min_four Instr.field asAgg   -- for this text's walks alone
set_option linter.unusedVariables false
set_option linter.unusedSimpArgs false
/-! ### spec_l04Get: function 104 -/
def spec_l04Get.j0 : Nat → Bool → Int → ByteArray → Int → Int → ByteArray → Int → Option (Int × ByteArray × Int × Int)
 | 0, _, _, _, _, _, _, _ => none
 | k + 1, x12, x946000, x946001, x946002, x947000, x947001, x947002 => if x12 = true then (some (x946000, x946001, x946002, 0)) else (if x947002 = 0 then (some (x947000, x947001, x947002, 1)) else (some (0, (⟨#[]⟩ : ByteArray), 6, (-1))))
def spec_l04Get.f (k : Nat) (l0_0 : List ByteArray) (l0_1 : List (S92)) : Option (Int × ByteArray × Int × Int) := (spec_l03Get.f k l0_0 l0_1 0).bind fun t937 => ((spec_MetaRead.f k t937).bind fun bt938 => ((spec_l03Get.f k l0_0 l0_1 1).bind fun t941 => ((spec_MetaRead.f k t941).bind fun bt942 => (if bt938.2.2 = 0 then (if bt942.2.2 = 0 then (spec_l04Get.j0 k (decide (bt938.1 ≥ bt942.1)) bt938.1 bt938.2.1 bt938.2.2 bt942.1 bt942.2.1 bt942.2.2) else (spec_l04Get.j0 k true bt938.1 bt938.2.1 bt938.2.2 bt942.1 bt942.2.1 bt942.2.2)) else (spec_l04Get.j0 k false bt938.1 bt938.2.1 bt938.2.2 bt942.1 bt942.2.1 bt942.2.2)))))
theorem spec_l04Get.mono_l : ∀ k, (∀ y0 y1 y2 y3 y4 y5 y6, LeO (spec_l04Get.j0 k y0 y1 y2 y3 y4 y5 y6) (spec_l04Get.j0 (k + 1) y0 y1 y2 y3 y4 y5 y6))
 | 0 => fun _ _ _ _ _ _ _ r h => by simp [spec_l04Get.j0] at h
 | k + 1 => by
  have ih0 := spec_l04Get.mono_l k
  ·
   intro y0 y1 y2 y3 y4 y5 y6
   unfold spec_l04Get.j0
   repeat' first
   | (with_reducible exact ih0 _ _ _ _ _ _ _)
   | (with_reducible exact spec_MetaRead.mono _ _)
   | (with_reducible exact spec_l03Get.mono _ _ _ _)
   | (with_reducible exact LeO.refl _)
   | (with_reducible exact LeO.none _)
   | (with_reducible refine LeO.ite ?_ ?_)
   | (with_reducible refine LeO.bind ?_ (fun _ => ?_))
   | exact ih0 _ _ _ _ _ _ _
   | exact spec_MetaRead.mono _ _
   | exact spec_l03Get.mono _ _ _ _
   | exact LeO.none _
   | refine LeO.ite ?_ ?_
   | refine LeO.bind ?_ (fun _ => ?_)
theorem spec_l04Get.mono : ∀ a0 a1 k, LeO (spec_l04Get.f k a0 a1) (spec_l04Get.f (k + 1) a0 a1) := by
 intro a0 a1 k
 have ih0 := spec_l04Get.mono_l k
 unfold spec_l04Get.f
 repeat' first
   | (with_reducible exact ih0 _ _ _ _ _ _ _)
   | (with_reducible exact spec_MetaRead.mono _ _)
   | (with_reducible exact spec_l03Get.mono _ _ _ _)
   | (with_reducible exact LeO.refl _)
   | (with_reducible exact LeO.none _)
   | (with_reducible refine LeO.ite ?_ ?_)
   | (with_reducible refine LeO.bind ?_ (fun _ => ?_))
   | exact ih0 _ _ _ _ _ _ _
   | exact spec_MetaRead.mono _ _
   | exact spec_l03Get.mono _ _ _ _
   | exact LeO.none _
   | refine LeO.ite ?_ ?_
   | refine LeO.bind ?_ (fun _ => ?_)
def spec_l04Get.T1 : Bool × List (List Nat × List Nat) := (true, [([], []), ([0], [0]), ([1, 1], [1]), ([], []), ([3, 2], [3]), ([4, 4], [4]), ([], []), ([], []), ([6, 2, 5, 0, 1, 2, 6, 7], [2, 6]), ([7, 5, 8, 0, 1, 2, 3, 4, 5, 6, 7, 8], [5, 7])])
def spec_l04Get.B1 : List Nat := [0, 1, 3, 0, 15, 31, 0, 0, 255, 511]
theorem spec_l04Get.tab1 : rtab .any (opsOf Try.f104 1) = spec_l04Get.T1 := by kernel_rfl
theorem spec_l04Get.bits1 : waitsOk spec_l04Get.T1.2 spec_l04Get.B1 = true := by kernel_rfl
set_option maxHeartbeats 8000000 in
set_option maxRecDepth 100000 in
theorem spec_l04Get.calls (k : Nat) (A0_0 : Option Addr) (c0_0 : Nat) (l0_0 : List ByteArray) (A0_1 : Option Addr) (c0_1 : Nat) (l0_1 : List (S92)) (r1 : Int) (r2 : ByteArray) (r3 : Int) (r4 : Int) (w : World) (hr0_0 : Kd.C Kd.string w A0_0 l0_0.length l0_0) (hc0_0 : l0_0.length ≤ c0_0) (hr0_1 : Kd.C k92 w A0_1 l0_1.length l0_1) (hc0_1 : l0_1.length ≤ c0_1) (h : spec_l04Get.f k l0_0 l0_1 = some (r1, r2, r3, r4)) :
  Calls Try.prog 104 #[.agg #[.slice A0_0 l0_0.length c0_0, .slice A0_1 l0_1.length c0_1]] w fun e w' => e = .returned (.tuple #[.agg #[.int .i64 r1, .string r2, .int .i64 r3], .int .i64 r4]) ∧ Below w.heap.size w w' := by
 have hu30 := Try.underlying30
 have hu41 := Try.underlying41
 have HR0_0 := zA_ hr0_0
 have HC0_0 := zA_ hc0_0
 clear hr0_0 hc0_0
 have HR0_1 := zA_ hr0_1
 have HC0_1 := zA_ hc0_1
 clear hr0_1 hc0_1
 have HB := zA_ (Below.refl w.heap.size w)
 have H : ((spec_l03Get.f k l0_0 l0_1 0).bind fun t937 => ((spec_MetaRead.f k t937).bind fun bt938 => ((spec_l03Get.f k l0_0 l0_1 1).bind fun t941 => ((spec_MetaRead.f k t941).bind fun bt942 => (if bt938.2.2 = 0 then (if bt942.2.2 = 0 then (spec_l04Get.j0 k (decide (bt938.1 ≥ bt942.1)) bt938.1 bt938.2.1 bt938.2.2 bt942.1 bt942.2.1 bt942.2.2) else (spec_l04Get.j0 k true bt938.1 bt938.2.1 bt938.2.2 bt942.1 bt942.2.1 bt942.2.2)) else (spec_l04Get.j0 k false bt938.1 bt938.2.1 bt938.2.2 bt942.1 bt942.2.1 bt942.2.2)))))) = some (r1, r2, r3, r4) := h
 clear h
 replace H := Option.bind_eq_some_iff.mp H
 obtain ⟨t937, A20, H⟩ := H
 replace H : ((spec_MetaRead.f k t937).bind fun bt938 => ((spec_l03Get.f k l0_0 l0_1 1).bind fun t941 => ((spec_MetaRead.f k t941).bind fun bt942 => (if bt938.2.2 = 0 then (if bt942.2.2 = 0 then (spec_l04Get.j0 k (decide (bt938.1 ≥ bt942.1)) bt938.1 bt938.2.1 bt938.2.2 bt942.1 bt942.2.1 bt942.2.2) else (spec_l04Get.j0 k true bt938.1 bt938.2.1 bt938.2.2 bt942.1 bt942.2.1 bt942.2.2)) else (spec_l04Get.j0 k false bt938.1 bt938.2.1 bt938.2.2 bt942.1 bt942.2.1 bt942.2.2))))) = some (r1, r2, r3, r4) := H
 have A2 := zA_ A20
 clear A20
 replace H := Option.bind_eq_some_iff.mp H
 obtain ⟨⟨t938, t939, t940⟩, A30, H⟩ := H
 replace H : ((spec_l03Get.f k l0_0 l0_1 1).bind fun t941 => ((spec_MetaRead.f k t941).bind fun bt942 => (if t940 = 0 then (if bt942.2.2 = 0 then (spec_l04Get.j0 k (decide (t938 ≥ bt942.1)) t938 t939 t940 bt942.1 bt942.2.1 bt942.2.2) else (spec_l04Get.j0 k true t938 t939 t940 bt942.1 bt942.2.1 bt942.2.2)) else (spec_l04Get.j0 k false t938 t939 t940 bt942.1 bt942.2.1 bt942.2.2)))) = some (r1, r2, r3, r4) := H
 have A3 := zA_ A30
 clear A30
 replace H := Option.bind_eq_some_iff.mp H
 obtain ⟨t941, A40, H⟩ := H
 replace H : ((spec_MetaRead.f k t941).bind fun bt942 => (if t940 = 0 then (if bt942.2.2 = 0 then (spec_l04Get.j0 k (decide (t938 ≥ bt942.1)) t938 t939 t940 bt942.1 bt942.2.1 bt942.2.2) else (spec_l04Get.j0 k true t938 t939 t940 bt942.1 bt942.2.1 bt942.2.2)) else (spec_l04Get.j0 k false t938 t939 t940 bt942.1 bt942.2.1 bt942.2.2))) = some (r1, r2, r3, r4) := H
 have A4 := zA_ A40
 clear A40
 replace H := Option.bind_eq_some_iff.mp H
 obtain ⟨⟨t942, t943, t944⟩, A50, H⟩ := H
 replace H : (if t940 = 0 then (if t944 = 0 then (spec_l04Get.j0 k (decide (t938 ≥ t942)) t938 t939 t940 t942 t943 t944) else (spec_l04Get.j0 k true t938 t939 t940 t942 t943 t944)) else (spec_l04Get.j0 k false t938 t939 t940 t942 t943 t944)) = some (r1, r2, r3, r4) := H
 have A5 := zA_ A50
 clear A50
 have HC6 := zA_ H
 clear H
 go_enter Try.func104, Try.ntmps104
 try go_wp2_with (first | ((with_reducible refine gate_dst (N := 1) rfl ?_); refine box_event ?hg (N := 1) ?hd (cs := #[.slice A0_0 l0_0.length c0_0, .slice A0_1 l0_1.length c0_1]) (t := 30) ?hr ?_; (case hd => rfl); (case hg => rfl); (case hr => first | (go_simp; done) | (go_simp; rfl)); intro gb935 hg w7 hbox hb; have n0_ := zA_ (below_step (zh_ HB.out) hb); have n1_ := zA_ (hbox); have n2_ := zA_ ((by rw [hg]; exact (below_size (zh_ HB.out)) : w.heap.size ≤ gb935)); have n3_ := zA_ ((by rw [hg]; exact (below_size (zh_ HB.out)) : w.heap.size ≤ gb935)); clear HB; have HB := n0_; have BK935 := n1_; have GW935 := n2_; have GE935 := n3_; clear n0_ n1_ n2_ n3_; clear hb hbox hg) | ((with_reducible refine gate_dst (N := 2) rfl ?_); refine box_event ?hg (N := 2) ?hd (cs := #[.int .i64 0, .string (⟨#[]⟩ : ByteArray), .int .i64 0]) (t := 41) ?hr ?_; (case hd => rfl); (case hg => rfl); (case hr => first | (go_simp; done) | (go_simp; rfl)); intro gb936 hg w8 hbox hb; have n0_ := zA_ (blk_below (g := gb935) (o := .cells #[.slice A0_0 l0_0.length c0_0, .slice A0_1 l0_1.length c0_1] 30 (0, 0)) (zb_ BK935.out) hb); have n1_ := zA_ (below_step (zg1_ HB.out GE935.out) hb); have n2_ := zA_ (hbox); have n3_ := zA_ ((by rw [hg]; exact (below_size (zg1_ HB.out GE935.out)) : w.heap.size ≤ gb936)); have n4_ := zA_ ((by rw [hg]; exact (below_size (zg1_ HB.out GE935.out)) : w.heap.size ≤ gb936)); have n5_ := zA_ ((by rw [hg]; exact Nat.ne_of_lt (blk_lt (g := gb935) (o := .cells #[.slice A0_0 l0_0.length c0_0, .slice A0_1 l0_1.length c0_1] 30 (0, 0)) (zb_ BK935.out)) : gb935 ≠ gb936)); have n6_ := zA_ ((by rw [hg]; exact Nat.ne_of_gt (blk_lt (g := gb935) (o := .cells #[.slice A0_0 l0_0.length c0_0, .slice A0_1 l0_1.length c0_1] 30 (0, 0)) (zb_ BK935.out)) : gb936 ≠ gb935)); clear BK935 HB; have BK935 := n0_; have HB := n1_; have BK936 := n2_; have GW936 := n3_; have GE936 := n4_; have NB935_936 := n5_; have NB936_935 := n6_; clear n0_ n1_ n2_ n3_ n4_ n5_ n6_; clear hb hbox hg))
 have n0_ := zA_ (blk_drew BK935.out)
 have n1_ := zA_ (blk_drew BK936.out)
 have n2_ := zA_ (below_drew1 HB.out)
 clear BK935 BK936 HB
 have BK935 := n0_
 have BK936 := n1_
 have HB := n2_
 clear n0_ n1_ n2_
 refine start_ (n := 10) (S := fun w' => w'.cell? ⟨gb935, 0, none⟩ = some (.slice A0_0 l0_0.length c0_0) ∧ w'.cell? ⟨gb935, 1, none⟩ = some (.slice A0_1 l0_1.length c0_1)) (ds := []) #[false, false, false, false, false, false, false, false, false, false] (by kernel_rfl) rfl rfl ⟨(blk_cell BK935.out 0).trans rfl, (blk_cell BK935.out 1).trans rfl⟩ (fun hHeld => ?_); refine with_tabW spec_l04Get.tab1 spec_l04Get.bits1 (fun HT_ HW_ => ?_)
 generalize w8.drew = w9 at BK935 BK936 HB hHeld ⊢
 refine take_ (i := 0) (N := some 6) (v := ?_) (a' := ?_) #[true, false, false, false, false, false, false, false, false, false] rfl rfl (take_ofW HT_.out HW_.out (by kernel_rfl)) (fun _ _ _ h => h) (Or.inl ⟨by rfl, ?_⟩) hHeld ?_ ?_
 rotate_left
 ·
  rintro w' ⟨s0, s1⟩
  go_simp
  with_reducible rfl
 rotate_left
 ·
  simp only [Act.put, List.setIfInBounds_toArray, List.set_cons_zero, List.set_cons_succ, i64_w, i32_w]
  rfl
 refine take_ (i := 3) (N := some 9) (v := ?_) (a' := ?_) #[true, false, false, true, false, false, false, false, false, false] rfl rfl (take_ofW HT_.out HW_.out (by kernel_rfl)) (fun _ _ _ h => h) (Or.inl ⟨by rfl, ?_⟩) hHeld ?_ ?_
 rotate_left
 ·
  rintro w' ⟨s0, s1⟩
  go_simp
  with_reducible rfl
 rotate_left
 ·
  simp only [Act.put, List.setIfInBounds_toArray, List.set_cons_zero, List.set_cons_succ, i64_w, i32_w]
  rfl
 refine join_ (σ := Nat × Nat) 2 #[true, true, true, true, true, true, true, true, false, false] (fun s_ => [(7, .string t937), (8, .agg #[.int .i64 t938, .string t939, .int .i64 t940]), (10, .string t941), (11, .agg #[.int .i64 t942, .string t943, .int .i64 t944]), (4, .pointer (some ⟨s_.1, 0, none⟩)), (5, .pointer (some ⟨s_.2, 0, none⟩))]) (fun s_ w' => (w'.cell? ⟨gb935, 0, none⟩ = some (.slice A0_0 l0_0.length c0_0) ∧ w'.cell? ⟨gb935, 1, none⟩ = some (.slice A0_1 l0_1.length c0_1)) ∧ (w'.heap[gb935]? = some (.cells #[.slice A0_0 l0_0.length c0_0, .slice A0_1 l0_1.length c0_1] 30 (0, 0))) ∧ (w'.heap[gb936]? = some (.cells #[.int .i64 0, .string (⟨#[]⟩ : ByteArray), .int .i64 0] 41 (0, 0))) ∧ (w'.heap[s_.1]? = some (.cells #[.int .i64 0, .string (⟨#[]⟩ : ByteArray), .int .i64 0] 41 (0, 0))) ∧ (w'.heap[s_.2]? = some (.cells #[.int .i64 0, .string (⟨#[]⟩ : ByteArray), .int .i64 0] 41 (0, 0))) ∧ (w.heap.size ≤ s_.1) ∧ (w.heap.size ≤ s_.1) ∧ (gb935 ≠ s_.1) ∧ (s_.1 ≠ gb935) ∧ (gb936 ≠ s_.1) ∧ (s_.1 ≠ gb936) ∧ (s_.2 ≠ s_.1) ∧ (s_.1 ≠ s_.2) ∧ (w.heap.size ≤ s_.2) ∧ (w.heap.size ≤ s_.2) ∧ (gb935 ≠ s_.2) ∧ (s_.2 ≠ gb935) ∧ (gb936 ≠ s_.2) ∧ (s_.2 ≠ gb936) ∧ (Below w.heap.size w w')) ?_ ?_
 rotate_left
 ·
  intro hJ1_2_4_5_6_7
  refine join_ (σ := Nat) 3 #[true, true, true, true, true, true, true, false, false, false] (fun s_ => [(7, .string t937), (8, .agg #[.int .i64 t938, .string t939, .int .i64 t940]), (10, .string t941), (11, .agg #[.int .i64 t942, .string t943, .int .i64 t944]), (4, .pointer (some ⟨s_, 0, none⟩))]) (fun s_ w' => (w'.cell? ⟨gb935, 0, none⟩ = some (.slice A0_0 l0_0.length c0_0) ∧ w'.cell? ⟨gb935, 1, none⟩ = some (.slice A0_1 l0_1.length c0_1)) ∧ (w'.heap[gb935]? = some (.cells #[.slice A0_0 l0_0.length c0_0, .slice A0_1 l0_1.length c0_1] 30 (0, 0))) ∧ (w'.heap[gb936]? = some (.cells #[.int .i64 0, .string (⟨#[]⟩ : ByteArray), .int .i64 0] 41 (0, 0))) ∧ (w'.heap[s_]? = some (.cells #[.int .i64 0, .string (⟨#[]⟩ : ByteArray), .int .i64 0] 41 (0, 0))) ∧ (w.heap.size ≤ s_) ∧ (w.heap.size ≤ s_) ∧ (gb935 ≠ s_) ∧ (s_ ≠ gb935) ∧ (gb936 ≠ s_) ∧ (s_ ≠ gb936) ∧ (Below w.heap.size w w')) ?_ ?_
  rotate_left
  ·
   intro hJ1_2_4_5_6
   refine join_ (σ := Nat) 3 #[true, true, true, true, true, true, false, true, false, false] (fun s_ => [(7, .string t937), (8, .agg #[.int .i64 t938, .string t939, .int .i64 t940]), (10, .string t941), (11, .agg #[.int .i64 t942, .string t943, .int .i64 t944]), (5, .pointer (some ⟨s_, 0, none⟩))]) (fun s_ w' => (w'.cell? ⟨gb935, 0, none⟩ = some (.slice A0_0 l0_0.length c0_0) ∧ w'.cell? ⟨gb935, 1, none⟩ = some (.slice A0_1 l0_1.length c0_1)) ∧ (w'.heap[gb935]? = some (.cells #[.slice A0_0 l0_0.length c0_0, .slice A0_1 l0_1.length c0_1] 30 (0, 0))) ∧ (w'.heap[gb936]? = some (.cells #[.int .i64 0, .string (⟨#[]⟩ : ByteArray), .int .i64 0] 41 (0, 0))) ∧ (w'.heap[s_]? = some (.cells #[.int .i64 0, .string (⟨#[]⟩ : ByteArray), .int .i64 0] 41 (0, 0))) ∧ (w.heap.size ≤ s_) ∧ (w.heap.size ≤ s_) ∧ (gb935 ≠ s_) ∧ (s_ ≠ gb935) ∧ (gb936 ≠ s_) ∧ (s_ ≠ gb936) ∧ (Below w.heap.size w w')) ?_ ?_
   rotate_left
   ·
    intro hJ1_2_4_5_7
    refine join_ (σ := Nat × Nat) 3 #[true, true, true, true, true, false, true, true, false, false] (fun s_ => [(7, .string t937), (8, .agg #[.int .i64 t938, .string t939, .int .i64 t940]), (10, .string t941), (4, .pointer (some ⟨s_.1, 0, none⟩)), (5, .pointer (some ⟨s_.2, 0, none⟩))]) (fun s_ w' => (w'.cell? ⟨gb935, 0, none⟩ = some (.slice A0_0 l0_0.length c0_0) ∧ w'.cell? ⟨gb935, 1, none⟩ = some (.slice A0_1 l0_1.length c0_1)) ∧ (w'.heap[gb935]? = some (.cells #[.slice A0_0 l0_0.length c0_0, .slice A0_1 l0_1.length c0_1] 30 (0, 0))) ∧ (w'.heap[gb936]? = some (.cells #[.int .i64 0, .string (⟨#[]⟩ : ByteArray), .int .i64 0] 41 (0, 0))) ∧ (w'.heap[s_.1]? = some (.cells #[.int .i64 0, .string (⟨#[]⟩ : ByteArray), .int .i64 0] 41 (0, 0))) ∧ (w'.heap[s_.2]? = some (.cells #[.int .i64 0, .string (⟨#[]⟩ : ByteArray), .int .i64 0] 41 (0, 0))) ∧ (w.heap.size ≤ s_.1) ∧ (w.heap.size ≤ s_.1) ∧ (gb935 ≠ s_.1) ∧ (s_.1 ≠ gb935) ∧ (gb936 ≠ s_.1) ∧ (s_.1 ≠ gb936) ∧ (s_.2 ≠ s_.1) ∧ (s_.1 ≠ s_.2) ∧ (w.heap.size ≤ s_.2) ∧ (w.heap.size ≤ s_.2) ∧ (gb935 ≠ s_.2) ∧ (s_.2 ≠ gb935) ∧ (gb936 ≠ s_.2) ∧ (s_.2 ≠ gb936) ∧ (Below w.heap.size w w')) ?_ ?_
    rotate_left
    ·
     intro hJ1_2_4_6_7
     refine join_ (σ := Unit) 4 #[true, true, true, true, true, true, false, false, false, false] (fun s_ => [(7, .string t937), (8, .agg #[.int .i64 t938, .string t939, .int .i64 t940]), (10, .string t941), (11, .agg #[.int .i64 t942, .string t943, .int .i64 t944])]) (fun s_ w' => (w'.cell? ⟨gb935, 0, none⟩ = some (.slice A0_0 l0_0.length c0_0) ∧ w'.cell? ⟨gb935, 1, none⟩ = some (.slice A0_1 l0_1.length c0_1)) ∧ (w'.heap[gb935]? = some (.cells #[.slice A0_0 l0_0.length c0_0, .slice A0_1 l0_1.length c0_1] 30 (0, 0))) ∧ (w'.heap[gb936]? = some (.cells #[.int .i64 0, .string (⟨#[]⟩ : ByteArray), .int .i64 0] 41 (0, 0))) ∧ (Below w.heap.size w w')) ?_ ?_
     rotate_left
     ·
      intro hJ1_2_4_5
      refine join_ (σ := Nat) 4 #[true, true, true, true, true, false, true, false, false, false] (fun s_ => [(7, .string t937), (8, .agg #[.int .i64 t938, .string t939, .int .i64 t940]), (10, .string t941), (4, .pointer (some ⟨s_, 0, none⟩))]) (fun s_ w' => (w'.cell? ⟨gb935, 0, none⟩ = some (.slice A0_0 l0_0.length c0_0) ∧ w'.cell? ⟨gb935, 1, none⟩ = some (.slice A0_1 l0_1.length c0_1)) ∧ (w'.heap[gb935]? = some (.cells #[.slice A0_0 l0_0.length c0_0, .slice A0_1 l0_1.length c0_1] 30 (0, 0))) ∧ (w'.heap[gb936]? = some (.cells #[.int .i64 0, .string (⟨#[]⟩ : ByteArray), .int .i64 0] 41 (0, 0))) ∧ (w'.heap[s_]? = some (.cells #[.int .i64 0, .string (⟨#[]⟩ : ByteArray), .int .i64 0] 41 (0, 0))) ∧ (w.heap.size ≤ s_) ∧ (w.heap.size ≤ s_) ∧ (gb935 ≠ s_) ∧ (s_ ≠ gb935) ∧ (gb936 ≠ s_) ∧ (s_ ≠ gb936) ∧ (Below w.heap.size w w')) ?_ ?_
      rotate_left
      ·
       intro hJ1_2_4_6
       refine join_ (σ := Nat) 4 #[true, true, true, true, true, false, false, true, false, false] (fun s_ => [(7, .string t937), (8, .agg #[.int .i64 t938, .string t939, .int .i64 t940]), (10, .string t941), (5, .pointer (some ⟨s_, 0, none⟩))]) (fun s_ w' => (w'.cell? ⟨gb935, 0, none⟩ = some (.slice A0_0 l0_0.length c0_0) ∧ w'.cell? ⟨gb935, 1, none⟩ = some (.slice A0_1 l0_1.length c0_1)) ∧ (w'.heap[gb935]? = some (.cells #[.slice A0_0 l0_0.length c0_0, .slice A0_1 l0_1.length c0_1] 30 (0, 0))) ∧ (w'.heap[gb936]? = some (.cells #[.int .i64 0, .string (⟨#[]⟩ : ByteArray), .int .i64 0] 41 (0, 0))) ∧ (w'.heap[s_]? = some (.cells #[.int .i64 0, .string (⟨#[]⟩ : ByteArray), .int .i64 0] 41 (0, 0))) ∧ (w.heap.size ≤ s_) ∧ (w.heap.size ≤ s_) ∧ (gb935 ≠ s_) ∧ (s_ ≠ gb935) ∧ (gb936 ≠ s_) ∧ (s_ ≠ gb936) ∧ (Below w.heap.size w w')) ?_ ?_
       rotate_left
       ·
        intro hJ1_2_4_7
        refine join_ (σ := Nat × Nat) 4 #[true, true, true, true, false, false, true, true, false, false] (fun s_ => [(7, .string t937), (8, .agg #[.int .i64 t938, .string t939, .int .i64 t940]), (4, .pointer (some ⟨s_.1, 0, none⟩)), (5, .pointer (some ⟨s_.2, 0, none⟩))]) (fun s_ w' => (w'.cell? ⟨gb935, 0, none⟩ = some (.slice A0_0 l0_0.length c0_0) ∧ w'.cell? ⟨gb935, 1, none⟩ = some (.slice A0_1 l0_1.length c0_1)) ∧ (w'.heap[gb935]? = some (.cells #[.slice A0_0 l0_0.length c0_0, .slice A0_1 l0_1.length c0_1] 30 (0, 0))) ∧ (w'.heap[gb936]? = some (.cells #[.int .i64 0, .string (⟨#[]⟩ : ByteArray), .int .i64 0] 41 (0, 0))) ∧ (w'.heap[s_.1]? = some (.cells #[.int .i64 0, .string (⟨#[]⟩ : ByteArray), .int .i64 0] 41 (0, 0))) ∧ (w'.heap[s_.2]? = some (.cells #[.int .i64 0, .string (⟨#[]⟩ : ByteArray), .int .i64 0] 41 (0, 0))) ∧ (w.heap.size ≤ s_.1) ∧ (w.heap.size ≤ s_.1) ∧ (gb935 ≠ s_.1) ∧ (s_.1 ≠ gb935) ∧ (gb936 ≠ s_.1) ∧ (s_.1 ≠ gb936) ∧ (s_.2 ≠ s_.1) ∧ (s_.1 ≠ s_.2) ∧ (w.heap.size ≤ s_.2) ∧ (w.heap.size ≤ s_.2) ∧ (gb935 ≠ s_.2) ∧ (s_.2 ≠ gb935) ∧ (gb936 ≠ s_.2) ∧ (s_.2 ≠ gb936) ∧ (Below w.heap.size w w')) ?_ ?_
        rotate_left
        ·
         intro hJ1_2_6_7
         refine join_ (σ := Unit) 5 #[true, true, true, true, true, false, false, false, false, false] (fun s_ => [(7, .string t937), (8, .agg #[.int .i64 t938, .string t939, .int .i64 t940]), (10, .string t941)]) (fun s_ w' => (w'.cell? ⟨gb935, 0, none⟩ = some (.slice A0_0 l0_0.length c0_0) ∧ w'.cell? ⟨gb935, 1, none⟩ = some (.slice A0_1 l0_1.length c0_1)) ∧ (w'.heap[gb935]? = some (.cells #[.slice A0_0 l0_0.length c0_0, .slice A0_1 l0_1.length c0_1] 30 (0, 0))) ∧ (w'.heap[gb936]? = some (.cells #[.int .i64 0, .string (⟨#[]⟩ : ByteArray), .int .i64 0] 41 (0, 0))) ∧ (Below w.heap.size w w')) ?_ ?_
         rotate_left
         ·
          intro hJ1_2_4
          refine join_ (σ := Nat) 5 #[true, true, true, true, false, false, true, false, false, false] (fun s_ => [(7, .string t937), (8, .agg #[.int .i64 t938, .string t939, .int .i64 t940]), (4, .pointer (some ⟨s_, 0, none⟩))]) (fun s_ w' => (w'.cell? ⟨gb935, 0, none⟩ = some (.slice A0_0 l0_0.length c0_0) ∧ w'.cell? ⟨gb935, 1, none⟩ = some (.slice A0_1 l0_1.length c0_1)) ∧ (w'.heap[gb935]? = some (.cells #[.slice A0_0 l0_0.length c0_0, .slice A0_1 l0_1.length c0_1] 30 (0, 0))) ∧ (w'.heap[gb936]? = some (.cells #[.int .i64 0, .string (⟨#[]⟩ : ByteArray), .int .i64 0] 41 (0, 0))) ∧ (w'.heap[s_]? = some (.cells #[.int .i64 0, .string (⟨#[]⟩ : ByteArray), .int .i64 0] 41 (0, 0))) ∧ (w.heap.size ≤ s_) ∧ (w.heap.size ≤ s_) ∧ (gb935 ≠ s_) ∧ (s_ ≠ gb935) ∧ (gb936 ≠ s_) ∧ (s_ ≠ gb936) ∧ (Below w.heap.size w w')) ?_ ?_
          rotate_left
          ·
           intro hJ1_2_6
           refine join_ (σ := Nat) 5 #[true, true, true, true, false, false, false, true, false, false] (fun s_ => [(7, .string t937), (8, .agg #[.int .i64 t938, .string t939, .int .i64 t940]), (5, .pointer (some ⟨s_, 0, none⟩))]) (fun s_ w' => (w'.cell? ⟨gb935, 0, none⟩ = some (.slice A0_0 l0_0.length c0_0) ∧ w'.cell? ⟨gb935, 1, none⟩ = some (.slice A0_1 l0_1.length c0_1)) ∧ (w'.heap[gb935]? = some (.cells #[.slice A0_0 l0_0.length c0_0, .slice A0_1 l0_1.length c0_1] 30 (0, 0))) ∧ (w'.heap[gb936]? = some (.cells #[.int .i64 0, .string (⟨#[]⟩ : ByteArray), .int .i64 0] 41 (0, 0))) ∧ (w'.heap[s_]? = some (.cells #[.int .i64 0, .string (⟨#[]⟩ : ByteArray), .int .i64 0] 41 (0, 0))) ∧ (w.heap.size ≤ s_) ∧ (w.heap.size ≤ s_) ∧ (gb935 ≠ s_) ∧ (s_ ≠ gb935) ∧ (gb936 ≠ s_) ∧ (s_ ≠ gb936) ∧ (Below w.heap.size w w')) ?_ ?_
           rotate_left
           ·
            intro hJ1_2_7
            refine join_ (σ := Nat × Nat) 5 #[true, true, false, true, false, false, true, true, false, false] (fun s_ => [(7, .string t937), (4, .pointer (some ⟨s_.1, 0, none⟩)), (5, .pointer (some ⟨s_.2, 0, none⟩))]) (fun s_ w' => (w'.cell? ⟨gb935, 0, none⟩ = some (.slice A0_0 l0_0.length c0_0) ∧ w'.cell? ⟨gb935, 1, none⟩ = some (.slice A0_1 l0_1.length c0_1)) ∧ (w'.heap[gb935]? = some (.cells #[.slice A0_0 l0_0.length c0_0, .slice A0_1 l0_1.length c0_1] 30 (0, 0))) ∧ (w'.heap[gb936]? = some (.cells #[.int .i64 0, .string (⟨#[]⟩ : ByteArray), .int .i64 0] 41 (0, 0))) ∧ (w'.heap[s_.1]? = some (.cells #[.int .i64 0, .string (⟨#[]⟩ : ByteArray), .int .i64 0] 41 (0, 0))) ∧ (w'.heap[s_.2]? = some (.cells #[.int .i64 0, .string (⟨#[]⟩ : ByteArray), .int .i64 0] 41 (0, 0))) ∧ (w.heap.size ≤ s_.1) ∧ (w.heap.size ≤ s_.1) ∧ (gb935 ≠ s_.1) ∧ (s_.1 ≠ gb935) ∧ (gb936 ≠ s_.1) ∧ (s_.1 ≠ gb936) ∧ (s_.2 ≠ s_.1) ∧ (s_.1 ≠ s_.2) ∧ (w.heap.size ≤ s_.2) ∧ (w.heap.size ≤ s_.2) ∧ (gb935 ≠ s_.2) ∧ (s_.2 ≠ gb935) ∧ (gb936 ≠ s_.2) ∧ (s_.2 ≠ gb936) ∧ (Below w.heap.size w w')) ?_ ?_
            rotate_left
            ·
             intro hJ1_6_7
             refine join_ (σ := Unit) 6 #[true, true, true, true, false, false, false, false, false, false] (fun s_ => [(7, .string t937), (8, .agg #[.int .i64 t938, .string t939, .int .i64 t940])]) (fun s_ w' => (w'.cell? ⟨gb935, 0, none⟩ = some (.slice A0_0 l0_0.length c0_0) ∧ w'.cell? ⟨gb935, 1, none⟩ = some (.slice A0_1 l0_1.length c0_1)) ∧ (w'.heap[gb935]? = some (.cells #[.slice A0_0 l0_0.length c0_0, .slice A0_1 l0_1.length c0_1] 30 (0, 0))) ∧ (w'.heap[gb936]? = some (.cells #[.int .i64 0, .string (⟨#[]⟩ : ByteArray), .int .i64 0] 41 (0, 0))) ∧ (Below w.heap.size w w')) ?_ ?_
             rotate_left
             ·
              intro hJ1_2
              refine join_ (σ := Nat) 6 #[true, true, false, true, false, false, true, false, false, false] (fun s_ => [(7, .string t937), (4, .pointer (some ⟨s_, 0, none⟩))]) (fun s_ w' => (w'.cell? ⟨gb935, 0, none⟩ = some (.slice A0_0 l0_0.length c0_0) ∧ w'.cell? ⟨gb935, 1, none⟩ = some (.slice A0_1 l0_1.length c0_1)) ∧ (w'.heap[gb935]? = some (.cells #[.slice A0_0 l0_0.length c0_0, .slice A0_1 l0_1.length c0_1] 30 (0, 0))) ∧ (w'.heap[gb936]? = some (.cells #[.int .i64 0, .string (⟨#[]⟩ : ByteArray), .int .i64 0] 41 (0, 0))) ∧ (w'.heap[s_]? = some (.cells #[.int .i64 0, .string (⟨#[]⟩ : ByteArray), .int .i64 0] 41 (0, 0))) ∧ (w.heap.size ≤ s_) ∧ (w.heap.size ≤ s_) ∧ (gb935 ≠ s_) ∧ (s_ ≠ gb935) ∧ (gb936 ≠ s_) ∧ (s_ ≠ gb936) ∧ (Below w.heap.size w w')) ?_ ?_
              rotate_left
              ·
               intro hJ1_6
               refine join_ (σ := Nat) 6 #[true, true, false, true, false, false, false, true, false, false] (fun s_ => [(7, .string t937), (5, .pointer (some ⟨s_, 0, none⟩))]) (fun s_ w' => (w'.cell? ⟨gb935, 0, none⟩ = some (.slice A0_0 l0_0.length c0_0) ∧ w'.cell? ⟨gb935, 1, none⟩ = some (.slice A0_1 l0_1.length c0_1)) ∧ (w'.heap[gb935]? = some (.cells #[.slice A0_0 l0_0.length c0_0, .slice A0_1 l0_1.length c0_1] 30 (0, 0))) ∧ (w'.heap[gb936]? = some (.cells #[.int .i64 0, .string (⟨#[]⟩ : ByteArray), .int .i64 0] 41 (0, 0))) ∧ (w'.heap[s_]? = some (.cells #[.int .i64 0, .string (⟨#[]⟩ : ByteArray), .int .i64 0] 41 (0, 0))) ∧ (w.heap.size ≤ s_) ∧ (w.heap.size ≤ s_) ∧ (gb935 ≠ s_) ∧ (s_ ≠ gb935) ∧ (gb936 ≠ s_) ∧ (s_ ≠ gb936) ∧ (Below w.heap.size w w')) ?_ ?_
               rotate_left
               ·
                intro hJ1_7
                refine join_ (σ := Nat × Nat) 6 #[true, false, false, true, false, false, true, true, false, false] (fun s_ => [(4, .pointer (some ⟨s_.1, 0, none⟩)), (5, .pointer (some ⟨s_.2, 0, none⟩))]) (fun s_ w' => (w'.cell? ⟨gb935, 0, none⟩ = some (.slice A0_0 l0_0.length c0_0) ∧ w'.cell? ⟨gb935, 1, none⟩ = some (.slice A0_1 l0_1.length c0_1)) ∧ (w'.heap[gb935]? = some (.cells #[.slice A0_0 l0_0.length c0_0, .slice A0_1 l0_1.length c0_1] 30 (0, 0))) ∧ (w'.heap[gb936]? = some (.cells #[.int .i64 0, .string (⟨#[]⟩ : ByteArray), .int .i64 0] 41 (0, 0))) ∧ (w'.heap[s_.1]? = some (.cells #[.int .i64 0, .string (⟨#[]⟩ : ByteArray), .int .i64 0] 41 (0, 0))) ∧ (w'.heap[s_.2]? = some (.cells #[.int .i64 0, .string (⟨#[]⟩ : ByteArray), .int .i64 0] 41 (0, 0))) ∧ (w.heap.size ≤ s_.1) ∧ (w.heap.size ≤ s_.1) ∧ (gb935 ≠ s_.1) ∧ (s_.1 ≠ gb935) ∧ (gb936 ≠ s_.1) ∧ (s_.1 ≠ gb936) ∧ (s_.2 ≠ s_.1) ∧ (s_.1 ≠ s_.2) ∧ (w.heap.size ≤ s_.2) ∧ (w.heap.size ≤ s_.2) ∧ (gb935 ≠ s_.2) ∧ (s_.2 ≠ gb935) ∧ (gb936 ≠ s_.2) ∧ (s_.2 ≠ gb936) ∧ (Below w.heap.size w w')) ?_ ?_
                rotate_left
                ·
                 intro hJ6_7
                 refine join_ (σ := Unit) 7 #[true, true, false, true, false, false, false, false, false, false] (fun s_ => [(7, .string t937)]) (fun s_ w' => (w'.cell? ⟨gb935, 0, none⟩ = some (.slice A0_0 l0_0.length c0_0) ∧ w'.cell? ⟨gb935, 1, none⟩ = some (.slice A0_1 l0_1.length c0_1)) ∧ (w'.heap[gb935]? = some (.cells #[.slice A0_0 l0_0.length c0_0, .slice A0_1 l0_1.length c0_1] 30 (0, 0))) ∧ (w'.heap[gb936]? = some (.cells #[.int .i64 0, .string (⟨#[]⟩ : ByteArray), .int .i64 0] 41 (0, 0))) ∧ (Below w.heap.size w w')) ?_ ?_
                 rotate_left
                 ·
                  intro hJ1
                  refine join_ (σ := Nat) 7 #[true, false, false, true, false, false, true, false, false, false] (fun s_ => [(4, .pointer (some ⟨s_, 0, none⟩))]) (fun s_ w' => (w'.cell? ⟨gb935, 0, none⟩ = some (.slice A0_0 l0_0.length c0_0) ∧ w'.cell? ⟨gb935, 1, none⟩ = some (.slice A0_1 l0_1.length c0_1)) ∧ (w'.heap[gb935]? = some (.cells #[.slice A0_0 l0_0.length c0_0, .slice A0_1 l0_1.length c0_1] 30 (0, 0))) ∧ (w'.heap[gb936]? = some (.cells #[.int .i64 0, .string (⟨#[]⟩ : ByteArray), .int .i64 0] 41 (0, 0))) ∧ (w'.heap[s_]? = some (.cells #[.int .i64 0, .string (⟨#[]⟩ : ByteArray), .int .i64 0] 41 (0, 0))) ∧ (w.heap.size ≤ s_) ∧ (w.heap.size ≤ s_) ∧ (gb935 ≠ s_) ∧ (s_ ≠ gb935) ∧ (gb936 ≠ s_) ∧ (s_ ≠ gb936) ∧ (Below w.heap.size w w')) ?_ ?_
                  rotate_left
                  ·
                   intro hJ6
                   refine join_ (σ := Nat) 7 #[true, false, false, true, false, false, false, true, false, false] (fun s_ => [(5, .pointer (some ⟨s_, 0, none⟩))]) (fun s_ w' => (w'.cell? ⟨gb935, 0, none⟩ = some (.slice A0_0 l0_0.length c0_0) ∧ w'.cell? ⟨gb935, 1, none⟩ = some (.slice A0_1 l0_1.length c0_1)) ∧ (w'.heap[gb935]? = some (.cells #[.slice A0_0 l0_0.length c0_0, .slice A0_1 l0_1.length c0_1] 30 (0, 0))) ∧ (w'.heap[gb936]? = some (.cells #[.int .i64 0, .string (⟨#[]⟩ : ByteArray), .int .i64 0] 41 (0, 0))) ∧ (w'.heap[s_]? = some (.cells #[.int .i64 0, .string (⟨#[]⟩ : ByteArray), .int .i64 0] 41 (0, 0))) ∧ (w.heap.size ≤ s_) ∧ (w.heap.size ≤ s_) ∧ (gb935 ≠ s_) ∧ (s_ ≠ gb935) ∧ (gb936 ≠ s_) ∧ (s_ ≠ gb936) ∧ (Below w.heap.size w w')) ?_ ?_
                   rotate_left
                   ·
                    intro hJ7
                    refine three_ (i := 1) (j := 6) (k := 7) (Ni := some 7) (Nj := some 4) (Nk := some 5) #[true, true, false, true, false, false, false, false, false, false] #[true, false, false, true, false, false, true, false, false, false] #[true, false, false, true, false, false, false, true, false, false] rfl rfl rfl rfl rfl rfl (three_of HT_.out (by kernel_rfl)) (by decide) (by decide) (by decide) (fun K hK => ?_) (fun K hK => ?_) (fun K hK => ?_)
                    ·
                     skip
                     refine goes_ Try.func88 (by kernel_rfl) rfl #[.agg #[.slice A0_0 l0_0.length c0_0, .slice A0_1 l0_1.length c0_1], .int .i64 0] (by rfl) rfl rfl zs_ ?_
                     with_reducible refine (spec_l03Get.calls k _ _ l0_0 _ _ l0_1 0 t937 _ ?side1 ?side2 ?side3 ?side4 A2.out).mono ?_
                     (case side1 => exact zc_ (Kd.C_below HR0_0.out HB.out))
                     (case side2 => exact HC0_0.out)
                     (case side3 => exact zc_ (Kd.C_below HR0_1.out HB.out))
                     (case side4 => exact HC0_1.out)
                     rintro e w10 ⟨rfl, hb⟩
                     refine ⟨_, rfl, ?_⟩
                     have n0_ := zA_ (blk_below (g := gb935) (o := .cells #[.slice A0_0 l0_0.length c0_0, .slice A0_1 l0_1.length c0_1] 30 (0, 0)) (zb_ BK935.out) hb)
                     have n1_ := zA_ (blk_below (g := gb936) (o := .cells #[.int .i64 0, .string (⟨#[]⟩ : ByteArray), .int .i64 0] 41 (0, 0)) (zb_ BK936.out) hb)
                     have n2_ := zA_ (below_step (zg2_ HB.out GE935.out GE936.out) hb)
                     clear BK935 BK936 HB
                     have BK935 := n0_
                     have BK936 := n1_
                     have HB := n2_
                     clear n0_ n1_ n2_
                     (try clear hb)
                     (try clear hb2)
                     (try clear hk)
                     (try clear hi)
                     refine hK.out _ _ ⟨(blk_cell BK935.out 0).trans rfl, (blk_cell BK935.out 1).trans rfl⟩ (fun hHeld => ?_)
                     clear hK K
                     refine norm_ (a' := ?_) ?_ ?_
                     rotate_left
                     ·
                      show Act.put _ (some 7) _ = _
                      simp only [Act.put, List.setIfInBounds_toArray, List.set_cons_zero, List.set_cons_succ, i64_w, i32_w]
                      rfl
                     exact norm_ (by first | (simp only [putAll, Act.put, List.setIfInBounds_toArray, List.set_cons_zero, List.set_cons_succ]; done) | (simp only [putAll, Act.put, List.setIfInBounds_toArray, List.set_cons_zero, List.set_cons_succ]; rfl)) (hJ1 () _ ⟨hHeld, (zb_ BK935.out), (zb_ BK936.out), (zg2_ HB.out GE935.out GE936.out)⟩)
                    ·
                     skip
                     refine box_step ?hg (N := 4) ?hd (cs := #[.int .i64 0, .string (⟨#[]⟩ : ByteArray), .int .i64 0]) (t := 41) ?hr ?_; (case hd => rfl); (case hg => rfl); (case hr => first | (go_simp; done) | (go_simp; rfl))
                     intro gb945 hg w10 hbox hb
                     have n0_ := zA_ (blk_below (g := gb935) (o := .cells #[.slice A0_0 l0_0.length c0_0, .slice A0_1 l0_1.length c0_1] 30 (0, 0)) (zb_ BK935.out) hb)
                     have n1_ := zA_ (blk_below (g := gb936) (o := .cells #[.int .i64 0, .string (⟨#[]⟩ : ByteArray), .int .i64 0] 41 (0, 0)) (zb_ BK936.out) hb)
                     have n2_ := zA_ (below_step (zg2_ HB.out GE935.out GE936.out) hb)
                     have n3_ := zA_ (hbox)
                     have n4_ := zA_ ((by rw [hg]; exact (below_size (zg2_ HB.out GE935.out GE936.out)) : w.heap.size ≤ gb945))
                     have n5_ := zA_ ((by rw [hg]; exact (below_size (zg2_ HB.out GE935.out GE936.out)) : w.heap.size ≤ gb945))
                     have n6_ := zA_ ((by rw [hg]; exact Nat.ne_of_lt (blk_lt (g := gb935) (o := .cells #[.slice A0_0 l0_0.length c0_0, .slice A0_1 l0_1.length c0_1] 30 (0, 0)) (zb_ BK935.out)) : gb935 ≠ gb945))
                     have n7_ := zA_ ((by rw [hg]; exact Nat.ne_of_gt (blk_lt (g := gb935) (o := .cells #[.slice A0_0 l0_0.length c0_0, .slice A0_1 l0_1.length c0_1] 30 (0, 0)) (zb_ BK935.out)) : gb945 ≠ gb935))
                     have n8_ := zA_ ((by rw [hg]; exact Nat.ne_of_lt (blk_lt (g := gb936) (o := .cells #[.int .i64 0, .string (⟨#[]⟩ : ByteArray), .int .i64 0] 41 (0, 0)) (zb_ BK936.out)) : gb936 ≠ gb945))
                     have n9_ := zA_ ((by rw [hg]; exact Nat.ne_of_gt (blk_lt (g := gb936) (o := .cells #[.int .i64 0, .string (⟨#[]⟩ : ByteArray), .int .i64 0] 41 (0, 0)) (zb_ BK936.out)) : gb945 ≠ gb936))
                     clear BK935 BK936 HB
                     have BK935 := n0_
                     have BK936 := n1_
                     have HB := n2_
                     have BK945 := n3_
                     have GW945 := n4_
                     have GE945 := n5_
                     have NB935_945 := n6_
                     have NB945_935 := n7_
                     have NB936_945 := n8_
                     have NB945_936 := n9_
                     clear n0_ n1_ n2_ n3_ n4_ n5_ n6_ n7_ n8_ n9_
                     clear hb hbox hg
                     refine hK.out _ _ ⟨(blk_cell BK935.out 0).trans rfl, (blk_cell BK935.out 1).trans rfl⟩ (fun hHeld => ?_)
                     clear hK K
                     refine norm_ (a' := ?_) ?_ ?_
                     rotate_left
                     ·
                      show Act.put _ (some 4) _ = _
                      simp only [Act.put, List.setIfInBounds_toArray, List.set_cons_zero, List.set_cons_succ, i64_w, i32_w]
                      rfl
                     exact norm_ (by first | (simp only [putAll, Act.put, List.setIfInBounds_toArray, List.set_cons_zero, List.set_cons_succ]; done) | (simp only [putAll, Act.put, List.setIfInBounds_toArray, List.set_cons_zero, List.set_cons_succ]; rfl)) (hJ6 (gb945) _ ⟨hHeld, (zb_ BK935.out), (zb_ BK936.out), (zb_ BK945.out), GW945.out, GE945.out, NB935_945.out, NB945_935.out, NB936_945.out, NB945_936.out, (zg3_ HB.out GE935.out GE936.out GE945.out)⟩)
                    ·
                     skip
                     refine box_step ?hg (N := 5) ?hd (cs := #[.int .i64 0, .string (⟨#[]⟩ : ByteArray), .int .i64 0]) (t := 41) ?hr ?_; (case hd => rfl); (case hg => rfl); (case hr => first | (go_simp; done) | (go_simp; rfl))
                     intro gb946 hg w10 hbox hb
                     have n0_ := zA_ (blk_below (g := gb935) (o := .cells #[.slice A0_0 l0_0.length c0_0, .slice A0_1 l0_1.length c0_1] 30 (0, 0)) (zb_ BK935.out) hb)
                     have n1_ := zA_ (blk_below (g := gb936) (o := .cells #[.int .i64 0, .string (⟨#[]⟩ : ByteArray), .int .i64 0] 41 (0, 0)) (zb_ BK936.out) hb)
                     have n2_ := zA_ (below_step (zg2_ HB.out GE935.out GE936.out) hb)
                     have n3_ := zA_ (hbox)
                     have n4_ := zA_ ((by rw [hg]; exact (below_size (zg2_ HB.out GE935.out GE936.out)) : w.heap.size ≤ gb946))
                     have n5_ := zA_ ((by rw [hg]; exact (below_size (zg2_ HB.out GE935.out GE936.out)) : w.heap.size ≤ gb946))
                     have n6_ := zA_ ((by rw [hg]; exact Nat.ne_of_lt (blk_lt (g := gb935) (o := .cells #[.slice A0_0 l0_0.length c0_0, .slice A0_1 l0_1.length c0_1] 30 (0, 0)) (zb_ BK935.out)) : gb935 ≠ gb946))
                     have n7_ := zA_ ((by rw [hg]; exact Nat.ne_of_gt (blk_lt (g := gb935) (o := .cells #[.slice A0_0 l0_0.length c0_0, .slice A0_1 l0_1.length c0_1] 30 (0, 0)) (zb_ BK935.out)) : gb946 ≠ gb935))
                     have n8_ := zA_ ((by rw [hg]; exact Nat.ne_of_lt (blk_lt (g := gb936) (o := .cells #[.int .i64 0, .string (⟨#[]⟩ : ByteArray), .int .i64 0] 41 (0, 0)) (zb_ BK936.out)) : gb936 ≠ gb946))
                     have n9_ := zA_ ((by rw [hg]; exact Nat.ne_of_gt (blk_lt (g := gb936) (o := .cells #[.int .i64 0, .string (⟨#[]⟩ : ByteArray), .int .i64 0] 41 (0, 0)) (zb_ BK936.out)) : gb946 ≠ gb936))
                     clear BK935 BK936 HB
                     have BK935 := n0_
                     have BK936 := n1_
                     have HB := n2_
                     have BK946 := n3_
                     have GW946 := n4_
                     have GE946 := n5_
                     have NB935_946 := n6_
                     have NB946_935 := n7_
                     have NB936_946 := n8_
                     have NB946_936 := n9_
                     clear n0_ n1_ n2_ n3_ n4_ n5_ n6_ n7_ n8_ n9_
                     clear hb hbox hg
                     refine hK.out _ _ ⟨(blk_cell BK935.out 0).trans rfl, (blk_cell BK935.out 1).trans rfl⟩ (fun hHeld => ?_)
                     clear hK K
                     refine norm_ (a' := ?_) ?_ ?_
                     rotate_left
                     ·
                      show Act.put _ (some 5) _ = _
                      simp only [Act.put, List.setIfInBounds_toArray, List.set_cons_zero, List.set_cons_succ, i64_w, i32_w]
                      rfl
                     exact norm_ (by first | (simp only [putAll, Act.put, List.setIfInBounds_toArray, List.set_cons_zero, List.set_cons_succ]; done) | (simp only [putAll, Act.put, List.setIfInBounds_toArray, List.set_cons_zero, List.set_cons_succ]; rfl)) (hJ7 (gb946) _ ⟨hHeld, (zb_ BK935.out), (zb_ BK936.out), (zb_ BK946.out), GW946.out, GE946.out, NB935_946.out, NB946_935.out, NB936_946.out, NB946_936.out, (zg3_ HB.out GE935.out GE936.out GE946.out)⟩)
                   ·
                    skip
                    rintro gb946 w11 ⟨hS_, h0_, h1_, h2_, h3_, h4_, h5_, h6_, h7_, h8_, h9_⟩
                    have n0_ : Aside0 (w11.heap[gb935]? = some (.cells #[.slice A0_0 l0_0.length c0_0, .slice A0_1 l0_1.length c0_1] 30 (0, 0))) := ⟨h0_⟩
                    have n1_ : Aside0 (w11.heap[gb936]? = some (.cells #[.int .i64 0, .string (⟨#[]⟩ : ByteArray), .int .i64 0] 41 (0, 0))) := ⟨h1_⟩
                    have n2_ : Aside0 (w11.heap[gb946]? = some (.cells #[.int .i64 0, .string (⟨#[]⟩ : ByteArray), .int .i64 0] 41 (0, 0))) := ⟨h2_⟩
                    have n3_ : Aside0 (w.heap.size ≤ gb946) := ⟨h3_⟩
                    have n4_ : Aside0 (w.heap.size ≤ gb946) := ⟨h4_⟩
                    have n5_ : Aside0 (gb935 ≠ gb946) := ⟨h5_⟩
                    have n6_ : Aside0 (gb946 ≠ gb935) := ⟨h6_⟩
                    have n7_ : Aside0 (gb936 ≠ gb946) := ⟨h7_⟩
                    have n8_ : Aside0 (gb946 ≠ gb936) := ⟨h8_⟩
                    have n9_ : Aside0 (Below w.heap.size w w11) := ⟨h9_⟩
                    clear BK935 BK936 HB
                    clear h0_ h1_ h2_ h3_ h4_ h5_ h6_ h7_ h8_ h9_
                    have BK935 := n0_
                    have BK936 := n1_
                    have BK946 := n2_
                    have GW946 := n3_
                    have GE946 := n4_
                    have NB935_946 := n5_
                    have NB946_935 := n6_
                    have NB936_946 := n7_
                    have NB946_936 := n8_
                    have HB := n9_
                    clear n0_ n1_ n2_ n3_ n4_ n5_ n6_ n7_ n8_ n9_
                    have hHeld : w11.cell? ⟨gb935, 0, none⟩ = some (.slice A0_0 l0_0.length c0_0) ∧ w11.cell? ⟨gb935, 1, none⟩ = some (.slice A0_1 l0_1.length c0_1) := hS_
                    refine norm_ (a' := ?_) ?_ ?_
                    rotate_left
                    ·
                     simp only [putAll, Act.put, List.setIfInBounds_toArray, List.set_cons_zero, List.set_cons_succ]
                     rfl
                    refine two_ (i := 1) (j := 6) (Ni := some 7) (Nj := some 4) #[true, true, false, true, false, false, false, true, false, false] #[true, false, false, true, false, false, true, true, false, false] rfl rfl rfl rfl (two_of HT_.out (by kernel_rfl)) (by decide) (by decide) (fun K hK => ?_) (fun K hK => ?_)
                    ·
                     skip
                     refine goes_ Try.func88 (by kernel_rfl) rfl #[.agg #[.slice A0_0 l0_0.length c0_0, .slice A0_1 l0_1.length c0_1], .int .i64 0] (by rfl) rfl rfl zs_ ?_
                     with_reducible refine (spec_l03Get.calls k _ _ l0_0 _ _ l0_1 0 t937 _ ?side1 ?side2 ?side3 ?side4 A2.out).mono ?_
                     (case side1 => exact zc_ (Kd.C_below HR0_0.out HB.out))
                     (case side2 => exact HC0_0.out)
                     (case side3 => exact zc_ (Kd.C_below HR0_1.out HB.out))
                     (case side4 => exact HC0_1.out)
                     rintro e w12 ⟨rfl, hb⟩
                     refine ⟨_, rfl, ?_⟩
                     have n0_ := zA_ (blk_below (g := gb935) (o := .cells #[.slice A0_0 l0_0.length c0_0, .slice A0_1 l0_1.length c0_1] 30 (0, 0)) (zb_ BK935.out) hb)
                     have n1_ := zA_ (blk_below (g := gb936) (o := .cells #[.int .i64 0, .string (⟨#[]⟩ : ByteArray), .int .i64 0] 41 (0, 0)) (zb_ BK936.out) hb)
                     have n2_ := zA_ (blk_below (g := gb946) (o := .cells #[.int .i64 0, .string (⟨#[]⟩ : ByteArray), .int .i64 0] 41 (0, 0)) (zb_ BK946.out) hb)
                     have n3_ := zA_ (below_step (zg3_ HB.out GE935.out GE936.out GE946.out) hb)
                     clear BK935 BK936 BK946 HB
                     have BK935 := n0_
                     have BK936 := n1_
                     have BK946 := n2_
                     have HB := n3_
                     clear n0_ n1_ n2_ n3_
                     (try clear hb)
                     (try clear hb2)
                     (try clear hk)
                     (try clear hi)
                     refine hK.out _ _ ⟨(blk_cell BK935.out 0).trans rfl, (blk_cell BK935.out 1).trans rfl⟩ (fun hHeld => ?_)
                     clear hK K
                     refine norm_ (a' := ?_) ?_ ?_
                     rotate_left
                     ·
                      show Act.put _ (some 7) _ = _
                      simp only [Act.put, List.setIfInBounds_toArray, List.set_cons_zero, List.set_cons_succ, i64_w, i32_w]
                      rfl
                     exact norm_ (by first | (simp only [putAll, Act.put, List.setIfInBounds_toArray, List.set_cons_zero, List.set_cons_succ]; done) | (simp only [putAll, Act.put, List.setIfInBounds_toArray, List.set_cons_zero, List.set_cons_succ]; rfl)) (hJ1_7 (gb946) _ ⟨hHeld, (zb_ BK935.out), (zb_ BK936.out), (zb_ BK946.out), GW946.out, GE946.out, NB935_946.out, NB946_935.out, NB936_946.out, NB946_936.out, (zg3_ HB.out GE935.out GE936.out GE946.out)⟩)
                    ·
                     skip
                     refine box_step ?hg (N := 4) ?hd (cs := #[.int .i64 0, .string (⟨#[]⟩ : ByteArray), .int .i64 0]) (t := 41) ?hr ?_; (case hd => rfl); (case hg => rfl); (case hr => first | (go_simp; done) | (go_simp; rfl))
                     intro gb945 hg w12 hbox hb
                     have n0_ := zA_ (blk_below (g := gb935) (o := .cells #[.slice A0_0 l0_0.length c0_0, .slice A0_1 l0_1.length c0_1] 30 (0, 0)) (zb_ BK935.out) hb)
                     have n1_ := zA_ (blk_below (g := gb936) (o := .cells #[.int .i64 0, .string (⟨#[]⟩ : ByteArray), .int .i64 0] 41 (0, 0)) (zb_ BK936.out) hb)
                     have n2_ := zA_ (blk_below (g := gb946) (o := .cells #[.int .i64 0, .string (⟨#[]⟩ : ByteArray), .int .i64 0] 41 (0, 0)) (zb_ BK946.out) hb)
                     have n3_ := zA_ (below_step (zg3_ HB.out GE935.out GE936.out GE946.out) hb)
                     have n4_ := zA_ (hbox)
                     have n5_ := zA_ ((by rw [hg]; exact (below_size (zg3_ HB.out GE935.out GE936.out GE946.out)) : w.heap.size ≤ gb945))
                     have n6_ := zA_ ((by rw [hg]; exact (below_size (zg3_ HB.out GE935.out GE936.out GE946.out)) : w.heap.size ≤ gb945))
                     have n7_ := zA_ ((by rw [hg]; exact Nat.ne_of_lt (blk_lt (g := gb935) (o := .cells #[.slice A0_0 l0_0.length c0_0, .slice A0_1 l0_1.length c0_1] 30 (0, 0)) (zb_ BK935.out)) : gb935 ≠ gb945))
                     have n8_ := zA_ ((by rw [hg]; exact Nat.ne_of_gt (blk_lt (g := gb935) (o := .cells #[.slice A0_0 l0_0.length c0_0, .slice A0_1 l0_1.length c0_1] 30 (0, 0)) (zb_ BK935.out)) : gb945 ≠ gb935))
                     have n9_ := zA_ ((by rw [hg]; exact Nat.ne_of_lt (blk_lt (g := gb936) (o := .cells #[.int .i64 0, .string (⟨#[]⟩ : ByteArray), .int .i64 0] 41 (0, 0)) (zb_ BK936.out)) : gb936 ≠ gb945))
                     have n10_ := zA_ ((by rw [hg]; exact Nat.ne_of_gt (blk_lt (g := gb936) (o := .cells #[.int .i64 0, .string (⟨#[]⟩ : ByteArray), .int .i64 0] 41 (0, 0)) (zb_ BK936.out)) : gb945 ≠ gb936))
                     have n11_ := zA_ ((by rw [hg]; exact Nat.ne_of_lt (blk_lt (g := gb946) (o := .cells #[.int .i64 0, .string (⟨#[]⟩ : ByteArray), .int .i64 0] 41 (0, 0)) (zb_ BK946.out)) : gb946 ≠ gb945))
                     have n12_ := zA_ ((by rw [hg]; exact Nat.ne_of_gt (blk_lt (g := gb946) (o := .cells #[.int .i64 0, .string (⟨#[]⟩ : ByteArray), .int .i64 0] 41 (0, 0)) (zb_ BK946.out)) : gb945 ≠ gb946))
                     clear BK935 BK936 BK946 HB
                     have BK935 := n0_
                     have BK936 := n1_
                     have BK946 := n2_
                     have HB := n3_
                     have BK945 := n4_
                     have GW945 := n5_
                     have GE945 := n6_
                     have NB935_945 := n7_
                     have NB945_935 := n8_
                     have NB936_945 := n9_
                     have NB945_936 := n10_
                     have NB946_945 := n11_
                     have NB945_946 := n12_
                     clear n0_ n1_ n2_ n3_ n4_ n5_ n6_ n7_ n8_ n9_ n10_ n11_ n12_
                     clear hb hbox hg
                     refine hK.out _ _ ⟨(blk_cell BK935.out 0).trans rfl, (blk_cell BK935.out 1).trans rfl⟩ (fun hHeld => ?_)
                     clear hK K
                     refine norm_ (a' := ?_) ?_ ?_
                     rotate_left
                     ·
                      show Act.put _ (some 4) _ = _
                      simp only [Act.put, List.setIfInBounds_toArray, List.set_cons_zero, List.set_cons_succ, i64_w, i32_w]
                      rfl
                     exact norm_ (by first | (simp only [putAll, Act.put, List.setIfInBounds_toArray, List.set_cons_zero, List.set_cons_succ]; done) | (simp only [putAll, Act.put, List.setIfInBounds_toArray, List.set_cons_zero, List.set_cons_succ]; rfl)) (hJ6_7 (gb945, gb946) _ ⟨hHeld, (zb_ BK935.out), (zb_ BK936.out), (zb_ BK945.out), (zb_ BK946.out), GW945.out, GE945.out, NB935_945.out, NB945_935.out, NB936_945.out, NB945_936.out, NB946_945.out, NB945_946.out, GW946.out, GE946.out, NB935_946.out, NB946_935.out, NB936_946.out, NB946_936.out, (zg4_ HB.out GE935.out GE936.out GE946.out GE945.out)⟩)
                  ·
                   skip
                   rintro gb945 w11 ⟨hS_, h0_, h1_, h2_, h3_, h4_, h5_, h6_, h7_, h8_, h9_⟩
                   have n0_ : Aside0 (w11.heap[gb935]? = some (.cells #[.slice A0_0 l0_0.length c0_0, .slice A0_1 l0_1.length c0_1] 30 (0, 0))) := ⟨h0_⟩
                   have n1_ : Aside0 (w11.heap[gb936]? = some (.cells #[.int .i64 0, .string (⟨#[]⟩ : ByteArray), .int .i64 0] 41 (0, 0))) := ⟨h1_⟩
                   have n2_ : Aside0 (w11.heap[gb945]? = some (.cells #[.int .i64 0, .string (⟨#[]⟩ : ByteArray), .int .i64 0] 41 (0, 0))) := ⟨h2_⟩
                   have n3_ : Aside0 (w.heap.size ≤ gb945) := ⟨h3_⟩
                   have n4_ : Aside0 (w.heap.size ≤ gb945) := ⟨h4_⟩
                   have n5_ : Aside0 (gb935 ≠ gb945) := ⟨h5_⟩
                   have n6_ : Aside0 (gb945 ≠ gb935) := ⟨h6_⟩
                   have n7_ : Aside0 (gb936 ≠ gb945) := ⟨h7_⟩
                   have n8_ : Aside0 (gb945 ≠ gb936) := ⟨h8_⟩
                   have n9_ : Aside0 (Below w.heap.size w w11) := ⟨h9_⟩
                   clear BK935 BK936 HB
                   clear h0_ h1_ h2_ h3_ h4_ h5_ h6_ h7_ h8_ h9_
                   have BK935 := n0_
                   have BK936 := n1_
                   have BK945 := n2_
                   have GW945 := n3_
                   have GE945 := n4_
                   have NB935_945 := n5_
                   have NB945_935 := n6_
                   have NB936_945 := n7_
                   have NB945_936 := n8_
                   have HB := n9_
                   clear n0_ n1_ n2_ n3_ n4_ n5_ n6_ n7_ n8_ n9_
                   have hHeld : w11.cell? ⟨gb935, 0, none⟩ = some (.slice A0_0 l0_0.length c0_0) ∧ w11.cell? ⟨gb935, 1, none⟩ = some (.slice A0_1 l0_1.length c0_1) := hS_
                   refine norm_ (a' := ?_) ?_ ?_
                   rotate_left
                   ·
                    simp only [putAll, Act.put, List.setIfInBounds_toArray, List.set_cons_zero, List.set_cons_succ]
                    rfl
                   refine two_ (i := 1) (j := 7) (Ni := some 7) (Nj := some 5) #[true, true, false, true, false, false, true, false, false, false] #[true, false, false, true, false, false, true, true, false, false] rfl rfl rfl rfl (two_of HT_.out (by kernel_rfl)) (by decide) (by decide) (fun K hK => ?_) (fun K hK => ?_)
                   ·
                    skip
                    refine goes_ Try.func88 (by kernel_rfl) rfl #[.agg #[.slice A0_0 l0_0.length c0_0, .slice A0_1 l0_1.length c0_1], .int .i64 0] (by rfl) rfl rfl zs_ ?_
                    with_reducible refine (spec_l03Get.calls k _ _ l0_0 _ _ l0_1 0 t937 _ ?side1 ?side2 ?side3 ?side4 A2.out).mono ?_
                    (case side1 => exact zc_ (Kd.C_below HR0_0.out HB.out))
                    (case side2 => exact HC0_0.out)
                    (case side3 => exact zc_ (Kd.C_below HR0_1.out HB.out))
                    (case side4 => exact HC0_1.out)
                    rintro e w12 ⟨rfl, hb⟩
                    refine ⟨_, rfl, ?_⟩
                    have n0_ := zA_ (blk_below (g := gb935) (o := .cells #[.slice A0_0 l0_0.length c0_0, .slice A0_1 l0_1.length c0_1] 30 (0, 0)) (zb_ BK935.out) hb)
                    have n1_ := zA_ (blk_below (g := gb936) (o := .cells #[.int .i64 0, .string (⟨#[]⟩ : ByteArray), .int .i64 0] 41 (0, 0)) (zb_ BK936.out) hb)
                    have n2_ := zA_ (blk_below (g := gb945) (o := .cells #[.int .i64 0, .string (⟨#[]⟩ : ByteArray), .int .i64 0] 41 (0, 0)) (zb_ BK945.out) hb)
                    have n3_ := zA_ (below_step (zg3_ HB.out GE935.out GE936.out GE945.out) hb)
                    clear BK935 BK936 BK945 HB
                    have BK935 := n0_
                    have BK936 := n1_
                    have BK945 := n2_
                    have HB := n3_
                    clear n0_ n1_ n2_ n3_
                    (try clear hb)
                    (try clear hb2)
                    (try clear hk)
                    (try clear hi)
                    refine hK.out _ _ ⟨(blk_cell BK935.out 0).trans rfl, (blk_cell BK935.out 1).trans rfl⟩ (fun hHeld => ?_)
                    clear hK K
                    refine norm_ (a' := ?_) ?_ ?_
                    rotate_left
                    ·
                     show Act.put _ (some 7) _ = _
                     simp only [Act.put, List.setIfInBounds_toArray, List.set_cons_zero, List.set_cons_succ, i64_w, i32_w]
                     rfl
                    exact norm_ (by first | (simp only [putAll, Act.put, List.setIfInBounds_toArray, List.set_cons_zero, List.set_cons_succ]; done) | (simp only [putAll, Act.put, List.setIfInBounds_toArray, List.set_cons_zero, List.set_cons_succ]; rfl)) (hJ1_6 (gb945) _ ⟨hHeld, (zb_ BK935.out), (zb_ BK936.out), (zb_ BK945.out), GW945.out, GE945.out, NB935_945.out, NB945_935.out, NB936_945.out, NB945_936.out, (zg3_ HB.out GE935.out GE936.out GE945.out)⟩)
                   ·
                    skip
                    refine box_step ?hg (N := 5) ?hd (cs := #[.int .i64 0, .string (⟨#[]⟩ : ByteArray), .int .i64 0]) (t := 41) ?hr ?_; (case hd => rfl); (case hg => rfl); (case hr => first | (go_simp; done) | (go_simp; rfl))
                    intro gb946 hg w12 hbox hb
                    have n0_ := zA_ (blk_below (g := gb935) (o := .cells #[.slice A0_0 l0_0.length c0_0, .slice A0_1 l0_1.length c0_1] 30 (0, 0)) (zb_ BK935.out) hb)
                    have n1_ := zA_ (blk_below (g := gb936) (o := .cells #[.int .i64 0, .string (⟨#[]⟩ : ByteArray), .int .i64 0] 41 (0, 0)) (zb_ BK936.out) hb)
                    have n2_ := zA_ (blk_below (g := gb945) (o := .cells #[.int .i64 0, .string (⟨#[]⟩ : ByteArray), .int .i64 0] 41 (0, 0)) (zb_ BK945.out) hb)
                    have n3_ := zA_ (below_step (zg3_ HB.out GE935.out GE936.out GE945.out) hb)
                    have n4_ := zA_ (hbox)
                    have n5_ := zA_ ((by rw [hg]; exact (below_size (zg3_ HB.out GE935.out GE936.out GE945.out)) : w.heap.size ≤ gb946))
                    have n6_ := zA_ ((by rw [hg]; exact (below_size (zg3_ HB.out GE935.out GE936.out GE945.out)) : w.heap.size ≤ gb946))
                    have n7_ := zA_ ((by rw [hg]; exact Nat.ne_of_lt (blk_lt (g := gb935) (o := .cells #[.slice A0_0 l0_0.length c0_0, .slice A0_1 l0_1.length c0_1] 30 (0, 0)) (zb_ BK935.out)) : gb935 ≠ gb946))
                    have n8_ := zA_ ((by rw [hg]; exact Nat.ne_of_gt (blk_lt (g := gb935) (o := .cells #[.slice A0_0 l0_0.length c0_0, .slice A0_1 l0_1.length c0_1] 30 (0, 0)) (zb_ BK935.out)) : gb946 ≠ gb935))
                    have n9_ := zA_ ((by rw [hg]; exact Nat.ne_of_lt (blk_lt (g := gb936) (o := .cells #[.int .i64 0, .string (⟨#[]⟩ : ByteArray), .int .i64 0] 41 (0, 0)) (zb_ BK936.out)) : gb936 ≠ gb946))
                    have n10_ := zA_ ((by rw [hg]; exact Nat.ne_of_gt (blk_lt (g := gb936) (o := .cells #[.int .i64 0, .string (⟨#[]⟩ : ByteArray), .int .i64 0] 41 (0, 0)) (zb_ BK936.out)) : gb946 ≠ gb936))
                    have n11_ := zA_ ((by rw [hg]; exact Nat.ne_of_lt (blk_lt (g := gb945) (o := .cells #[.int .i64 0, .string (⟨#[]⟩ : ByteArray), .int .i64 0] 41 (0, 0)) (zb_ BK945.out)) : gb945 ≠ gb946))
                    have n12_ := zA_ ((by rw [hg]; exact Nat.ne_of_gt (blk_lt (g := gb945) (o := .cells #[.int .i64 0, .string (⟨#[]⟩ : ByteArray), .int .i64 0] 41 (0, 0)) (zb_ BK945.out)) : gb946 ≠ gb945))
                    clear BK935 BK936 BK945 HB
                    have BK935 := n0_
                    have BK936 := n1_
                    have BK945 := n2_
                    have HB := n3_
                    have BK946 := n4_
                    have GW946 := n5_
                    have GE946 := n6_
                    have NB935_946 := n7_
                    have NB946_935 := n8_
                    have NB936_946 := n9_
                    have NB946_936 := n10_
                    have NB945_946 := n11_
                    have NB946_945 := n12_
                    clear n0_ n1_ n2_ n3_ n4_ n5_ n6_ n7_ n8_ n9_ n10_ n11_ n12_
                    clear hb hbox hg
                    refine hK.out _ _ ⟨(blk_cell BK935.out 0).trans rfl, (blk_cell BK935.out 1).trans rfl⟩ (fun hHeld => ?_)
                    clear hK K
                    refine norm_ (a' := ?_) ?_ ?_
                    rotate_left
                    ·
                     show Act.put _ (some 5) _ = _
                     simp only [Act.put, List.setIfInBounds_toArray, List.set_cons_zero, List.set_cons_succ, i64_w, i32_w]
                     rfl
                    exact norm_ (by first | (simp only [putAll, Act.put, List.setIfInBounds_toArray, List.set_cons_zero, List.set_cons_succ]; done) | (simp only [putAll, Act.put, List.setIfInBounds_toArray, List.set_cons_zero, List.set_cons_succ]; rfl)) (hJ6_7 (gb945, gb946) _ ⟨hHeld, (zb_ BK935.out), (zb_ BK936.out), (zb_ BK945.out), (zb_ BK946.out), GW945.out, GE945.out, NB935_945.out, NB945_935.out, NB936_945.out, NB945_936.out, NB946_945.out, NB945_946.out, GW946.out, GE946.out, NB935_946.out, NB946_935.out, NB936_946.out, NB946_936.out, (zg4_ HB.out GE935.out GE936.out GE945.out GE946.out)⟩)
                 ·
                  skip
                  rintro _ w11 ⟨hS_, h0_, h1_, h2_⟩
                  have n0_ : Aside0 (w11.heap[gb935]? = some (.cells #[.slice A0_0 l0_0.length c0_0, .slice A0_1 l0_1.length c0_1] 30 (0, 0))) := ⟨h0_⟩
                  have n1_ : Aside0 (w11.heap[gb936]? = some (.cells #[.int .i64 0, .string (⟨#[]⟩ : ByteArray), .int .i64 0] 41 (0, 0))) := ⟨h1_⟩
                  have n2_ : Aside0 (Below w.heap.size w w11) := ⟨h2_⟩
                  clear BK935 BK936 HB
                  clear h0_ h1_ h2_
                  have BK935 := n0_
                  have BK936 := n1_
                  have HB := n2_
                  clear n0_ n1_ n2_
                  have hHeld : w11.cell? ⟨gb935, 0, none⟩ = some (.slice A0_0 l0_0.length c0_0) ∧ w11.cell? ⟨gb935, 1, none⟩ = some (.slice A0_1 l0_1.length c0_1) := hS_
                  refine norm_ (a' := ?_) ?_ ?_
                  rotate_left
                  ·
                   simp only [putAll, Act.put, List.setIfInBounds_toArray, List.set_cons_zero, List.set_cons_succ]
                   rfl
                  refine three_ (i := 2) (j := 6) (k := 7) (Ni := some 8) (Nj := some 4) (Nk := some 5) #[true, true, true, true, false, false, false, false, false, false] #[true, true, false, true, false, false, true, false, false, false] #[true, true, false, true, false, false, false, true, false, false] rfl rfl rfl rfl rfl rfl (three_of HT_.out (by kernel_rfl)) (by decide) (by decide) (by decide) (fun K hK => ?_) (fun K hK => ?_) (fun K hK => ?_)
                  ·
                   skip
                   refine goes_ Try.func25 (by kernel_rfl) rfl #[.string t937] (by rfl) rfl rfl zs_ ?_
                   with_reducible refine (spec_MetaRead.calls k t937 t938 t939 t940 _ A3.out).mono ?_
                   rintro e w12 ⟨rfl, hb⟩
                   refine ⟨_, rfl, ?_⟩
                   have n0_ := zA_ (blk_below (g := gb935) (o := .cells #[.slice A0_0 l0_0.length c0_0, .slice A0_1 l0_1.length c0_1] 30 (0, 0)) (zb_ BK935.out) hb)
                   have n1_ := zA_ (blk_below (g := gb936) (o := .cells #[.int .i64 0, .string (⟨#[]⟩ : ByteArray), .int .i64 0] 41 (0, 0)) (zb_ BK936.out) hb)
                   have n2_ := zA_ (below_step (zg2_ HB.out GE935.out GE936.out) hb)
                   clear BK935 BK936 HB
                   have BK935 := n0_
                   have BK936 := n1_
                   have HB := n2_
                   clear n0_ n1_ n2_
                   (try clear hb)
                   (try clear hb2)
                   (try clear hk)
                   (try clear hi)
                   refine hK.out _ _ ⟨(blk_cell BK935.out 0).trans rfl, (blk_cell BK935.out 1).trans rfl⟩ (fun hHeld => ?_)
                   clear hK K
                   refine norm_ (a' := ?_) ?_ ?_
                   rotate_left
                   ·
                    show Act.put _ (some 8) _ = _
                    simp only [Act.put, List.setIfInBounds_toArray, List.set_cons_zero, List.set_cons_succ, i64_w, i32_w]
                    rfl
                   exact norm_ (by first | (simp only [putAll, Act.put, List.setIfInBounds_toArray, List.set_cons_zero, List.set_cons_succ]; done) | (simp only [putAll, Act.put, List.setIfInBounds_toArray, List.set_cons_zero, List.set_cons_succ]; rfl)) (hJ1_2 () _ ⟨hHeld, (zb_ BK935.out), (zb_ BK936.out), (zg2_ HB.out GE935.out GE936.out)⟩)
                  ·
                   skip
                   refine box_step ?hg (N := 4) ?hd (cs := #[.int .i64 0, .string (⟨#[]⟩ : ByteArray), .int .i64 0]) (t := 41) ?hr ?_; (case hd => rfl); (case hg => rfl); (case hr => first | (go_simp; done) | (go_simp; rfl))
                   intro gb945 hg w12 hbox hb
                   have n0_ := zA_ (blk_below (g := gb935) (o := .cells #[.slice A0_0 l0_0.length c0_0, .slice A0_1 l0_1.length c0_1] 30 (0, 0)) (zb_ BK935.out) hb)
                   have n1_ := zA_ (blk_below (g := gb936) (o := .cells #[.int .i64 0, .string (⟨#[]⟩ : ByteArray), .int .i64 0] 41 (0, 0)) (zb_ BK936.out) hb)
                   have n2_ := zA_ (below_step (zg2_ HB.out GE935.out GE936.out) hb)
                   have n3_ := zA_ (hbox)
                   have n4_ := zA_ ((by rw [hg]; exact (below_size (zg2_ HB.out GE935.out GE936.out)) : w.heap.size ≤ gb945))
                   have n5_ := zA_ ((by rw [hg]; exact (below_size (zg2_ HB.out GE935.out GE936.out)) : w.heap.size ≤ gb945))
                   have n6_ := zA_ ((by rw [hg]; exact Nat.ne_of_lt (blk_lt (g := gb935) (o := .cells #[.slice A0_0 l0_0.length c0_0, .slice A0_1 l0_1.length c0_1] 30 (0, 0)) (zb_ BK935.out)) : gb935 ≠ gb945))
                   have n7_ := zA_ ((by rw [hg]; exact Nat.ne_of_gt (blk_lt (g := gb935) (o := .cells #[.slice A0_0 l0_0.length c0_0, .slice A0_1 l0_1.length c0_1] 30 (0, 0)) (zb_ BK935.out)) : gb945 ≠ gb935))
                   have n8_ := zA_ ((by rw [hg]; exact Nat.ne_of_lt (blk_lt (g := gb936) (o := .cells #[.int .i64 0, .string (⟨#[]⟩ : ByteArray), .int .i64 0] 41 (0, 0)) (zb_ BK936.out)) : gb936 ≠ gb945))
                   have n9_ := zA_ ((by rw [hg]; exact Nat.ne_of_gt (blk_lt (g := gb936) (o := .cells #[.int .i64 0, .string (⟨#[]⟩ : ByteArray), .int .i64 0] 41 (0, 0)) (zb_ BK936.out)) : gb945 ≠ gb936))
                   clear BK935 BK936 HB
                   have BK935 := n0_
                   have BK936 := n1_
                   have HB := n2_
                   have BK945 := n3_
                   have GW945 := n4_
                   have GE945 := n5_
                   have NB935_945 := n6_
                   have NB945_935 := n7_
                   have NB936_945 := n8_
                   have NB945_936 := n9_
                   clear n0_ n1_ n2_ n3_ n4_ n5_ n6_ n7_ n8_ n9_
                   clear hb hbox hg
                   refine hK.out _ _ ⟨(blk_cell BK935.out 0).trans rfl, (blk_cell BK935.out 1).trans rfl⟩ (fun hHeld => ?_)
                   clear hK K
                   refine norm_ (a' := ?_) ?_ ?_
                   rotate_left
                   ·
                    show Act.put _ (some 4) _ = _
                    simp only [Act.put, List.setIfInBounds_toArray, List.set_cons_zero, List.set_cons_succ, i64_w, i32_w]
                    rfl
                   exact norm_ (by first | (simp only [putAll, Act.put, List.setIfInBounds_toArray, List.set_cons_zero, List.set_cons_succ]; done) | (simp only [putAll, Act.put, List.setIfInBounds_toArray, List.set_cons_zero, List.set_cons_succ]; rfl)) (hJ1_6 (gb945) _ ⟨hHeld, (zb_ BK935.out), (zb_ BK936.out), (zb_ BK945.out), GW945.out, GE945.out, NB935_945.out, NB945_935.out, NB936_945.out, NB945_936.out, (zg3_ HB.out GE935.out GE936.out GE945.out)⟩)
                  ·
                   skip
                   refine box_step ?hg (N := 5) ?hd (cs := #[.int .i64 0, .string (⟨#[]⟩ : ByteArray), .int .i64 0]) (t := 41) ?hr ?_; (case hd => rfl); (case hg => rfl); (case hr => first | (go_simp; done) | (go_simp; rfl))
                   intro gb946 hg w12 hbox hb
                   have n0_ := zA_ (blk_below (g := gb935) (o := .cells #[.slice A0_0 l0_0.length c0_0, .slice A0_1 l0_1.length c0_1] 30 (0, 0)) (zb_ BK935.out) hb)
                   have n1_ := zA_ (blk_below (g := gb936) (o := .cells #[.int .i64 0, .string (⟨#[]⟩ : ByteArray), .int .i64 0] 41 (0, 0)) (zb_ BK936.out) hb)
                   have n2_ := zA_ (below_step (zg2_ HB.out GE935.out GE936.out) hb)
                   have n3_ := zA_ (hbox)
                   have n4_ := zA_ ((by rw [hg]; exact (below_size (zg2_ HB.out GE935.out GE936.out)) : w.heap.size ≤ gb946))
                   have n5_ := zA_ ((by rw [hg]; exact (below_size (zg2_ HB.out GE935.out GE936.out)) : w.heap.size ≤ gb946))
                   have n6_ := zA_ ((by rw [hg]; exact Nat.ne_of_lt (blk_lt (g := gb935) (o := .cells #[.slice A0_0 l0_0.length c0_0, .slice A0_1 l0_1.length c0_1] 30 (0, 0)) (zb_ BK935.out)) : gb935 ≠ gb946))
                   have n7_ := zA_ ((by rw [hg]; exact Nat.ne_of_gt (blk_lt (g := gb935) (o := .cells #[.slice A0_0 l0_0.length c0_0, .slice A0_1 l0_1.length c0_1] 30 (0, 0)) (zb_ BK935.out)) : gb946 ≠ gb935))
                   have n8_ := zA_ ((by rw [hg]; exact Nat.ne_of_lt (blk_lt (g := gb936) (o := .cells #[.int .i64 0, .string (⟨#[]⟩ : ByteArray), .int .i64 0] 41 (0, 0)) (zb_ BK936.out)) : gb936 ≠ gb946))
                   have n9_ := zA_ ((by rw [hg]; exact Nat.ne_of_gt (blk_lt (g := gb936) (o := .cells #[.int .i64 0, .string (⟨#[]⟩ : ByteArray), .int .i64 0] 41 (0, 0)) (zb_ BK936.out)) : gb946 ≠ gb936))
                   clear BK935 BK936 HB
                   have BK935 := n0_
                   have BK936 := n1_
                   have HB := n2_
                   have BK946 := n3_
                   have GW946 := n4_
                   have GE946 := n5_
                   have NB935_946 := n6_
                   have NB946_935 := n7_
                   have NB936_946 := n8_
                   have NB946_936 := n9_
                   clear n0_ n1_ n2_ n3_ n4_ n5_ n6_ n7_ n8_ n9_
                   clear hb hbox hg
                   refine hK.out _ _ ⟨(blk_cell BK935.out 0).trans rfl, (blk_cell BK935.out 1).trans rfl⟩ (fun hHeld => ?_)
                   clear hK K
                   refine norm_ (a' := ?_) ?_ ?_
                   rotate_left
                   ·
                    show Act.put _ (some 5) _ = _
                    simp only [Act.put, List.setIfInBounds_toArray, List.set_cons_zero, List.set_cons_succ, i64_w, i32_w]
                    rfl
                   exact norm_ (by first | (simp only [putAll, Act.put, List.setIfInBounds_toArray, List.set_cons_zero, List.set_cons_succ]; done) | (simp only [putAll, Act.put, List.setIfInBounds_toArray, List.set_cons_zero, List.set_cons_succ]; rfl)) (hJ1_7 (gb946) _ ⟨hHeld, (zb_ BK935.out), (zb_ BK936.out), (zb_ BK946.out), GW946.out, GE946.out, NB935_946.out, NB946_935.out, NB936_946.out, NB946_936.out, (zg3_ HB.out GE935.out GE936.out GE946.out)⟩)
                ·
                 skip
                 rintro ⟨gb945, gb946⟩ w12 ⟨hS_, h0_, h1_, h2_, h3_, h4_, h5_, h6_, h7_, h8_, h9_, h10_, h11_, h12_, h13_, h14_, h15_, h16_, h17_, h18_⟩
                 have n0_ : Aside0 (w12.heap[gb935]? = some (.cells #[.slice A0_0 l0_0.length c0_0, .slice A0_1 l0_1.length c0_1] 30 (0, 0))) := ⟨h0_⟩
                 have n1_ : Aside0 (w12.heap[gb936]? = some (.cells #[.int .i64 0, .string (⟨#[]⟩ : ByteArray), .int .i64 0] 41 (0, 0))) := ⟨h1_⟩
                 have n2_ : Aside0 (w12.heap[gb945]? = some (.cells #[.int .i64 0, .string (⟨#[]⟩ : ByteArray), .int .i64 0] 41 (0, 0))) := ⟨h2_⟩
                 have n3_ : Aside0 (w12.heap[gb946]? = some (.cells #[.int .i64 0, .string (⟨#[]⟩ : ByteArray), .int .i64 0] 41 (0, 0))) := ⟨h3_⟩
                 have n4_ : Aside0 (w.heap.size ≤ gb945) := ⟨h4_⟩
                 have n5_ : Aside0 (w.heap.size ≤ gb945) := ⟨h5_⟩
                 have n6_ : Aside0 (gb935 ≠ gb945) := ⟨h6_⟩
                 have n7_ : Aside0 (gb945 ≠ gb935) := ⟨h7_⟩
                 have n8_ : Aside0 (gb936 ≠ gb945) := ⟨h8_⟩
                 have n9_ : Aside0 (gb945 ≠ gb936) := ⟨h9_⟩
                 have n10_ : Aside0 (gb946 ≠ gb945) := ⟨h10_⟩
                 have n11_ : Aside0 (gb945 ≠ gb946) := ⟨h11_⟩
                 have n12_ : Aside0 (w.heap.size ≤ gb946) := ⟨h12_⟩
                 have n13_ : Aside0 (w.heap.size ≤ gb946) := ⟨h13_⟩
                 have n14_ : Aside0 (gb935 ≠ gb946) := ⟨h14_⟩
                 have n15_ : Aside0 (gb946 ≠ gb935) := ⟨h15_⟩
                 have n16_ : Aside0 (gb936 ≠ gb946) := ⟨h16_⟩
                 have n17_ : Aside0 (gb946 ≠ gb936) := ⟨h17_⟩
                 have n18_ : Aside0 (Below w.heap.size w w12) := ⟨h18_⟩
                 clear BK935 BK936 HB
                 clear h0_ h1_ h2_ h3_ h4_ h5_ h6_ h7_ h8_ h9_ h10_ h11_ h12_ h13_ h14_ h15_ h16_ h17_ h18_
                 have BK935 := n0_
                 have BK936 := n1_
                 have BK945 := n2_
                 have BK946 := n3_
                 have GW945 := n4_
                 have GE945 := n5_
                 have NB935_945 := n6_
                 have NB945_935 := n7_
                 have NB936_945 := n8_
                 have NB945_936 := n9_
                 have NB946_945 := n10_
                 have NB945_946 := n11_
                 have GW946 := n12_
                 have GE946 := n13_
                 have NB935_946 := n14_
                 have NB946_935 := n15_
                 have NB936_946 := n16_
                 have NB946_936 := n17_
                 have HB := n18_
                 clear n0_ n1_ n2_ n3_ n4_ n5_ n6_ n7_ n8_ n9_ n10_ n11_ n12_ n13_ n14_ n15_ n16_ n17_ n18_
                 have hHeld : w12.cell? ⟨gb935, 0, none⟩ = some (.slice A0_0 l0_0.length c0_0) ∧ w12.cell? ⟨gb935, 1, none⟩ = some (.slice A0_1 l0_1.length c0_1) := hS_
                 refine norm_ (a' := ?_) ?_ ?_
                 rotate_left
                 ·
                  simp only [putAll, Act.put, List.setIfInBounds_toArray, List.set_cons_zero, List.set_cons_succ]
                  rfl
                 refine one_ (i := 1) (N := some 7) #[true, true, false, true, false, false, true, true, false, false] rfl rfl (one_of HT_.out (by kernel_rfl)) (by decide) (fun K hK => ?_)
                 refine goes_ Try.func88 (by kernel_rfl) rfl #[.agg #[.slice A0_0 l0_0.length c0_0, .slice A0_1 l0_1.length c0_1], .int .i64 0] (by rfl) rfl rfl zs_ ?_
                 with_reducible refine (spec_l03Get.calls k _ _ l0_0 _ _ l0_1 0 t937 _ ?side1 ?side2 ?side3 ?side4 A2.out).mono ?_
                 (case side1 => exact zc_ (Kd.C_below HR0_0.out HB.out))
                 (case side2 => exact HC0_0.out)
                 (case side3 => exact zc_ (Kd.C_below HR0_1.out HB.out))
                 (case side4 => exact HC0_1.out)
                 rintro e w13 ⟨rfl, hb⟩
                 refine ⟨_, rfl, ?_⟩
                 have n0_ := zA_ (blk_below (g := gb935) (o := .cells #[.slice A0_0 l0_0.length c0_0, .slice A0_1 l0_1.length c0_1] 30 (0, 0)) (zb_ BK935.out) hb)
                 have n1_ := zA_ (blk_below (g := gb936) (o := .cells #[.int .i64 0, .string (⟨#[]⟩ : ByteArray), .int .i64 0] 41 (0, 0)) (zb_ BK936.out) hb)
                 have n2_ := zA_ (blk_below (g := gb945) (o := .cells #[.int .i64 0, .string (⟨#[]⟩ : ByteArray), .int .i64 0] 41 (0, 0)) (zb_ BK945.out) hb)
                 have n3_ := zA_ (blk_below (g := gb946) (o := .cells #[.int .i64 0, .string (⟨#[]⟩ : ByteArray), .int .i64 0] 41 (0, 0)) (zb_ BK946.out) hb)
                 have n4_ := zA_ (below_step (zg4_ HB.out GE935.out GE936.out GE945.out GE946.out) hb)
                 clear BK935 BK936 BK945 BK946 HB
                 have BK935 := n0_
                 have BK936 := n1_
                 have BK945 := n2_
                 have BK946 := n3_
                 have HB := n4_
                 clear n0_ n1_ n2_ n3_ n4_
                 (try clear hb)
                 (try clear hb2)
                 (try clear hk)
                 (try clear hi)
                 refine hK.out _ _ ⟨(blk_cell BK935.out 0).trans rfl, (blk_cell BK935.out 1).trans rfl⟩ (fun hHeld => ?_)
                 clear hK K
                 refine norm_ (a' := ?_) ?_ ?_
                 rotate_left
                 ·
                  show Act.put _ (some 7) _ = _
                  simp only [Act.put, List.setIfInBounds_toArray, List.set_cons_zero, List.set_cons_succ, i64_w, i32_w]
                  rfl
                 exact norm_ (by first | (simp only [putAll, Act.put, List.setIfInBounds_toArray, List.set_cons_zero, List.set_cons_succ]; done) | (simp only [putAll, Act.put, List.setIfInBounds_toArray, List.set_cons_zero, List.set_cons_succ]; rfl)) (hJ1_6_7 (gb945, gb946) _ ⟨hHeld, (zb_ BK935.out), (zb_ BK936.out), (zb_ BK945.out), (zb_ BK946.out), GW945.out, GE945.out, NB935_945.out, NB945_935.out, NB936_945.out, NB945_936.out, NB946_945.out, NB945_946.out, GW946.out, GE946.out, NB935_946.out, NB946_935.out, NB936_946.out, NB946_936.out, (zg4_ HB.out GE935.out GE936.out GE945.out GE946.out)⟩)
               ·
                skip
                rintro gb946 w12 ⟨hS_, h0_, h1_, h2_, h3_, h4_, h5_, h6_, h7_, h8_, h9_⟩
                have n0_ : Aside0 (w12.heap[gb935]? = some (.cells #[.slice A0_0 l0_0.length c0_0, .slice A0_1 l0_1.length c0_1] 30 (0, 0))) := ⟨h0_⟩
                have n1_ : Aside0 (w12.heap[gb936]? = some (.cells #[.int .i64 0, .string (⟨#[]⟩ : ByteArray), .int .i64 0] 41 (0, 0))) := ⟨h1_⟩
                have n2_ : Aside0 (w12.heap[gb946]? = some (.cells #[.int .i64 0, .string (⟨#[]⟩ : ByteArray), .int .i64 0] 41 (0, 0))) := ⟨h2_⟩
                have n3_ : Aside0 (w.heap.size ≤ gb946) := ⟨h3_⟩
                have n4_ : Aside0 (w.heap.size ≤ gb946) := ⟨h4_⟩
                have n5_ : Aside0 (gb935 ≠ gb946) := ⟨h5_⟩
                have n6_ : Aside0 (gb946 ≠ gb935) := ⟨h6_⟩
                have n7_ : Aside0 (gb936 ≠ gb946) := ⟨h7_⟩
                have n8_ : Aside0 (gb946 ≠ gb936) := ⟨h8_⟩
                have n9_ : Aside0 (Below w.heap.size w w12) := ⟨h9_⟩
                clear BK935 BK936 HB
                clear h0_ h1_ h2_ h3_ h4_ h5_ h6_ h7_ h8_ h9_
                have BK935 := n0_
                have BK936 := n1_
                have BK946 := n2_
                have GW946 := n3_
                have GE946 := n4_
                have NB935_946 := n5_
                have NB946_935 := n6_
                have NB936_946 := n7_
                have NB946_936 := n8_
                have HB := n9_
                clear n0_ n1_ n2_ n3_ n4_ n5_ n6_ n7_ n8_ n9_
                have hHeld : w12.cell? ⟨gb935, 0, none⟩ = some (.slice A0_0 l0_0.length c0_0) ∧ w12.cell? ⟨gb935, 1, none⟩ = some (.slice A0_1 l0_1.length c0_1) := hS_
                refine norm_ (a' := ?_) ?_ ?_
                rotate_left
                ·
                 simp only [putAll, Act.put, List.setIfInBounds_toArray, List.set_cons_zero, List.set_cons_succ]
                 rfl
                refine two_ (i := 2) (j := 6) (Ni := some 8) (Nj := some 4) #[true, true, true, true, false, false, false, true, false, false] #[true, true, false, true, false, false, true, true, false, false] rfl rfl rfl rfl (two_of HT_.out (by kernel_rfl)) (by decide) (by decide) (fun K hK => ?_) (fun K hK => ?_)
                ·
                 skip
                 refine goes_ Try.func25 (by kernel_rfl) rfl #[.string t937] (by rfl) rfl rfl zs_ ?_
                 with_reducible refine (spec_MetaRead.calls k t937 t938 t939 t940 _ A3.out).mono ?_
                 rintro e w13 ⟨rfl, hb⟩
                 refine ⟨_, rfl, ?_⟩
                 have n0_ := zA_ (blk_below (g := gb935) (o := .cells #[.slice A0_0 l0_0.length c0_0, .slice A0_1 l0_1.length c0_1] 30 (0, 0)) (zb_ BK935.out) hb)
                 have n1_ := zA_ (blk_below (g := gb936) (o := .cells #[.int .i64 0, .string (⟨#[]⟩ : ByteArray), .int .i64 0] 41 (0, 0)) (zb_ BK936.out) hb)
                 have n2_ := zA_ (blk_below (g := gb946) (o := .cells #[.int .i64 0, .string (⟨#[]⟩ : ByteArray), .int .i64 0] 41 (0, 0)) (zb_ BK946.out) hb)
                 have n3_ := zA_ (below_step (zg3_ HB.out GE935.out GE936.out GE946.out) hb)
                 clear BK935 BK936 BK946 HB
                 have BK935 := n0_
                 have BK936 := n1_
                 have BK946 := n2_
                 have HB := n3_
                 clear n0_ n1_ n2_ n3_
                 (try clear hb)
                 (try clear hb2)
                 (try clear hk)
                 (try clear hi)
                 refine hK.out _ _ ⟨(blk_cell BK935.out 0).trans rfl, (blk_cell BK935.out 1).trans rfl⟩ (fun hHeld => ?_)
                 clear hK K
                 refine norm_ (a' := ?_) ?_ ?_
                 rotate_left
                 ·
                  show Act.put _ (some 8) _ = _
                  simp only [Act.put, List.setIfInBounds_toArray, List.set_cons_zero, List.set_cons_succ, i64_w, i32_w]
                  rfl
                 exact norm_ (by first | (simp only [putAll, Act.put, List.setIfInBounds_toArray, List.set_cons_zero, List.set_cons_succ]; done) | (simp only [putAll, Act.put, List.setIfInBounds_toArray, List.set_cons_zero, List.set_cons_succ]; rfl)) (hJ1_2_7 (gb946) _ ⟨hHeld, (zb_ BK935.out), (zb_ BK936.out), (zb_ BK946.out), GW946.out, GE946.out, NB935_946.out, NB946_935.out, NB936_946.out, NB946_936.out, (zg3_ HB.out GE935.out GE936.out GE946.out)⟩)
                ·
                 skip
                 refine box_step ?hg (N := 4) ?hd (cs := #[.int .i64 0, .string (⟨#[]⟩ : ByteArray), .int .i64 0]) (t := 41) ?hr ?_; (case hd => rfl); (case hg => rfl); (case hr => first | (go_simp; done) | (go_simp; rfl))
                 intro gb945 hg w13 hbox hb
                 have n0_ := zA_ (blk_below (g := gb935) (o := .cells #[.slice A0_0 l0_0.length c0_0, .slice A0_1 l0_1.length c0_1] 30 (0, 0)) (zb_ BK935.out) hb)
                 have n1_ := zA_ (blk_below (g := gb936) (o := .cells #[.int .i64 0, .string (⟨#[]⟩ : ByteArray), .int .i64 0] 41 (0, 0)) (zb_ BK936.out) hb)
                 have n2_ := zA_ (blk_below (g := gb946) (o := .cells #[.int .i64 0, .string (⟨#[]⟩ : ByteArray), .int .i64 0] 41 (0, 0)) (zb_ BK946.out) hb)
                 have n3_ := zA_ (below_step (zg3_ HB.out GE935.out GE936.out GE946.out) hb)
                 have n4_ := zA_ (hbox)
                 have n5_ := zA_ ((by rw [hg]; exact (below_size (zg3_ HB.out GE935.out GE936.out GE946.out)) : w.heap.size ≤ gb945))
                 have n6_ := zA_ ((by rw [hg]; exact (below_size (zg3_ HB.out GE935.out GE936.out GE946.out)) : w.heap.size ≤ gb945))
                 have n7_ := zA_ ((by rw [hg]; exact Nat.ne_of_lt (blk_lt (g := gb935) (o := .cells #[.slice A0_0 l0_0.length c0_0, .slice A0_1 l0_1.length c0_1] 30 (0, 0)) (zb_ BK935.out)) : gb935 ≠ gb945))
                 have n8_ := zA_ ((by rw [hg]; exact Nat.ne_of_gt (blk_lt (g := gb935) (o := .cells #[.slice A0_0 l0_0.length c0_0, .slice A0_1 l0_1.length c0_1] 30 (0, 0)) (zb_ BK935.out)) : gb945 ≠ gb935))
                 have n9_ := zA_ ((by rw [hg]; exact Nat.ne_of_lt (blk_lt (g := gb936) (o := .cells #[.int .i64 0, .string (⟨#[]⟩ : ByteArray), .int .i64 0] 41 (0, 0)) (zb_ BK936.out)) : gb936 ≠ gb945))
                 have n10_ := zA_ ((by rw [hg]; exact Nat.ne_of_gt (blk_lt (g := gb936) (o := .cells #[.int .i64 0, .string (⟨#[]⟩ : ByteArray), .int .i64 0] 41 (0, 0)) (zb_ BK936.out)) : gb945 ≠ gb936))
                 have n11_ := zA_ ((by rw [hg]; exact Nat.ne_of_lt (blk_lt (g := gb946) (o := .cells #[.int .i64 0, .string (⟨#[]⟩ : ByteArray), .int .i64 0] 41 (0, 0)) (zb_ BK946.out)) : gb946 ≠ gb945))
                 have n12_ := zA_ ((by rw [hg]; exact Nat.ne_of_gt (blk_lt (g := gb946) (o := .cells #[.int .i64 0, .string (⟨#[]⟩ : ByteArray), .int .i64 0] 41 (0, 0)) (zb_ BK946.out)) : gb945 ≠ gb946))
                 clear BK935 BK936 BK946 HB
                 have BK935 := n0_
                 have BK936 := n1_
                 have BK946 := n2_
                 have HB := n3_
                 have BK945 := n4_
                 have GW945 := n5_
                 have GE945 := n6_
                 have NB935_945 := n7_
                 have NB945_935 := n8_
                 have NB936_945 := n9_
                 have NB945_936 := n10_
                 have NB946_945 := n11_
                 have NB945_946 := n12_
                 clear n0_ n1_ n2_ n3_ n4_ n5_ n6_ n7_ n8_ n9_ n10_ n11_ n12_
                 clear hb hbox hg
                 refine hK.out _ _ ⟨(blk_cell BK935.out 0).trans rfl, (blk_cell BK935.out 1).trans rfl⟩ (fun hHeld => ?_)
                 clear hK K
                 refine norm_ (a' := ?_) ?_ ?_
                 rotate_left
                 ·
                  show Act.put _ (some 4) _ = _
                  simp only [Act.put, List.setIfInBounds_toArray, List.set_cons_zero, List.set_cons_succ, i64_w, i32_w]
                  rfl
                 exact norm_ (by first | (simp only [putAll, Act.put, List.setIfInBounds_toArray, List.set_cons_zero, List.set_cons_succ]; done) | (simp only [putAll, Act.put, List.setIfInBounds_toArray, List.set_cons_zero, List.set_cons_succ]; rfl)) (hJ1_6_7 (gb945, gb946) _ ⟨hHeld, (zb_ BK935.out), (zb_ BK936.out), (zb_ BK945.out), (zb_ BK946.out), GW945.out, GE945.out, NB935_945.out, NB945_935.out, NB936_945.out, NB945_936.out, NB946_945.out, NB945_946.out, GW946.out, GE946.out, NB935_946.out, NB946_935.out, NB936_946.out, NB946_936.out, (zg4_ HB.out GE935.out GE936.out GE946.out GE945.out)⟩)
              ·
               skip
               rintro gb945 w12 ⟨hS_, h0_, h1_, h2_, h3_, h4_, h5_, h6_, h7_, h8_, h9_⟩
               have n0_ : Aside0 (w12.heap[gb935]? = some (.cells #[.slice A0_0 l0_0.length c0_0, .slice A0_1 l0_1.length c0_1] 30 (0, 0))) := ⟨h0_⟩
               have n1_ : Aside0 (w12.heap[gb936]? = some (.cells #[.int .i64 0, .string (⟨#[]⟩ : ByteArray), .int .i64 0] 41 (0, 0))) := ⟨h1_⟩
               have n2_ : Aside0 (w12.heap[gb945]? = some (.cells #[.int .i64 0, .string (⟨#[]⟩ : ByteArray), .int .i64 0] 41 (0, 0))) := ⟨h2_⟩
               have n3_ : Aside0 (w.heap.size ≤ gb945) := ⟨h3_⟩
               have n4_ : Aside0 (w.heap.size ≤ gb945) := ⟨h4_⟩
               have n5_ : Aside0 (gb935 ≠ gb945) := ⟨h5_⟩
               have n6_ : Aside0 (gb945 ≠ gb935) := ⟨h6_⟩
               have n7_ : Aside0 (gb936 ≠ gb945) := ⟨h7_⟩
               have n8_ : Aside0 (gb945 ≠ gb936) := ⟨h8_⟩
               have n9_ : Aside0 (Below w.heap.size w w12) := ⟨h9_⟩
               clear BK935 BK936 HB
               clear h0_ h1_ h2_ h3_ h4_ h5_ h6_ h7_ h8_ h9_
               have BK935 := n0_
               have BK936 := n1_
               have BK945 := n2_
               have GW945 := n3_
               have GE945 := n4_
               have NB935_945 := n5_
               have NB945_935 := n6_
               have NB936_945 := n7_
               have NB945_936 := n8_
               have HB := n9_
               clear n0_ n1_ n2_ n3_ n4_ n5_ n6_ n7_ n8_ n9_
               have hHeld : w12.cell? ⟨gb935, 0, none⟩ = some (.slice A0_0 l0_0.length c0_0) ∧ w12.cell? ⟨gb935, 1, none⟩ = some (.slice A0_1 l0_1.length c0_1) := hS_
               refine norm_ (a' := ?_) ?_ ?_
               rotate_left
               ·
                simp only [putAll, Act.put, List.setIfInBounds_toArray, List.set_cons_zero, List.set_cons_succ]
                rfl
               refine two_ (i := 2) (j := 7) (Ni := some 8) (Nj := some 5) #[true, true, true, true, false, false, true, false, false, false] #[true, true, false, true, false, false, true, true, false, false] rfl rfl rfl rfl (two_of HT_.out (by kernel_rfl)) (by decide) (by decide) (fun K hK => ?_) (fun K hK => ?_)
               ·
                skip
                refine goes_ Try.func25 (by kernel_rfl) rfl #[.string t937] (by rfl) rfl rfl zs_ ?_
                with_reducible refine (spec_MetaRead.calls k t937 t938 t939 t940 _ A3.out).mono ?_
                rintro e w13 ⟨rfl, hb⟩
                refine ⟨_, rfl, ?_⟩
                have n0_ := zA_ (blk_below (g := gb935) (o := .cells #[.slice A0_0 l0_0.length c0_0, .slice A0_1 l0_1.length c0_1] 30 (0, 0)) (zb_ BK935.out) hb)
                have n1_ := zA_ (blk_below (g := gb936) (o := .cells #[.int .i64 0, .string (⟨#[]⟩ : ByteArray), .int .i64 0] 41 (0, 0)) (zb_ BK936.out) hb)
                have n2_ := zA_ (blk_below (g := gb945) (o := .cells #[.int .i64 0, .string (⟨#[]⟩ : ByteArray), .int .i64 0] 41 (0, 0)) (zb_ BK945.out) hb)
                have n3_ := zA_ (below_step (zg3_ HB.out GE935.out GE936.out GE945.out) hb)
                clear BK935 BK936 BK945 HB
                have BK935 := n0_
                have BK936 := n1_
                have BK945 := n2_
                have HB := n3_
                clear n0_ n1_ n2_ n3_
                (try clear hb)
                (try clear hb2)
                (try clear hk)
                (try clear hi)
                refine hK.out _ _ ⟨(blk_cell BK935.out 0).trans rfl, (blk_cell BK935.out 1).trans rfl⟩ (fun hHeld => ?_)
                clear hK K
                refine norm_ (a' := ?_) ?_ ?_
                rotate_left
                ·
                 show Act.put _ (some 8) _ = _
                 simp only [Act.put, List.setIfInBounds_toArray, List.set_cons_zero, List.set_cons_succ, i64_w, i32_w]
                 rfl
                exact norm_ (by first | (simp only [putAll, Act.put, List.setIfInBounds_toArray, List.set_cons_zero, List.set_cons_succ]; done) | (simp only [putAll, Act.put, List.setIfInBounds_toArray, List.set_cons_zero, List.set_cons_succ]; rfl)) (hJ1_2_6 (gb945) _ ⟨hHeld, (zb_ BK935.out), (zb_ BK936.out), (zb_ BK945.out), GW945.out, GE945.out, NB935_945.out, NB945_935.out, NB936_945.out, NB945_936.out, (zg3_ HB.out GE935.out GE936.out GE945.out)⟩)
               ·
                skip
                refine box_step ?hg (N := 5) ?hd (cs := #[.int .i64 0, .string (⟨#[]⟩ : ByteArray), .int .i64 0]) (t := 41) ?hr ?_; (case hd => rfl); (case hg => rfl); (case hr => first | (go_simp; done) | (go_simp; rfl))
                intro gb946 hg w13 hbox hb
                have n0_ := zA_ (blk_below (g := gb935) (o := .cells #[.slice A0_0 l0_0.length c0_0, .slice A0_1 l0_1.length c0_1] 30 (0, 0)) (zb_ BK935.out) hb)
                have n1_ := zA_ (blk_below (g := gb936) (o := .cells #[.int .i64 0, .string (⟨#[]⟩ : ByteArray), .int .i64 0] 41 (0, 0)) (zb_ BK936.out) hb)
                have n2_ := zA_ (blk_below (g := gb945) (o := .cells #[.int .i64 0, .string (⟨#[]⟩ : ByteArray), .int .i64 0] 41 (0, 0)) (zb_ BK945.out) hb)
                have n3_ := zA_ (below_step (zg3_ HB.out GE935.out GE936.out GE945.out) hb)
                have n4_ := zA_ (hbox)
                have n5_ := zA_ ((by rw [hg]; exact (below_size (zg3_ HB.out GE935.out GE936.out GE945.out)) : w.heap.size ≤ gb946))
                have n6_ := zA_ ((by rw [hg]; exact (below_size (zg3_ HB.out GE935.out GE936.out GE945.out)) : w.heap.size ≤ gb946))
                have n7_ := zA_ ((by rw [hg]; exact Nat.ne_of_lt (blk_lt (g := gb935) (o := .cells #[.slice A0_0 l0_0.length c0_0, .slice A0_1 l0_1.length c0_1] 30 (0, 0)) (zb_ BK935.out)) : gb935 ≠ gb946))
                have n8_ := zA_ ((by rw [hg]; exact Nat.ne_of_gt (blk_lt (g := gb935) (o := .cells #[.slice A0_0 l0_0.length c0_0, .slice A0_1 l0_1.length c0_1] 30 (0, 0)) (zb_ BK935.out)) : gb946 ≠ gb935))
                have n9_ := zA_ ((by rw [hg]; exact Nat.ne_of_lt (blk_lt (g := gb936) (o := .cells #[.int .i64 0, .string (⟨#[]⟩ : ByteArray), .int .i64 0] 41 (0, 0)) (zb_ BK936.out)) : gb936 ≠ gb946))
                have n10_ := zA_ ((by rw [hg]; exact Nat.ne_of_gt (blk_lt (g := gb936) (o := .cells #[.int .i64 0, .string (⟨#[]⟩ : ByteArray), .int .i64 0] 41 (0, 0)) (zb_ BK936.out)) : gb946 ≠ gb936))
                have n11_ := zA_ ((by rw [hg]; exact Nat.ne_of_lt (blk_lt (g := gb945) (o := .cells #[.int .i64 0, .string (⟨#[]⟩ : ByteArray), .int .i64 0] 41 (0, 0)) (zb_ BK945.out)) : gb945 ≠ gb946))
                have n12_ := zA_ ((by rw [hg]; exact Nat.ne_of_gt (blk_lt (g := gb945) (o := .cells #[.int .i64 0, .string (⟨#[]⟩ : ByteArray), .int .i64 0] 41 (0, 0)) (zb_ BK945.out)) : gb946 ≠ gb945))
                clear BK935 BK936 BK945 HB
                have BK935 := n0_
                have BK936 := n1_
                have BK945 := n2_
                have HB := n3_
                have BK946 := n4_
                have GW946 := n5_
                have GE946 := n6_
                have NB935_946 := n7_
                have NB946_935 := n8_
                have NB936_946 := n9_
                have NB946_936 := n10_
                have NB945_946 := n11_
                have NB946_945 := n12_
                clear n0_ n1_ n2_ n3_ n4_ n5_ n6_ n7_ n8_ n9_ n10_ n11_ n12_
                clear hb hbox hg
                refine hK.out _ _ ⟨(blk_cell BK935.out 0).trans rfl, (blk_cell BK935.out 1).trans rfl⟩ (fun hHeld => ?_)
                clear hK K
                refine norm_ (a' := ?_) ?_ ?_
                rotate_left
                ·
                 show Act.put _ (some 5) _ = _
                 simp only [Act.put, List.setIfInBounds_toArray, List.set_cons_zero, List.set_cons_succ, i64_w, i32_w]
                 rfl
                exact norm_ (by first | (simp only [putAll, Act.put, List.setIfInBounds_toArray, List.set_cons_zero, List.set_cons_succ]; done) | (simp only [putAll, Act.put, List.setIfInBounds_toArray, List.set_cons_zero, List.set_cons_succ]; rfl)) (hJ1_6_7 (gb945, gb946) _ ⟨hHeld, (zb_ BK935.out), (zb_ BK936.out), (zb_ BK945.out), (zb_ BK946.out), GW945.out, GE945.out, NB935_945.out, NB945_935.out, NB936_945.out, NB945_936.out, NB946_945.out, NB945_946.out, GW946.out, GE946.out, NB935_946.out, NB946_935.out, NB936_946.out, NB946_936.out, (zg4_ HB.out GE935.out GE936.out GE945.out GE946.out)⟩)
             ·
              skip
              rintro _ w12 ⟨hS_, h0_, h1_, h2_⟩
              have n0_ : Aside0 (w12.heap[gb935]? = some (.cells #[.slice A0_0 l0_0.length c0_0, .slice A0_1 l0_1.length c0_1] 30 (0, 0))) := ⟨h0_⟩
              have n1_ : Aside0 (w12.heap[gb936]? = some (.cells #[.int .i64 0, .string (⟨#[]⟩ : ByteArray), .int .i64 0] 41 (0, 0))) := ⟨h1_⟩
              have n2_ : Aside0 (Below w.heap.size w w12) := ⟨h2_⟩
              clear BK935 BK936 HB
              clear h0_ h1_ h2_
              have BK935 := n0_
              have BK936 := n1_
              have HB := n2_
              clear n0_ n1_ n2_
              have hHeld : w12.cell? ⟨gb935, 0, none⟩ = some (.slice A0_0 l0_0.length c0_0) ∧ w12.cell? ⟨gb935, 1, none⟩ = some (.slice A0_1 l0_1.length c0_1) := hS_
              refine norm_ (a' := ?_) ?_ ?_
              rotate_left
              ·
               simp only [putAll, Act.put, List.setIfInBounds_toArray, List.set_cons_zero, List.set_cons_succ]
               rfl
              refine three_ (i := 4) (j := 6) (k := 7) (Ni := some 10) (Nj := some 4) (Nk := some 5) #[true, true, true, true, true, false, false, false, false, false] #[true, true, true, true, false, false, true, false, false, false] #[true, true, true, true, false, false, false, true, false, false] rfl rfl rfl rfl rfl rfl (three_of HT_.out (by kernel_rfl)) (by decide) (by decide) (by decide) (fun K hK => ?_) (fun K hK => ?_) (fun K hK => ?_)
              ·
               skip
               refine goes_ Try.func88 (by kernel_rfl) rfl #[.agg #[.slice A0_0 l0_0.length c0_0, .slice A0_1 l0_1.length c0_1], .int .i64 1] (by rfl) rfl rfl zs_ ?_
               with_reducible refine (spec_l03Get.calls k _ _ l0_0 _ _ l0_1 1 t941 _ ?side1 ?side2 ?side3 ?side4 A4.out).mono ?_
               (case side1 => exact zc_ (Kd.C_below HR0_0.out HB.out))
               (case side2 => exact HC0_0.out)
               (case side3 => exact zc_ (Kd.C_below HR0_1.out HB.out))
               (case side4 => exact HC0_1.out)
               rintro e w13 ⟨rfl, hb⟩
               refine ⟨_, rfl, ?_⟩
               have n0_ := zA_ (blk_below (g := gb935) (o := .cells #[.slice A0_0 l0_0.length c0_0, .slice A0_1 l0_1.length c0_1] 30 (0, 0)) (zb_ BK935.out) hb)
               have n1_ := zA_ (blk_below (g := gb936) (o := .cells #[.int .i64 0, .string (⟨#[]⟩ : ByteArray), .int .i64 0] 41 (0, 0)) (zb_ BK936.out) hb)
               have n2_ := zA_ (below_step (zg2_ HB.out GE935.out GE936.out) hb)
               clear BK935 BK936 HB
               have BK935 := n0_
               have BK936 := n1_
               have HB := n2_
               clear n0_ n1_ n2_
               (try clear hb)
               (try clear hb2)
               (try clear hk)
               (try clear hi)
               refine hK.out _ _ ⟨(blk_cell BK935.out 0).trans rfl, (blk_cell BK935.out 1).trans rfl⟩ (fun hHeld => ?_)
               clear hK K
               refine norm_ (a' := ?_) ?_ ?_
               rotate_left
               ·
                show Act.put _ (some 10) _ = _
                simp only [Act.put, List.setIfInBounds_toArray, List.set_cons_zero, List.set_cons_succ, i64_w, i32_w]
                rfl
               exact norm_ (by first | (simp only [putAll, Act.put, List.setIfInBounds_toArray, List.set_cons_zero, List.set_cons_succ]; done) | (simp only [putAll, Act.put, List.setIfInBounds_toArray, List.set_cons_zero, List.set_cons_succ]; rfl)) (hJ1_2_4 () _ ⟨hHeld, (zb_ BK935.out), (zb_ BK936.out), (zg2_ HB.out GE935.out GE936.out)⟩)
              ·
               skip
               refine box_step ?hg (N := 4) ?hd (cs := #[.int .i64 0, .string (⟨#[]⟩ : ByteArray), .int .i64 0]) (t := 41) ?hr ?_; (case hd => rfl); (case hg => rfl); (case hr => first | (go_simp; done) | (go_simp; rfl))
               intro gb945 hg w13 hbox hb
               have n0_ := zA_ (blk_below (g := gb935) (o := .cells #[.slice A0_0 l0_0.length c0_0, .slice A0_1 l0_1.length c0_1] 30 (0, 0)) (zb_ BK935.out) hb)
               have n1_ := zA_ (blk_below (g := gb936) (o := .cells #[.int .i64 0, .string (⟨#[]⟩ : ByteArray), .int .i64 0] 41 (0, 0)) (zb_ BK936.out) hb)
               have n2_ := zA_ (below_step (zg2_ HB.out GE935.out GE936.out) hb)
               have n3_ := zA_ (hbox)
               have n4_ := zA_ ((by rw [hg]; exact (below_size (zg2_ HB.out GE935.out GE936.out)) : w.heap.size ≤ gb945))
               have n5_ := zA_ ((by rw [hg]; exact (below_size (zg2_ HB.out GE935.out GE936.out)) : w.heap.size ≤ gb945))
               have n6_ := zA_ ((by rw [hg]; exact Nat.ne_of_lt (blk_lt (g := gb935) (o := .cells #[.slice A0_0 l0_0.length c0_0, .slice A0_1 l0_1.length c0_1] 30 (0, 0)) (zb_ BK935.out)) : gb935 ≠ gb945))
               have n7_ := zA_ ((by rw [hg]; exact Nat.ne_of_gt (blk_lt (g := gb935) (o := .cells #[.slice A0_0 l0_0.length c0_0, .slice A0_1 l0_1.length c0_1] 30 (0, 0)) (zb_ BK935.out)) : gb945 ≠ gb935))
               have n8_ := zA_ ((by rw [hg]; exact Nat.ne_of_lt (blk_lt (g := gb936) (o := .cells #[.int .i64 0, .string (⟨#[]⟩ : ByteArray), .int .i64 0] 41 (0, 0)) (zb_ BK936.out)) : gb936 ≠ gb945))
               have n9_ := zA_ ((by rw [hg]; exact Nat.ne_of_gt (blk_lt (g := gb936) (o := .cells #[.int .i64 0, .string (⟨#[]⟩ : ByteArray), .int .i64 0] 41 (0, 0)) (zb_ BK936.out)) : gb945 ≠ gb936))
               clear BK935 BK936 HB
               have BK935 := n0_
               have BK936 := n1_
               have HB := n2_
               have BK945 := n3_
               have GW945 := n4_
               have GE945 := n5_
               have NB935_945 := n6_
               have NB945_935 := n7_
               have NB936_945 := n8_
               have NB945_936 := n9_
               clear n0_ n1_ n2_ n3_ n4_ n5_ n6_ n7_ n8_ n9_
               clear hb hbox hg
               refine hK.out _ _ ⟨(blk_cell BK935.out 0).trans rfl, (blk_cell BK935.out 1).trans rfl⟩ (fun hHeld => ?_)
               clear hK K
               refine norm_ (a' := ?_) ?_ ?_
               rotate_left
               ·
                show Act.put _ (some 4) _ = _
                simp only [Act.put, List.setIfInBounds_toArray, List.set_cons_zero, List.set_cons_succ, i64_w, i32_w]
                rfl
               exact norm_ (by first | (simp only [putAll, Act.put, List.setIfInBounds_toArray, List.set_cons_zero, List.set_cons_succ]; done) | (simp only [putAll, Act.put, List.setIfInBounds_toArray, List.set_cons_zero, List.set_cons_succ]; rfl)) (hJ1_2_6 (gb945) _ ⟨hHeld, (zb_ BK935.out), (zb_ BK936.out), (zb_ BK945.out), GW945.out, GE945.out, NB935_945.out, NB945_935.out, NB936_945.out, NB945_936.out, (zg3_ HB.out GE935.out GE936.out GE945.out)⟩)
              ·
               skip
               refine box_step ?hg (N := 5) ?hd (cs := #[.int .i64 0, .string (⟨#[]⟩ : ByteArray), .int .i64 0]) (t := 41) ?hr ?_; (case hd => rfl); (case hg => rfl); (case hr => first | (go_simp; done) | (go_simp; rfl))
               intro gb946 hg w13 hbox hb
               have n0_ := zA_ (blk_below (g := gb935) (o := .cells #[.slice A0_0 l0_0.length c0_0, .slice A0_1 l0_1.length c0_1] 30 (0, 0)) (zb_ BK935.out) hb)
               have n1_ := zA_ (blk_below (g := gb936) (o := .cells #[.int .i64 0, .string (⟨#[]⟩ : ByteArray), .int .i64 0] 41 (0, 0)) (zb_ BK936.out) hb)
               have n2_ := zA_ (below_step (zg2_ HB.out GE935.out GE936.out) hb)
               have n3_ := zA_ (hbox)
               have n4_ := zA_ ((by rw [hg]; exact (below_size (zg2_ HB.out GE935.out GE936.out)) : w.heap.size ≤ gb946))
               have n5_ := zA_ ((by rw [hg]; exact (below_size (zg2_ HB.out GE935.out GE936.out)) : w.heap.size ≤ gb946))
               have n6_ := zA_ ((by rw [hg]; exact Nat.ne_of_lt (blk_lt (g := gb935) (o := .cells #[.slice A0_0 l0_0.length c0_0, .slice A0_1 l0_1.length c0_1] 30 (0, 0)) (zb_ BK935.out)) : gb935 ≠ gb946))
               have n7_ := zA_ ((by rw [hg]; exact Nat.ne_of_gt (blk_lt (g := gb935) (o := .cells #[.slice A0_0 l0_0.length c0_0, .slice A0_1 l0_1.length c0_1] 30 (0, 0)) (zb_ BK935.out)) : gb946 ≠ gb935))
               have n8_ := zA_ ((by rw [hg]; exact Nat.ne_of_lt (blk_lt (g := gb936) (o := .cells #[.int .i64 0, .string (⟨#[]⟩ : ByteArray), .int .i64 0] 41 (0, 0)) (zb_ BK936.out)) : gb936 ≠ gb946))
               have n9_ := zA_ ((by rw [hg]; exact Nat.ne_of_gt (blk_lt (g := gb936) (o := .cells #[.int .i64 0, .string (⟨#[]⟩ : ByteArray), .int .i64 0] 41 (0, 0)) (zb_ BK936.out)) : gb946 ≠ gb936))
               clear BK935 BK936 HB
               have BK935 := n0_
               have BK936 := n1_
               have HB := n2_
               have BK946 := n3_
               have GW946 := n4_
               have GE946 := n5_
               have NB935_946 := n6_
               have NB946_935 := n7_
               have NB936_946 := n8_
               have NB946_936 := n9_
               clear n0_ n1_ n2_ n3_ n4_ n5_ n6_ n7_ n8_ n9_
               clear hb hbox hg
               refine hK.out _ _ ⟨(blk_cell BK935.out 0).trans rfl, (blk_cell BK935.out 1).trans rfl⟩ (fun hHeld => ?_)
               clear hK K
               refine norm_ (a' := ?_) ?_ ?_
               rotate_left
               ·
                show Act.put _ (some 5) _ = _
                simp only [Act.put, List.setIfInBounds_toArray, List.set_cons_zero, List.set_cons_succ, i64_w, i32_w]
                rfl
               exact norm_ (by first | (simp only [putAll, Act.put, List.setIfInBounds_toArray, List.set_cons_zero, List.set_cons_succ]; done) | (simp only [putAll, Act.put, List.setIfInBounds_toArray, List.set_cons_zero, List.set_cons_succ]; rfl)) (hJ1_2_7 (gb946) _ ⟨hHeld, (zb_ BK935.out), (zb_ BK936.out), (zb_ BK946.out), GW946.out, GE946.out, NB935_946.out, NB946_935.out, NB936_946.out, NB946_936.out, (zg3_ HB.out GE935.out GE936.out GE946.out)⟩)
            ·
             skip
             rintro ⟨gb945, gb946⟩ w13 ⟨hS_, h0_, h1_, h2_, h3_, h4_, h5_, h6_, h7_, h8_, h9_, h10_, h11_, h12_, h13_, h14_, h15_, h16_, h17_, h18_⟩
             have n0_ : Aside0 (w13.heap[gb935]? = some (.cells #[.slice A0_0 l0_0.length c0_0, .slice A0_1 l0_1.length c0_1] 30 (0, 0))) := ⟨h0_⟩
             have n1_ : Aside0 (w13.heap[gb936]? = some (.cells #[.int .i64 0, .string (⟨#[]⟩ : ByteArray), .int .i64 0] 41 (0, 0))) := ⟨h1_⟩
             have n2_ : Aside0 (w13.heap[gb945]? = some (.cells #[.int .i64 0, .string (⟨#[]⟩ : ByteArray), .int .i64 0] 41 (0, 0))) := ⟨h2_⟩
             have n3_ : Aside0 (w13.heap[gb946]? = some (.cells #[.int .i64 0, .string (⟨#[]⟩ : ByteArray), .int .i64 0] 41 (0, 0))) := ⟨h3_⟩
             have n4_ : Aside0 (w.heap.size ≤ gb945) := ⟨h4_⟩
             have n5_ : Aside0 (w.heap.size ≤ gb945) := ⟨h5_⟩
             have n6_ : Aside0 (gb935 ≠ gb945) := ⟨h6_⟩
             have n7_ : Aside0 (gb945 ≠ gb935) := ⟨h7_⟩
             have n8_ : Aside0 (gb936 ≠ gb945) := ⟨h8_⟩
             have n9_ : Aside0 (gb945 ≠ gb936) := ⟨h9_⟩
             have n10_ : Aside0 (gb946 ≠ gb945) := ⟨h10_⟩
             have n11_ : Aside0 (gb945 ≠ gb946) := ⟨h11_⟩
             have n12_ : Aside0 (w.heap.size ≤ gb946) := ⟨h12_⟩
             have n13_ : Aside0 (w.heap.size ≤ gb946) := ⟨h13_⟩
             have n14_ : Aside0 (gb935 ≠ gb946) := ⟨h14_⟩
             have n15_ : Aside0 (gb946 ≠ gb935) := ⟨h15_⟩
             have n16_ : Aside0 (gb936 ≠ gb946) := ⟨h16_⟩
             have n17_ : Aside0 (gb946 ≠ gb936) := ⟨h17_⟩
             have n18_ : Aside0 (Below w.heap.size w w13) := ⟨h18_⟩
             clear BK935 BK936 HB
             clear h0_ h1_ h2_ h3_ h4_ h5_ h6_ h7_ h8_ h9_ h10_ h11_ h12_ h13_ h14_ h15_ h16_ h17_ h18_
             have BK935 := n0_
             have BK936 := n1_
             have BK945 := n2_
             have BK946 := n3_
             have GW945 := n4_
             have GE945 := n5_
             have NB935_945 := n6_
             have NB945_935 := n7_
             have NB936_945 := n8_
             have NB945_936 := n9_
             have NB946_945 := n10_
             have NB945_946 := n11_
             have GW946 := n12_
             have GE946 := n13_
             have NB935_946 := n14_
             have NB946_935 := n15_
             have NB936_946 := n16_
             have NB946_936 := n17_
             have HB := n18_
             clear n0_ n1_ n2_ n3_ n4_ n5_ n6_ n7_ n8_ n9_ n10_ n11_ n12_ n13_ n14_ n15_ n16_ n17_ n18_
             have hHeld : w13.cell? ⟨gb935, 0, none⟩ = some (.slice A0_0 l0_0.length c0_0) ∧ w13.cell? ⟨gb935, 1, none⟩ = some (.slice A0_1 l0_1.length c0_1) := hS_
             refine norm_ (a' := ?_) ?_ ?_
             rotate_left
             ·
              simp only [putAll, Act.put, List.setIfInBounds_toArray, List.set_cons_zero, List.set_cons_succ]
              rfl
             refine one_ (i := 2) (N := some 8) #[true, true, true, true, false, false, true, true, false, false] rfl rfl (one_of HT_.out (by kernel_rfl)) (by decide) (fun K hK => ?_)
             refine goes_ Try.func25 (by kernel_rfl) rfl #[.string t937] (by rfl) rfl rfl zs_ ?_
             with_reducible refine (spec_MetaRead.calls k t937 t938 t939 t940 _ A3.out).mono ?_
             rintro e w14 ⟨rfl, hb⟩
             refine ⟨_, rfl, ?_⟩
             have n0_ := zA_ (blk_below (g := gb935) (o := .cells #[.slice A0_0 l0_0.length c0_0, .slice A0_1 l0_1.length c0_1] 30 (0, 0)) (zb_ BK935.out) hb)
             have n1_ := zA_ (blk_below (g := gb936) (o := .cells #[.int .i64 0, .string (⟨#[]⟩ : ByteArray), .int .i64 0] 41 (0, 0)) (zb_ BK936.out) hb)
             have n2_ := zA_ (blk_below (g := gb945) (o := .cells #[.int .i64 0, .string (⟨#[]⟩ : ByteArray), .int .i64 0] 41 (0, 0)) (zb_ BK945.out) hb)
             have n3_ := zA_ (blk_below (g := gb946) (o := .cells #[.int .i64 0, .string (⟨#[]⟩ : ByteArray), .int .i64 0] 41 (0, 0)) (zb_ BK946.out) hb)
             have n4_ := zA_ (below_step (zg4_ HB.out GE935.out GE936.out GE945.out GE946.out) hb)
             clear BK935 BK936 BK945 BK946 HB
             have BK935 := n0_
             have BK936 := n1_
             have BK945 := n2_
             have BK946 := n3_
             have HB := n4_
             clear n0_ n1_ n2_ n3_ n4_
             (try clear hb)
             (try clear hb2)
             (try clear hk)
             (try clear hi)
             refine hK.out _ _ ⟨(blk_cell BK935.out 0).trans rfl, (blk_cell BK935.out 1).trans rfl⟩ (fun hHeld => ?_)
             clear hK K
             refine norm_ (a' := ?_) ?_ ?_
             rotate_left
             ·
              show Act.put _ (some 8) _ = _
              simp only [Act.put, List.setIfInBounds_toArray, List.set_cons_zero, List.set_cons_succ, i64_w, i32_w]
              rfl
             exact norm_ (by first | (simp only [putAll, Act.put, List.setIfInBounds_toArray, List.set_cons_zero, List.set_cons_succ]; done) | (simp only [putAll, Act.put, List.setIfInBounds_toArray, List.set_cons_zero, List.set_cons_succ]; rfl)) (hJ1_2_6_7 (gb945, gb946) _ ⟨hHeld, (zb_ BK935.out), (zb_ BK936.out), (zb_ BK945.out), (zb_ BK946.out), GW945.out, GE945.out, NB935_945.out, NB945_935.out, NB936_945.out, NB945_936.out, NB946_945.out, NB945_946.out, GW946.out, GE946.out, NB935_946.out, NB946_935.out, NB936_946.out, NB946_936.out, (zg4_ HB.out GE935.out GE936.out GE945.out GE946.out)⟩)
           ·
            skip
            rintro gb946 w13 ⟨hS_, h0_, h1_, h2_, h3_, h4_, h5_, h6_, h7_, h8_, h9_⟩
            have n0_ : Aside0 (w13.heap[gb935]? = some (.cells #[.slice A0_0 l0_0.length c0_0, .slice A0_1 l0_1.length c0_1] 30 (0, 0))) := ⟨h0_⟩
            have n1_ : Aside0 (w13.heap[gb936]? = some (.cells #[.int .i64 0, .string (⟨#[]⟩ : ByteArray), .int .i64 0] 41 (0, 0))) := ⟨h1_⟩
            have n2_ : Aside0 (w13.heap[gb946]? = some (.cells #[.int .i64 0, .string (⟨#[]⟩ : ByteArray), .int .i64 0] 41 (0, 0))) := ⟨h2_⟩
            have n3_ : Aside0 (w.heap.size ≤ gb946) := ⟨h3_⟩
            have n4_ : Aside0 (w.heap.size ≤ gb946) := ⟨h4_⟩
            have n5_ : Aside0 (gb935 ≠ gb946) := ⟨h5_⟩
            have n6_ : Aside0 (gb946 ≠ gb935) := ⟨h6_⟩
            have n7_ : Aside0 (gb936 ≠ gb946) := ⟨h7_⟩
            have n8_ : Aside0 (gb946 ≠ gb936) := ⟨h8_⟩
            have n9_ : Aside0 (Below w.heap.size w w13) := ⟨h9_⟩
            clear BK935 BK936 HB
            clear h0_ h1_ h2_ h3_ h4_ h5_ h6_ h7_ h8_ h9_
            have BK935 := n0_
            have BK936 := n1_
            have BK946 := n2_
            have GW946 := n3_
            have GE946 := n4_
            have NB935_946 := n5_
            have NB946_935 := n6_
            have NB936_946 := n7_
            have NB946_936 := n8_
            have HB := n9_
            clear n0_ n1_ n2_ n3_ n4_ n5_ n6_ n7_ n8_ n9_
            have hHeld : w13.cell? ⟨gb935, 0, none⟩ = some (.slice A0_0 l0_0.length c0_0) ∧ w13.cell? ⟨gb935, 1, none⟩ = some (.slice A0_1 l0_1.length c0_1) := hS_
            refine norm_ (a' := ?_) ?_ ?_
            rotate_left
            ·
             simp only [putAll, Act.put, List.setIfInBounds_toArray, List.set_cons_zero, List.set_cons_succ]
             rfl
            refine two_ (i := 4) (j := 6) (Ni := some 10) (Nj := some 4) #[true, true, true, true, true, false, false, true, false, false] #[true, true, true, true, false, false, true, true, false, false] rfl rfl rfl rfl (two_of HT_.out (by kernel_rfl)) (by decide) (by decide) (fun K hK => ?_) (fun K hK => ?_)
            ·
             skip
             refine goes_ Try.func88 (by kernel_rfl) rfl #[.agg #[.slice A0_0 l0_0.length c0_0, .slice A0_1 l0_1.length c0_1], .int .i64 1] (by rfl) rfl rfl zs_ ?_
             with_reducible refine (spec_l03Get.calls k _ _ l0_0 _ _ l0_1 1 t941 _ ?side1 ?side2 ?side3 ?side4 A4.out).mono ?_
             (case side1 => exact zc_ (Kd.C_below HR0_0.out HB.out))
             (case side2 => exact HC0_0.out)
             (case side3 => exact zc_ (Kd.C_below HR0_1.out HB.out))
             (case side4 => exact HC0_1.out)
             rintro e w14 ⟨rfl, hb⟩
             refine ⟨_, rfl, ?_⟩
             have n0_ := zA_ (blk_below (g := gb935) (o := .cells #[.slice A0_0 l0_0.length c0_0, .slice A0_1 l0_1.length c0_1] 30 (0, 0)) (zb_ BK935.out) hb)
             have n1_ := zA_ (blk_below (g := gb936) (o := .cells #[.int .i64 0, .string (⟨#[]⟩ : ByteArray), .int .i64 0] 41 (0, 0)) (zb_ BK936.out) hb)
             have n2_ := zA_ (blk_below (g := gb946) (o := .cells #[.int .i64 0, .string (⟨#[]⟩ : ByteArray), .int .i64 0] 41 (0, 0)) (zb_ BK946.out) hb)
             have n3_ := zA_ (below_step (zg3_ HB.out GE935.out GE936.out GE946.out) hb)
             clear BK935 BK936 BK946 HB
             have BK935 := n0_
             have BK936 := n1_
             have BK946 := n2_
             have HB := n3_
             clear n0_ n1_ n2_ n3_
             (try clear hb)
             (try clear hb2)
             (try clear hk)
             (try clear hi)
             refine hK.out _ _ ⟨(blk_cell BK935.out 0).trans rfl, (blk_cell BK935.out 1).trans rfl⟩ (fun hHeld => ?_)
             clear hK K
             refine norm_ (a' := ?_) ?_ ?_
             rotate_left
             ·
              show Act.put _ (some 10) _ = _
              simp only [Act.put, List.setIfInBounds_toArray, List.set_cons_zero, List.set_cons_succ, i64_w, i32_w]
              rfl
             exact norm_ (by first | (simp only [putAll, Act.put, List.setIfInBounds_toArray, List.set_cons_zero, List.set_cons_succ]; done) | (simp only [putAll, Act.put, List.setIfInBounds_toArray, List.set_cons_zero, List.set_cons_succ]; rfl)) (hJ1_2_4_7 (gb946) _ ⟨hHeld, (zb_ BK935.out), (zb_ BK936.out), (zb_ BK946.out), GW946.out, GE946.out, NB935_946.out, NB946_935.out, NB936_946.out, NB946_936.out, (zg3_ HB.out GE935.out GE936.out GE946.out)⟩)
            ·
             skip
             refine box_step ?hg (N := 4) ?hd (cs := #[.int .i64 0, .string (⟨#[]⟩ : ByteArray), .int .i64 0]) (t := 41) ?hr ?_; (case hd => rfl); (case hg => rfl); (case hr => first | (go_simp; done) | (go_simp; rfl))
             intro gb945 hg w14 hbox hb
             have n0_ := zA_ (blk_below (g := gb935) (o := .cells #[.slice A0_0 l0_0.length c0_0, .slice A0_1 l0_1.length c0_1] 30 (0, 0)) (zb_ BK935.out) hb)
             have n1_ := zA_ (blk_below (g := gb936) (o := .cells #[.int .i64 0, .string (⟨#[]⟩ : ByteArray), .int .i64 0] 41 (0, 0)) (zb_ BK936.out) hb)
             have n2_ := zA_ (blk_below (g := gb946) (o := .cells #[.int .i64 0, .string (⟨#[]⟩ : ByteArray), .int .i64 0] 41 (0, 0)) (zb_ BK946.out) hb)
             have n3_ := zA_ (below_step (zg3_ HB.out GE935.out GE936.out GE946.out) hb)
             have n4_ := zA_ (hbox)
             have n5_ := zA_ ((by rw [hg]; exact (below_size (zg3_ HB.out GE935.out GE936.out GE946.out)) : w.heap.size ≤ gb945))
             have n6_ := zA_ ((by rw [hg]; exact (below_size (zg3_ HB.out GE935.out GE936.out GE946.out)) : w.heap.size ≤ gb945))
             have n7_ := zA_ ((by rw [hg]; exact Nat.ne_of_lt (blk_lt (g := gb935) (o := .cells #[.slice A0_0 l0_0.length c0_0, .slice A0_1 l0_1.length c0_1] 30 (0, 0)) (zb_ BK935.out)) : gb935 ≠ gb945))
             have n8_ := zA_ ((by rw [hg]; exact Nat.ne_of_gt (blk_lt (g := gb935) (o := .cells #[.slice A0_0 l0_0.length c0_0, .slice A0_1 l0_1.length c0_1] 30 (0, 0)) (zb_ BK935.out)) : gb945 ≠ gb935))
             have n9_ := zA_ ((by rw [hg]; exact Nat.ne_of_lt (blk_lt (g := gb936) (o := .cells #[.int .i64 0, .string (⟨#[]⟩ : ByteArray), .int .i64 0] 41 (0, 0)) (zb_ BK936.out)) : gb936 ≠ gb945))
             have n10_ := zA_ ((by rw [hg]; exact Nat.ne_of_gt (blk_lt (g := gb936) (o := .cells #[.int .i64 0, .string (⟨#[]⟩ : ByteArray), .int .i64 0] 41 (0, 0)) (zb_ BK936.out)) : gb945 ≠ gb936))
             have n11_ := zA_ ((by rw [hg]; exact Nat.ne_of_lt (blk_lt (g := gb946) (o := .cells #[.int .i64 0, .string (⟨#[]⟩ : ByteArray), .int .i64 0] 41 (0, 0)) (zb_ BK946.out)) : gb946 ≠ gb945))
             have n12_ := zA_ ((by rw [hg]; exact Nat.ne_of_gt (blk_lt (g := gb946) (o := .cells #[.int .i64 0, .string (⟨#[]⟩ : ByteArray), .int .i64 0] 41 (0, 0)) (zb_ BK946.out)) : gb945 ≠ gb946))
             clear BK935 BK936 BK946 HB
             have BK935 := n0_
             have BK936 := n1_
             have BK946 := n2_
             have HB := n3_
             have BK945 := n4_
             have GW945 := n5_
             have GE945 := n6_
             have NB935_945 := n7_
             have NB945_935 := n8_
             have NB936_945 := n9_
             have NB945_936 := n10_
             have NB946_945 := n11_
             have NB945_946 := n12_
             clear n0_ n1_ n2_ n3_ n4_ n5_ n6_ n7_ n8_ n9_ n10_ n11_ n12_
             clear hb hbox hg
             refine hK.out _ _ ⟨(blk_cell BK935.out 0).trans rfl, (blk_cell BK935.out 1).trans rfl⟩ (fun hHeld => ?_)
             clear hK K
             refine norm_ (a' := ?_) ?_ ?_
             rotate_left
             ·
              show Act.put _ (some 4) _ = _
              simp only [Act.put, List.setIfInBounds_toArray, List.set_cons_zero, List.set_cons_succ, i64_w, i32_w]
              rfl
             exact norm_ (by first | (simp only [putAll, Act.put, List.setIfInBounds_toArray, List.set_cons_zero, List.set_cons_succ]; done) | (simp only [putAll, Act.put, List.setIfInBounds_toArray, List.set_cons_zero, List.set_cons_succ]; rfl)) (hJ1_2_6_7 (gb945, gb946) _ ⟨hHeld, (zb_ BK935.out), (zb_ BK936.out), (zb_ BK945.out), (zb_ BK946.out), GW945.out, GE945.out, NB935_945.out, NB945_935.out, NB936_945.out, NB945_936.out, NB946_945.out, NB945_946.out, GW946.out, GE946.out, NB935_946.out, NB946_935.out, NB936_946.out, NB946_936.out, (zg4_ HB.out GE935.out GE936.out GE946.out GE945.out)⟩)
          ·
           skip
           rintro gb945 w13 ⟨hS_, h0_, h1_, h2_, h3_, h4_, h5_, h6_, h7_, h8_, h9_⟩
           have n0_ : Aside0 (w13.heap[gb935]? = some (.cells #[.slice A0_0 l0_0.length c0_0, .slice A0_1 l0_1.length c0_1] 30 (0, 0))) := ⟨h0_⟩
           have n1_ : Aside0 (w13.heap[gb936]? = some (.cells #[.int .i64 0, .string (⟨#[]⟩ : ByteArray), .int .i64 0] 41 (0, 0))) := ⟨h1_⟩
           have n2_ : Aside0 (w13.heap[gb945]? = some (.cells #[.int .i64 0, .string (⟨#[]⟩ : ByteArray), .int .i64 0] 41 (0, 0))) := ⟨h2_⟩
           have n3_ : Aside0 (w.heap.size ≤ gb945) := ⟨h3_⟩
           have n4_ : Aside0 (w.heap.size ≤ gb945) := ⟨h4_⟩
           have n5_ : Aside0 (gb935 ≠ gb945) := ⟨h5_⟩
           have n6_ : Aside0 (gb945 ≠ gb935) := ⟨h6_⟩
           have n7_ : Aside0 (gb936 ≠ gb945) := ⟨h7_⟩
           have n8_ : Aside0 (gb945 ≠ gb936) := ⟨h8_⟩
           have n9_ : Aside0 (Below w.heap.size w w13) := ⟨h9_⟩
           clear BK935 BK936 HB
           clear h0_ h1_ h2_ h3_ h4_ h5_ h6_ h7_ h8_ h9_
           have BK935 := n0_
           have BK936 := n1_
           have BK945 := n2_
           have GW945 := n3_
           have GE945 := n4_
           have NB935_945 := n5_
           have NB945_935 := n6_
           have NB936_945 := n7_
           have NB945_936 := n8_
           have HB := n9_
           clear n0_ n1_ n2_ n3_ n4_ n5_ n6_ n7_ n8_ n9_
           have hHeld : w13.cell? ⟨gb935, 0, none⟩ = some (.slice A0_0 l0_0.length c0_0) ∧ w13.cell? ⟨gb935, 1, none⟩ = some (.slice A0_1 l0_1.length c0_1) := hS_
           refine norm_ (a' := ?_) ?_ ?_
           rotate_left
           ·
            simp only [putAll, Act.put, List.setIfInBounds_toArray, List.set_cons_zero, List.set_cons_succ]
            rfl
           refine two_ (i := 4) (j := 7) (Ni := some 10) (Nj := some 5) #[true, true, true, true, true, false, true, false, false, false] #[true, true, true, true, false, false, true, true, false, false] rfl rfl rfl rfl (two_of HT_.out (by kernel_rfl)) (by decide) (by decide) (fun K hK => ?_) (fun K hK => ?_)
           ·
            skip
            refine goes_ Try.func88 (by kernel_rfl) rfl #[.agg #[.slice A0_0 l0_0.length c0_0, .slice A0_1 l0_1.length c0_1], .int .i64 1] (by rfl) rfl rfl zs_ ?_
            with_reducible refine (spec_l03Get.calls k _ _ l0_0 _ _ l0_1 1 t941 _ ?side1 ?side2 ?side3 ?side4 A4.out).mono ?_
            (case side1 => exact zc_ (Kd.C_below HR0_0.out HB.out))
            (case side2 => exact HC0_0.out)
            (case side3 => exact zc_ (Kd.C_below HR0_1.out HB.out))
            (case side4 => exact HC0_1.out)
            rintro e w14 ⟨rfl, hb⟩
            refine ⟨_, rfl, ?_⟩
            have n0_ := zA_ (blk_below (g := gb935) (o := .cells #[.slice A0_0 l0_0.length c0_0, .slice A0_1 l0_1.length c0_1] 30 (0, 0)) (zb_ BK935.out) hb)
            have n1_ := zA_ (blk_below (g := gb936) (o := .cells #[.int .i64 0, .string (⟨#[]⟩ : ByteArray), .int .i64 0] 41 (0, 0)) (zb_ BK936.out) hb)
            have n2_ := zA_ (blk_below (g := gb945) (o := .cells #[.int .i64 0, .string (⟨#[]⟩ : ByteArray), .int .i64 0] 41 (0, 0)) (zb_ BK945.out) hb)
            have n3_ := zA_ (below_step (zg3_ HB.out GE935.out GE936.out GE945.out) hb)
            clear BK935 BK936 BK945 HB
            have BK935 := n0_
            have BK936 := n1_
            have BK945 := n2_
            have HB := n3_
            clear n0_ n1_ n2_ n3_
            (try clear hb)
            (try clear hb2)
            (try clear hk)
            (try clear hi)
            refine hK.out _ _ ⟨(blk_cell BK935.out 0).trans rfl, (blk_cell BK935.out 1).trans rfl⟩ (fun hHeld => ?_)
            clear hK K
            refine norm_ (a' := ?_) ?_ ?_
            rotate_left
            ·
             show Act.put _ (some 10) _ = _
             simp only [Act.put, List.setIfInBounds_toArray, List.set_cons_zero, List.set_cons_succ, i64_w, i32_w]
             rfl
            exact norm_ (by first | (simp only [putAll, Act.put, List.setIfInBounds_toArray, List.set_cons_zero, List.set_cons_succ]; done) | (simp only [putAll, Act.put, List.setIfInBounds_toArray, List.set_cons_zero, List.set_cons_succ]; rfl)) (hJ1_2_4_6 (gb945) _ ⟨hHeld, (zb_ BK935.out), (zb_ BK936.out), (zb_ BK945.out), GW945.out, GE945.out, NB935_945.out, NB945_935.out, NB936_945.out, NB945_936.out, (zg3_ HB.out GE935.out GE936.out GE945.out)⟩)
           ·
            skip
            refine box_step ?hg (N := 5) ?hd (cs := #[.int .i64 0, .string (⟨#[]⟩ : ByteArray), .int .i64 0]) (t := 41) ?hr ?_; (case hd => rfl); (case hg => rfl); (case hr => first | (go_simp; done) | (go_simp; rfl))
            intro gb946 hg w14 hbox hb
            have n0_ := zA_ (blk_below (g := gb935) (o := .cells #[.slice A0_0 l0_0.length c0_0, .slice A0_1 l0_1.length c0_1] 30 (0, 0)) (zb_ BK935.out) hb)
            have n1_ := zA_ (blk_below (g := gb936) (o := .cells #[.int .i64 0, .string (⟨#[]⟩ : ByteArray), .int .i64 0] 41 (0, 0)) (zb_ BK936.out) hb)
            have n2_ := zA_ (blk_below (g := gb945) (o := .cells #[.int .i64 0, .string (⟨#[]⟩ : ByteArray), .int .i64 0] 41 (0, 0)) (zb_ BK945.out) hb)
            have n3_ := zA_ (below_step (zg3_ HB.out GE935.out GE936.out GE945.out) hb)
            have n4_ := zA_ (hbox)
            have n5_ := zA_ ((by rw [hg]; exact (below_size (zg3_ HB.out GE935.out GE936.out GE945.out)) : w.heap.size ≤ gb946))
            have n6_ := zA_ ((by rw [hg]; exact (below_size (zg3_ HB.out GE935.out GE936.out GE945.out)) : w.heap.size ≤ gb946))
            have n7_ := zA_ ((by rw [hg]; exact Nat.ne_of_lt (blk_lt (g := gb935) (o := .cells #[.slice A0_0 l0_0.length c0_0, .slice A0_1 l0_1.length c0_1] 30 (0, 0)) (zb_ BK935.out)) : gb935 ≠ gb946))
            have n8_ := zA_ ((by rw [hg]; exact Nat.ne_of_gt (blk_lt (g := gb935) (o := .cells #[.slice A0_0 l0_0.length c0_0, .slice A0_1 l0_1.length c0_1] 30 (0, 0)) (zb_ BK935.out)) : gb946 ≠ gb935))
            have n9_ := zA_ ((by rw [hg]; exact Nat.ne_of_lt (blk_lt (g := gb936) (o := .cells #[.int .i64 0, .string (⟨#[]⟩ : ByteArray), .int .i64 0] 41 (0, 0)) (zb_ BK936.out)) : gb936 ≠ gb946))
            have n10_ := zA_ ((by rw [hg]; exact Nat.ne_of_gt (blk_lt (g := gb936) (o := .cells #[.int .i64 0, .string (⟨#[]⟩ : ByteArray), .int .i64 0] 41 (0, 0)) (zb_ BK936.out)) : gb946 ≠ gb936))
            have n11_ := zA_ ((by rw [hg]; exact Nat.ne_of_lt (blk_lt (g := gb945) (o := .cells #[.int .i64 0, .string (⟨#[]⟩ : ByteArray), .int .i64 0] 41 (0, 0)) (zb_ BK945.out)) : gb945 ≠ gb946))
            have n12_ := zA_ ((by rw [hg]; exact Nat.ne_of_gt (blk_lt (g := gb945) (o := .cells #[.int .i64 0, .string (⟨#[]⟩ : ByteArray), .int .i64 0] 41 (0, 0)) (zb_ BK945.out)) : gb946 ≠ gb945))
            clear BK935 BK936 BK945 HB
            have BK935 := n0_
            have BK936 := n1_
            have BK945 := n2_
            have HB := n3_
            have BK946 := n4_
            have GW946 := n5_
            have GE946 := n6_
            have NB935_946 := n7_
            have NB946_935 := n8_
            have NB936_946 := n9_
            have NB946_936 := n10_
            have NB945_946 := n11_
            have NB946_945 := n12_
            clear n0_ n1_ n2_ n3_ n4_ n5_ n6_ n7_ n8_ n9_ n10_ n11_ n12_
            clear hb hbox hg
            refine hK.out _ _ ⟨(blk_cell BK935.out 0).trans rfl, (blk_cell BK935.out 1).trans rfl⟩ (fun hHeld => ?_)
            clear hK K
            refine norm_ (a' := ?_) ?_ ?_
            rotate_left
            ·
             show Act.put _ (some 5) _ = _
             simp only [Act.put, List.setIfInBounds_toArray, List.set_cons_zero, List.set_cons_succ, i64_w, i32_w]
             rfl
            exact norm_ (by first | (simp only [putAll, Act.put, List.setIfInBounds_toArray, List.set_cons_zero, List.set_cons_succ]; done) | (simp only [putAll, Act.put, List.setIfInBounds_toArray, List.set_cons_zero, List.set_cons_succ]; rfl)) (hJ1_2_6_7 (gb945, gb946) _ ⟨hHeld, (zb_ BK935.out), (zb_ BK936.out), (zb_ BK945.out), (zb_ BK946.out), GW945.out, GE945.out, NB935_945.out, NB945_935.out, NB936_945.out, NB945_936.out, NB946_945.out, NB945_946.out, GW946.out, GE946.out, NB935_946.out, NB946_935.out, NB936_946.out, NB946_936.out, (zg4_ HB.out GE935.out GE936.out GE945.out GE946.out)⟩)
         ·
          skip
          rintro _ w13 ⟨hS_, h0_, h1_, h2_⟩
          have n0_ : Aside0 (w13.heap[gb935]? = some (.cells #[.slice A0_0 l0_0.length c0_0, .slice A0_1 l0_1.length c0_1] 30 (0, 0))) := ⟨h0_⟩
          have n1_ : Aside0 (w13.heap[gb936]? = some (.cells #[.int .i64 0, .string (⟨#[]⟩ : ByteArray), .int .i64 0] 41 (0, 0))) := ⟨h1_⟩
          have n2_ : Aside0 (Below w.heap.size w w13) := ⟨h2_⟩
          clear BK935 BK936 HB
          clear h0_ h1_ h2_
          have BK935 := n0_
          have BK936 := n1_
          have HB := n2_
          clear n0_ n1_ n2_
          have hHeld : w13.cell? ⟨gb935, 0, none⟩ = some (.slice A0_0 l0_0.length c0_0) ∧ w13.cell? ⟨gb935, 1, none⟩ = some (.slice A0_1 l0_1.length c0_1) := hS_
          refine norm_ (a' := ?_) ?_ ?_
          rotate_left
          ·
           simp only [putAll, Act.put, List.setIfInBounds_toArray, List.set_cons_zero, List.set_cons_succ]
           rfl
          refine three_ (i := 5) (j := 6) (k := 7) (Ni := some 11) (Nj := some 4) (Nk := some 5) #[true, true, true, true, true, true, false, false, false, false] #[true, true, true, true, true, false, true, false, false, false] #[true, true, true, true, true, false, false, true, false, false] rfl rfl rfl rfl rfl rfl (three_of HT_.out (by kernel_rfl)) (by decide) (by decide) (by decide) (fun K hK => ?_) (fun K hK => ?_) (fun K hK => ?_)
          ·
           skip
           refine goes_ Try.func25 (by kernel_rfl) rfl #[.string t941] (by rfl) rfl rfl zs_ ?_
           with_reducible refine (spec_MetaRead.calls k t941 t942 t943 t944 _ A5.out).mono ?_
           rintro e w14 ⟨rfl, hb⟩
           refine ⟨_, rfl, ?_⟩
           have n0_ := zA_ (blk_below (g := gb935) (o := .cells #[.slice A0_0 l0_0.length c0_0, .slice A0_1 l0_1.length c0_1] 30 (0, 0)) (zb_ BK935.out) hb)
           have n1_ := zA_ (blk_below (g := gb936) (o := .cells #[.int .i64 0, .string (⟨#[]⟩ : ByteArray), .int .i64 0] 41 (0, 0)) (zb_ BK936.out) hb)
           have n2_ := zA_ (below_step (zg2_ HB.out GE935.out GE936.out) hb)
           clear BK935 BK936 HB
           have BK935 := n0_
           have BK936 := n1_
           have HB := n2_
           clear n0_ n1_ n2_
           (try clear hb)
           (try clear hb2)
           (try clear hk)
           (try clear hi)
           refine hK.out _ _ ⟨(blk_cell BK935.out 0).trans rfl, (blk_cell BK935.out 1).trans rfl⟩ (fun hHeld => ?_)
           clear hK K
           refine norm_ (a' := ?_) ?_ ?_
           rotate_left
           ·
            show Act.put _ (some 11) _ = _
            simp only [Act.put, List.setIfInBounds_toArray, List.set_cons_zero, List.set_cons_succ, i64_w, i32_w]
            rfl
           exact norm_ (by first | (simp only [putAll, Act.put, List.setIfInBounds_toArray, List.set_cons_zero, List.set_cons_succ]; done) | (simp only [putAll, Act.put, List.setIfInBounds_toArray, List.set_cons_zero, List.set_cons_succ]; rfl)) (hJ1_2_4_5 () _ ⟨hHeld, (zb_ BK935.out), (zb_ BK936.out), (zg2_ HB.out GE935.out GE936.out)⟩)
          ·
           skip
           refine box_step ?hg (N := 4) ?hd (cs := #[.int .i64 0, .string (⟨#[]⟩ : ByteArray), .int .i64 0]) (t := 41) ?hr ?_; (case hd => rfl); (case hg => rfl); (case hr => first | (go_simp; done) | (go_simp; rfl))
           intro gb945 hg w14 hbox hb
           have n0_ := zA_ (blk_below (g := gb935) (o := .cells #[.slice A0_0 l0_0.length c0_0, .slice A0_1 l0_1.length c0_1] 30 (0, 0)) (zb_ BK935.out) hb)
           have n1_ := zA_ (blk_below (g := gb936) (o := .cells #[.int .i64 0, .string (⟨#[]⟩ : ByteArray), .int .i64 0] 41 (0, 0)) (zb_ BK936.out) hb)
           have n2_ := zA_ (below_step (zg2_ HB.out GE935.out GE936.out) hb)
           have n3_ := zA_ (hbox)
           have n4_ := zA_ ((by rw [hg]; exact (below_size (zg2_ HB.out GE935.out GE936.out)) : w.heap.size ≤ gb945))
           have n5_ := zA_ ((by rw [hg]; exact (below_size (zg2_ HB.out GE935.out GE936.out)) : w.heap.size ≤ gb945))
           have n6_ := zA_ ((by rw [hg]; exact Nat.ne_of_lt (blk_lt (g := gb935) (o := .cells #[.slice A0_0 l0_0.length c0_0, .slice A0_1 l0_1.length c0_1] 30 (0, 0)) (zb_ BK935.out)) : gb935 ≠ gb945))
           have n7_ := zA_ ((by rw [hg]; exact Nat.ne_of_gt (blk_lt (g := gb935) (o := .cells #[.slice A0_0 l0_0.length c0_0, .slice A0_1 l0_1.length c0_1] 30 (0, 0)) (zb_ BK935.out)) : gb945 ≠ gb935))
           have n8_ := zA_ ((by rw [hg]; exact Nat.ne_of_lt (blk_lt (g := gb936) (o := .cells #[.int .i64 0, .string (⟨#[]⟩ : ByteArray), .int .i64 0] 41 (0, 0)) (zb_ BK936.out)) : gb936 ≠ gb945))
           have n9_ := zA_ ((by rw [hg]; exact Nat.ne_of_gt (blk_lt (g := gb936) (o := .cells #[.int .i64 0, .string (⟨#[]⟩ : ByteArray), .int .i64 0] 41 (0, 0)) (zb_ BK936.out)) : gb945 ≠ gb936))
           clear BK935 BK936 HB
           have BK935 := n0_
           have BK936 := n1_
           have HB := n2_
           have BK945 := n3_
           have GW945 := n4_
           have GE945 := n5_
           have NB935_945 := n6_
           have NB945_935 := n7_
           have NB936_945 := n8_
           have NB945_936 := n9_
           clear n0_ n1_ n2_ n3_ n4_ n5_ n6_ n7_ n8_ n9_
           clear hb hbox hg
           refine hK.out _ _ ⟨(blk_cell BK935.out 0).trans rfl, (blk_cell BK935.out 1).trans rfl⟩ (fun hHeld => ?_)
           clear hK K
           refine norm_ (a' := ?_) ?_ ?_
           rotate_left
           ·
            show Act.put _ (some 4) _ = _
            simp only [Act.put, List.setIfInBounds_toArray, List.set_cons_zero, List.set_cons_succ, i64_w, i32_w]
            rfl
           exact norm_ (by first | (simp only [putAll, Act.put, List.setIfInBounds_toArray, List.set_cons_zero, List.set_cons_succ]; done) | (simp only [putAll, Act.put, List.setIfInBounds_toArray, List.set_cons_zero, List.set_cons_succ]; rfl)) (hJ1_2_4_6 (gb945) _ ⟨hHeld, (zb_ BK935.out), (zb_ BK936.out), (zb_ BK945.out), GW945.out, GE945.out, NB935_945.out, NB945_935.out, NB936_945.out, NB945_936.out, (zg3_ HB.out GE935.out GE936.out GE945.out)⟩)
          ·
           skip
           refine box_step ?hg (N := 5) ?hd (cs := #[.int .i64 0, .string (⟨#[]⟩ : ByteArray), .int .i64 0]) (t := 41) ?hr ?_; (case hd => rfl); (case hg => rfl); (case hr => first | (go_simp; done) | (go_simp; rfl))
           intro gb946 hg w14 hbox hb
           have n0_ := zA_ (blk_below (g := gb935) (o := .cells #[.slice A0_0 l0_0.length c0_0, .slice A0_1 l0_1.length c0_1] 30 (0, 0)) (zb_ BK935.out) hb)
           have n1_ := zA_ (blk_below (g := gb936) (o := .cells #[.int .i64 0, .string (⟨#[]⟩ : ByteArray), .int .i64 0] 41 (0, 0)) (zb_ BK936.out) hb)
           have n2_ := zA_ (below_step (zg2_ HB.out GE935.out GE936.out) hb)
           have n3_ := zA_ (hbox)
           have n4_ := zA_ ((by rw [hg]; exact (below_size (zg2_ HB.out GE935.out GE936.out)) : w.heap.size ≤ gb946))
           have n5_ := zA_ ((by rw [hg]; exact (below_size (zg2_ HB.out GE935.out GE936.out)) : w.heap.size ≤ gb946))
           have n6_ := zA_ ((by rw [hg]; exact Nat.ne_of_lt (blk_lt (g := gb935) (o := .cells #[.slice A0_0 l0_0.length c0_0, .slice A0_1 l0_1.length c0_1] 30 (0, 0)) (zb_ BK935.out)) : gb935 ≠ gb946))
           have n7_ := zA_ ((by rw [hg]; exact Nat.ne_of_gt (blk_lt (g := gb935) (o := .cells #[.slice A0_0 l0_0.length c0_0, .slice A0_1 l0_1.length c0_1] 30 (0, 0)) (zb_ BK935.out)) : gb946 ≠ gb935))
           have n8_ := zA_ ((by rw [hg]; exact Nat.ne_of_lt (blk_lt (g := gb936) (o := .cells #[.int .i64 0, .string (⟨#[]⟩ : ByteArray), .int .i64 0] 41 (0, 0)) (zb_ BK936.out)) : gb936 ≠ gb946))
           have n9_ := zA_ ((by rw [hg]; exact Nat.ne_of_gt (blk_lt (g := gb936) (o := .cells #[.int .i64 0, .string (⟨#[]⟩ : ByteArray), .int .i64 0] 41 (0, 0)) (zb_ BK936.out)) : gb946 ≠ gb936))
           clear BK935 BK936 HB
           have BK935 := n0_
           have BK936 := n1_
           have HB := n2_
           have BK946 := n3_
           have GW946 := n4_
           have GE946 := n5_
           have NB935_946 := n6_
           have NB946_935 := n7_
           have NB936_946 := n8_
           have NB946_936 := n9_
           clear n0_ n1_ n2_ n3_ n4_ n5_ n6_ n7_ n8_ n9_
           clear hb hbox hg
           refine hK.out _ _ ⟨(blk_cell BK935.out 0).trans rfl, (blk_cell BK935.out 1).trans rfl⟩ (fun hHeld => ?_)
           clear hK K
           refine norm_ (a' := ?_) ?_ ?_
           rotate_left
           ·
            show Act.put _ (some 5) _ = _
            simp only [Act.put, List.setIfInBounds_toArray, List.set_cons_zero, List.set_cons_succ, i64_w, i32_w]
            rfl
           exact norm_ (by first | (simp only [putAll, Act.put, List.setIfInBounds_toArray, List.set_cons_zero, List.set_cons_succ]; done) | (simp only [putAll, Act.put, List.setIfInBounds_toArray, List.set_cons_zero, List.set_cons_succ]; rfl)) (hJ1_2_4_7 (gb946) _ ⟨hHeld, (zb_ BK935.out), (zb_ BK936.out), (zb_ BK946.out), GW946.out, GE946.out, NB935_946.out, NB946_935.out, NB936_946.out, NB946_936.out, (zg3_ HB.out GE935.out GE936.out GE946.out)⟩)
        ·
         skip
         rintro ⟨gb945, gb946⟩ w14 ⟨hS_, h0_, h1_, h2_, h3_, h4_, h5_, h6_, h7_, h8_, h9_, h10_, h11_, h12_, h13_, h14_, h15_, h16_, h17_, h18_⟩
         have n0_ : Aside0 (w14.heap[gb935]? = some (.cells #[.slice A0_0 l0_0.length c0_0, .slice A0_1 l0_1.length c0_1] 30 (0, 0))) := ⟨h0_⟩
         have n1_ : Aside0 (w14.heap[gb936]? = some (.cells #[.int .i64 0, .string (⟨#[]⟩ : ByteArray), .int .i64 0] 41 (0, 0))) := ⟨h1_⟩
         have n2_ : Aside0 (w14.heap[gb945]? = some (.cells #[.int .i64 0, .string (⟨#[]⟩ : ByteArray), .int .i64 0] 41 (0, 0))) := ⟨h2_⟩
         have n3_ : Aside0 (w14.heap[gb946]? = some (.cells #[.int .i64 0, .string (⟨#[]⟩ : ByteArray), .int .i64 0] 41 (0, 0))) := ⟨h3_⟩
         have n4_ : Aside0 (w.heap.size ≤ gb945) := ⟨h4_⟩
         have n5_ : Aside0 (w.heap.size ≤ gb945) := ⟨h5_⟩
         have n6_ : Aside0 (gb935 ≠ gb945) := ⟨h6_⟩
         have n7_ : Aside0 (gb945 ≠ gb935) := ⟨h7_⟩
         have n8_ : Aside0 (gb936 ≠ gb945) := ⟨h8_⟩
         have n9_ : Aside0 (gb945 ≠ gb936) := ⟨h9_⟩
         have n10_ : Aside0 (gb946 ≠ gb945) := ⟨h10_⟩
         have n11_ : Aside0 (gb945 ≠ gb946) := ⟨h11_⟩
         have n12_ : Aside0 (w.heap.size ≤ gb946) := ⟨h12_⟩
         have n13_ : Aside0 (w.heap.size ≤ gb946) := ⟨h13_⟩
         have n14_ : Aside0 (gb935 ≠ gb946) := ⟨h14_⟩
         have n15_ : Aside0 (gb946 ≠ gb935) := ⟨h15_⟩
         have n16_ : Aside0 (gb936 ≠ gb946) := ⟨h16_⟩
         have n17_ : Aside0 (gb946 ≠ gb936) := ⟨h17_⟩
         have n18_ : Aside0 (Below w.heap.size w w14) := ⟨h18_⟩
         clear BK935 BK936 HB
         clear h0_ h1_ h2_ h3_ h4_ h5_ h6_ h7_ h8_ h9_ h10_ h11_ h12_ h13_ h14_ h15_ h16_ h17_ h18_
         have BK935 := n0_
         have BK936 := n1_
         have BK945 := n2_
         have BK946 := n3_
         have GW945 := n4_
         have GE945 := n5_
         have NB935_945 := n6_
         have NB945_935 := n7_
         have NB936_945 := n8_
         have NB945_936 := n9_
         have NB946_945 := n10_
         have NB945_946 := n11_
         have GW946 := n12_
         have GE946 := n13_
         have NB935_946 := n14_
         have NB946_935 := n15_
         have NB936_946 := n16_
         have NB946_936 := n17_
         have HB := n18_
         clear n0_ n1_ n2_ n3_ n4_ n5_ n6_ n7_ n8_ n9_ n10_ n11_ n12_ n13_ n14_ n15_ n16_ n17_ n18_
         have hHeld : w14.cell? ⟨gb935, 0, none⟩ = some (.slice A0_0 l0_0.length c0_0) ∧ w14.cell? ⟨gb935, 1, none⟩ = some (.slice A0_1 l0_1.length c0_1) := hS_
         refine norm_ (a' := ?_) ?_ ?_
         rotate_left
         ·
          simp only [putAll, Act.put, List.setIfInBounds_toArray, List.set_cons_zero, List.set_cons_succ]
          rfl
         refine one_ (i := 4) (N := some 10) #[true, true, true, true, true, false, true, true, false, false] rfl rfl (one_of HT_.out (by kernel_rfl)) (by decide) (fun K hK => ?_)
         refine goes_ Try.func88 (by kernel_rfl) rfl #[.agg #[.slice A0_0 l0_0.length c0_0, .slice A0_1 l0_1.length c0_1], .int .i64 1] (by rfl) rfl rfl zs_ ?_
         with_reducible refine (spec_l03Get.calls k _ _ l0_0 _ _ l0_1 1 t941 _ ?side1 ?side2 ?side3 ?side4 A4.out).mono ?_
         (case side1 => exact zc_ (Kd.C_below HR0_0.out HB.out))
         (case side2 => exact HC0_0.out)
         (case side3 => exact zc_ (Kd.C_below HR0_1.out HB.out))
         (case side4 => exact HC0_1.out)
         rintro e w15 ⟨rfl, hb⟩
         refine ⟨_, rfl, ?_⟩
         have n0_ := zA_ (blk_below (g := gb935) (o := .cells #[.slice A0_0 l0_0.length c0_0, .slice A0_1 l0_1.length c0_1] 30 (0, 0)) (zb_ BK935.out) hb)
         have n1_ := zA_ (blk_below (g := gb936) (o := .cells #[.int .i64 0, .string (⟨#[]⟩ : ByteArray), .int .i64 0] 41 (0, 0)) (zb_ BK936.out) hb)
         have n2_ := zA_ (blk_below (g := gb945) (o := .cells #[.int .i64 0, .string (⟨#[]⟩ : ByteArray), .int .i64 0] 41 (0, 0)) (zb_ BK945.out) hb)
         have n3_ := zA_ (blk_below (g := gb946) (o := .cells #[.int .i64 0, .string (⟨#[]⟩ : ByteArray), .int .i64 0] 41 (0, 0)) (zb_ BK946.out) hb)
         have n4_ := zA_ (below_step (zg4_ HB.out GE935.out GE936.out GE945.out GE946.out) hb)
         clear BK935 BK936 BK945 BK946 HB
         have BK935 := n0_
         have BK936 := n1_
         have BK945 := n2_
         have BK946 := n3_
         have HB := n4_
         clear n0_ n1_ n2_ n3_ n4_
         (try clear hb)
         (try clear hb2)
         (try clear hk)
         (try clear hi)
         refine hK.out _ _ ⟨(blk_cell BK935.out 0).trans rfl, (blk_cell BK935.out 1).trans rfl⟩ (fun hHeld => ?_)
         clear hK K
         refine norm_ (a' := ?_) ?_ ?_
         rotate_left
         ·
          show Act.put _ (some 10) _ = _
          simp only [Act.put, List.setIfInBounds_toArray, List.set_cons_zero, List.set_cons_succ, i64_w, i32_w]
          rfl
         exact norm_ (by first | (simp only [putAll, Act.put, List.setIfInBounds_toArray, List.set_cons_zero, List.set_cons_succ]; done) | (simp only [putAll, Act.put, List.setIfInBounds_toArray, List.set_cons_zero, List.set_cons_succ]; rfl)) (hJ1_2_4_6_7 (gb945, gb946) _ ⟨hHeld, (zb_ BK935.out), (zb_ BK936.out), (zb_ BK945.out), (zb_ BK946.out), GW945.out, GE945.out, NB935_945.out, NB945_935.out, NB936_945.out, NB945_936.out, NB946_945.out, NB945_946.out, GW946.out, GE946.out, NB935_946.out, NB946_935.out, NB936_946.out, NB946_936.out, (zg4_ HB.out GE935.out GE936.out GE945.out GE946.out)⟩)
       ·
        skip
        rintro gb946 w14 ⟨hS_, h0_, h1_, h2_, h3_, h4_, h5_, h6_, h7_, h8_, h9_⟩
        have n0_ : Aside0 (w14.heap[gb935]? = some (.cells #[.slice A0_0 l0_0.length c0_0, .slice A0_1 l0_1.length c0_1] 30 (0, 0))) := ⟨h0_⟩
        have n1_ : Aside0 (w14.heap[gb936]? = some (.cells #[.int .i64 0, .string (⟨#[]⟩ : ByteArray), .int .i64 0] 41 (0, 0))) := ⟨h1_⟩
        have n2_ : Aside0 (w14.heap[gb946]? = some (.cells #[.int .i64 0, .string (⟨#[]⟩ : ByteArray), .int .i64 0] 41 (0, 0))) := ⟨h2_⟩
        have n3_ : Aside0 (w.heap.size ≤ gb946) := ⟨h3_⟩
        have n4_ : Aside0 (w.heap.size ≤ gb946) := ⟨h4_⟩
        have n5_ : Aside0 (gb935 ≠ gb946) := ⟨h5_⟩
        have n6_ : Aside0 (gb946 ≠ gb935) := ⟨h6_⟩
        have n7_ : Aside0 (gb936 ≠ gb946) := ⟨h7_⟩
        have n8_ : Aside0 (gb946 ≠ gb936) := ⟨h8_⟩
        have n9_ : Aside0 (Below w.heap.size w w14) := ⟨h9_⟩
        clear BK935 BK936 HB
        clear h0_ h1_ h2_ h3_ h4_ h5_ h6_ h7_ h8_ h9_
        have BK935 := n0_
        have BK936 := n1_
        have BK946 := n2_
        have GW946 := n3_
        have GE946 := n4_
        have NB935_946 := n5_
        have NB946_935 := n6_
        have NB936_946 := n7_
        have NB946_936 := n8_
        have HB := n9_
        clear n0_ n1_ n2_ n3_ n4_ n5_ n6_ n7_ n8_ n9_
        have hHeld : w14.cell? ⟨gb935, 0, none⟩ = some (.slice A0_0 l0_0.length c0_0) ∧ w14.cell? ⟨gb935, 1, none⟩ = some (.slice A0_1 l0_1.length c0_1) := hS_
        refine norm_ (a' := ?_) ?_ ?_
        rotate_left
        ·
         simp only [putAll, Act.put, List.setIfInBounds_toArray, List.set_cons_zero, List.set_cons_succ]
         rfl
        refine two_ (i := 5) (j := 6) (Ni := some 11) (Nj := some 4) #[true, true, true, true, true, true, false, true, false, false] #[true, true, true, true, true, false, true, true, false, false] rfl rfl rfl rfl (two_of HT_.out (by kernel_rfl)) (by decide) (by decide) (fun K hK => ?_) (fun K hK => ?_)
        ·
         skip
         refine goes_ Try.func25 (by kernel_rfl) rfl #[.string t941] (by rfl) rfl rfl zs_ ?_
         with_reducible refine (spec_MetaRead.calls k t941 t942 t943 t944 _ A5.out).mono ?_
         rintro e w15 ⟨rfl, hb⟩
         refine ⟨_, rfl, ?_⟩
         have n0_ := zA_ (blk_below (g := gb935) (o := .cells #[.slice A0_0 l0_0.length c0_0, .slice A0_1 l0_1.length c0_1] 30 (0, 0)) (zb_ BK935.out) hb)
         have n1_ := zA_ (blk_below (g := gb936) (o := .cells #[.int .i64 0, .string (⟨#[]⟩ : ByteArray), .int .i64 0] 41 (0, 0)) (zb_ BK936.out) hb)
         have n2_ := zA_ (blk_below (g := gb946) (o := .cells #[.int .i64 0, .string (⟨#[]⟩ : ByteArray), .int .i64 0] 41 (0, 0)) (zb_ BK946.out) hb)
         have n3_ := zA_ (below_step (zg3_ HB.out GE935.out GE936.out GE946.out) hb)
         clear BK935 BK936 BK946 HB
         have BK935 := n0_
         have BK936 := n1_
         have BK946 := n2_
         have HB := n3_
         clear n0_ n1_ n2_ n3_
         (try clear hb)
         (try clear hb2)
         (try clear hk)
         (try clear hi)
         refine hK.out _ _ ⟨(blk_cell BK935.out 0).trans rfl, (blk_cell BK935.out 1).trans rfl⟩ (fun hHeld => ?_)
         clear hK K
         refine norm_ (a' := ?_) ?_ ?_
         rotate_left
         ·
          show Act.put _ (some 11) _ = _
          simp only [Act.put, List.setIfInBounds_toArray, List.set_cons_zero, List.set_cons_succ, i64_w, i32_w]
          rfl
         exact norm_ (by first | (simp only [putAll, Act.put, List.setIfInBounds_toArray, List.set_cons_zero, List.set_cons_succ]; done) | (simp only [putAll, Act.put, List.setIfInBounds_toArray, List.set_cons_zero, List.set_cons_succ]; rfl)) (hJ1_2_4_5_7 (gb946) _ ⟨hHeld, (zb_ BK935.out), (zb_ BK936.out), (zb_ BK946.out), GW946.out, GE946.out, NB935_946.out, NB946_935.out, NB936_946.out, NB946_936.out, (zg3_ HB.out GE935.out GE936.out GE946.out)⟩)
        ·
         skip
         refine box_step ?hg (N := 4) ?hd (cs := #[.int .i64 0, .string (⟨#[]⟩ : ByteArray), .int .i64 0]) (t := 41) ?hr ?_; (case hd => rfl); (case hg => rfl); (case hr => first | (go_simp; done) | (go_simp; rfl))
         intro gb945 hg w15 hbox hb
         have n0_ := zA_ (blk_below (g := gb935) (o := .cells #[.slice A0_0 l0_0.length c0_0, .slice A0_1 l0_1.length c0_1] 30 (0, 0)) (zb_ BK935.out) hb)
         have n1_ := zA_ (blk_below (g := gb936) (o := .cells #[.int .i64 0, .string (⟨#[]⟩ : ByteArray), .int .i64 0] 41 (0, 0)) (zb_ BK936.out) hb)
         have n2_ := zA_ (blk_below (g := gb946) (o := .cells #[.int .i64 0, .string (⟨#[]⟩ : ByteArray), .int .i64 0] 41 (0, 0)) (zb_ BK946.out) hb)
         have n3_ := zA_ (below_step (zg3_ HB.out GE935.out GE936.out GE946.out) hb)
         have n4_ := zA_ (hbox)
         have n5_ := zA_ ((by rw [hg]; exact (below_size (zg3_ HB.out GE935.out GE936.out GE946.out)) : w.heap.size ≤ gb945))
         have n6_ := zA_ ((by rw [hg]; exact (below_size (zg3_ HB.out GE935.out GE936.out GE946.out)) : w.heap.size ≤ gb945))
         have n7_ := zA_ ((by rw [hg]; exact Nat.ne_of_lt (blk_lt (g := gb935) (o := .cells #[.slice A0_0 l0_0.length c0_0, .slice A0_1 l0_1.length c0_1] 30 (0, 0)) (zb_ BK935.out)) : gb935 ≠ gb945))
         have n8_ := zA_ ((by rw [hg]; exact Nat.ne_of_gt (blk_lt (g := gb935) (o := .cells #[.slice A0_0 l0_0.length c0_0, .slice A0_1 l0_1.length c0_1] 30 (0, 0)) (zb_ BK935.out)) : gb945 ≠ gb935))
         have n9_ := zA_ ((by rw [hg]; exact Nat.ne_of_lt (blk_lt (g := gb936) (o := .cells #[.int .i64 0, .string (⟨#[]⟩ : ByteArray), .int .i64 0] 41 (0, 0)) (zb_ BK936.out)) : gb936 ≠ gb945))
         have n10_ := zA_ ((by rw [hg]; exact Nat.ne_of_gt (blk_lt (g := gb936) (o := .cells #[.int .i64 0, .string (⟨#[]⟩ : ByteArray), .int .i64 0] 41 (0, 0)) (zb_ BK936.out)) : gb945 ≠ gb936))
         have n11_ := zA_ ((by rw [hg]; exact Nat.ne_of_lt (blk_lt (g := gb946) (o := .cells #[.int .i64 0, .string (⟨#[]⟩ : ByteArray), .int .i64 0] 41 (0, 0)) (zb_ BK946.out)) : gb946 ≠ gb945))
         have n12_ := zA_ ((by rw [hg]; exact Nat.ne_of_gt (blk_lt (g := gb946) (o := .cells #[.int .i64 0, .string (⟨#[]⟩ : ByteArray), .int .i64 0] 41 (0, 0)) (zb_ BK946.out)) : gb945 ≠ gb946))
         clear BK935 BK936 BK946 HB
         have BK935 := n0_
         have BK936 := n1_
         have BK946 := n2_
         have HB := n3_
         have BK945 := n4_
         have GW945 := n5_
         have GE945 := n6_
         have NB935_945 := n7_
         have NB945_935 := n8_
         have NB936_945 := n9_
         have NB945_936 := n10_
         have NB946_945 := n11_
         have NB945_946 := n12_
         clear n0_ n1_ n2_ n3_ n4_ n5_ n6_ n7_ n8_ n9_ n10_ n11_ n12_
         clear hb hbox hg
         refine hK.out _ _ ⟨(blk_cell BK935.out 0).trans rfl, (blk_cell BK935.out 1).trans rfl⟩ (fun hHeld => ?_)
         clear hK K
         refine norm_ (a' := ?_) ?_ ?_
         rotate_left
         ·
          show Act.put _ (some 4) _ = _
          simp only [Act.put, List.setIfInBounds_toArray, List.set_cons_zero, List.set_cons_succ, i64_w, i32_w]
          rfl
         exact norm_ (by first | (simp only [putAll, Act.put, List.setIfInBounds_toArray, List.set_cons_zero, List.set_cons_succ]; done) | (simp only [putAll, Act.put, List.setIfInBounds_toArray, List.set_cons_zero, List.set_cons_succ]; rfl)) (hJ1_2_4_6_7 (gb945, gb946) _ ⟨hHeld, (zb_ BK935.out), (zb_ BK936.out), (zb_ BK945.out), (zb_ BK946.out), GW945.out, GE945.out, NB935_945.out, NB945_935.out, NB936_945.out, NB945_936.out, NB946_945.out, NB945_946.out, GW946.out, GE946.out, NB935_946.out, NB946_935.out, NB936_946.out, NB946_936.out, (zg4_ HB.out GE935.out GE936.out GE946.out GE945.out)⟩)
      ·
       skip
       rintro gb945 w14 ⟨hS_, h0_, h1_, h2_, h3_, h4_, h5_, h6_, h7_, h8_, h9_⟩
       have n0_ : Aside0 (w14.heap[gb935]? = some (.cells #[.slice A0_0 l0_0.length c0_0, .slice A0_1 l0_1.length c0_1] 30 (0, 0))) := ⟨h0_⟩
       have n1_ : Aside0 (w14.heap[gb936]? = some (.cells #[.int .i64 0, .string (⟨#[]⟩ : ByteArray), .int .i64 0] 41 (0, 0))) := ⟨h1_⟩
       have n2_ : Aside0 (w14.heap[gb945]? = some (.cells #[.int .i64 0, .string (⟨#[]⟩ : ByteArray), .int .i64 0] 41 (0, 0))) := ⟨h2_⟩
       have n3_ : Aside0 (w.heap.size ≤ gb945) := ⟨h3_⟩
       have n4_ : Aside0 (w.heap.size ≤ gb945) := ⟨h4_⟩
       have n5_ : Aside0 (gb935 ≠ gb945) := ⟨h5_⟩
       have n6_ : Aside0 (gb945 ≠ gb935) := ⟨h6_⟩
       have n7_ : Aside0 (gb936 ≠ gb945) := ⟨h7_⟩
       have n8_ : Aside0 (gb945 ≠ gb936) := ⟨h8_⟩
       have n9_ : Aside0 (Below w.heap.size w w14) := ⟨h9_⟩
       clear BK935 BK936 HB
       clear h0_ h1_ h2_ h3_ h4_ h5_ h6_ h7_ h8_ h9_
       have BK935 := n0_
       have BK936 := n1_
       have BK945 := n2_
       have GW945 := n3_
       have GE945 := n4_
       have NB935_945 := n5_
       have NB945_935 := n6_
       have NB936_945 := n7_
       have NB945_936 := n8_
       have HB := n9_
       clear n0_ n1_ n2_ n3_ n4_ n5_ n6_ n7_ n8_ n9_
       have hHeld : w14.cell? ⟨gb935, 0, none⟩ = some (.slice A0_0 l0_0.length c0_0) ∧ w14.cell? ⟨gb935, 1, none⟩ = some (.slice A0_1 l0_1.length c0_1) := hS_
       refine norm_ (a' := ?_) ?_ ?_
       rotate_left
       ·
        simp only [putAll, Act.put, List.setIfInBounds_toArray, List.set_cons_zero, List.set_cons_succ]
        rfl
       refine two_ (i := 5) (j := 7) (Ni := some 11) (Nj := some 5) #[true, true, true, true, true, true, true, false, false, false] #[true, true, true, true, true, false, true, true, false, false] rfl rfl rfl rfl (two_of HT_.out (by kernel_rfl)) (by decide) (by decide) (fun K hK => ?_) (fun K hK => ?_)
       ·
        skip
        refine goes_ Try.func25 (by kernel_rfl) rfl #[.string t941] (by rfl) rfl rfl zs_ ?_
        with_reducible refine (spec_MetaRead.calls k t941 t942 t943 t944 _ A5.out).mono ?_
        rintro e w15 ⟨rfl, hb⟩
        refine ⟨_, rfl, ?_⟩
        have n0_ := zA_ (blk_below (g := gb935) (o := .cells #[.slice A0_0 l0_0.length c0_0, .slice A0_1 l0_1.length c0_1] 30 (0, 0)) (zb_ BK935.out) hb)
        have n1_ := zA_ (blk_below (g := gb936) (o := .cells #[.int .i64 0, .string (⟨#[]⟩ : ByteArray), .int .i64 0] 41 (0, 0)) (zb_ BK936.out) hb)
        have n2_ := zA_ (blk_below (g := gb945) (o := .cells #[.int .i64 0, .string (⟨#[]⟩ : ByteArray), .int .i64 0] 41 (0, 0)) (zb_ BK945.out) hb)
        have n3_ := zA_ (below_step (zg3_ HB.out GE935.out GE936.out GE945.out) hb)
        clear BK935 BK936 BK945 HB
        have BK935 := n0_
        have BK936 := n1_
        have BK945 := n2_
        have HB := n3_
        clear n0_ n1_ n2_ n3_
        (try clear hb)
        (try clear hb2)
        (try clear hk)
        (try clear hi)
        refine hK.out _ _ ⟨(blk_cell BK935.out 0).trans rfl, (blk_cell BK935.out 1).trans rfl⟩ (fun hHeld => ?_)
        clear hK K
        refine norm_ (a' := ?_) ?_ ?_
        rotate_left
        ·
         show Act.put _ (some 11) _ = _
         simp only [Act.put, List.setIfInBounds_toArray, List.set_cons_zero, List.set_cons_succ, i64_w, i32_w]
         rfl
        exact norm_ (by first | (simp only [putAll, Act.put, List.setIfInBounds_toArray, List.set_cons_zero, List.set_cons_succ]; done) | (simp only [putAll, Act.put, List.setIfInBounds_toArray, List.set_cons_zero, List.set_cons_succ]; rfl)) (hJ1_2_4_5_6 (gb945) _ ⟨hHeld, (zb_ BK935.out), (zb_ BK936.out), (zb_ BK945.out), GW945.out, GE945.out, NB935_945.out, NB945_935.out, NB936_945.out, NB945_936.out, (zg3_ HB.out GE935.out GE936.out GE945.out)⟩)
       ·
        skip
        refine box_step ?hg (N := 5) ?hd (cs := #[.int .i64 0, .string (⟨#[]⟩ : ByteArray), .int .i64 0]) (t := 41) ?hr ?_; (case hd => rfl); (case hg => rfl); (case hr => first | (go_simp; done) | (go_simp; rfl))
        intro gb946 hg w15 hbox hb
        have n0_ := zA_ (blk_below (g := gb935) (o := .cells #[.slice A0_0 l0_0.length c0_0, .slice A0_1 l0_1.length c0_1] 30 (0, 0)) (zb_ BK935.out) hb)
        have n1_ := zA_ (blk_below (g := gb936) (o := .cells #[.int .i64 0, .string (⟨#[]⟩ : ByteArray), .int .i64 0] 41 (0, 0)) (zb_ BK936.out) hb)
        have n2_ := zA_ (blk_below (g := gb945) (o := .cells #[.int .i64 0, .string (⟨#[]⟩ : ByteArray), .int .i64 0] 41 (0, 0)) (zb_ BK945.out) hb)
        have n3_ := zA_ (below_step (zg3_ HB.out GE935.out GE936.out GE945.out) hb)
        have n4_ := zA_ (hbox)
        have n5_ := zA_ ((by rw [hg]; exact (below_size (zg3_ HB.out GE935.out GE936.out GE945.out)) : w.heap.size ≤ gb946))
        have n6_ := zA_ ((by rw [hg]; exact (below_size (zg3_ HB.out GE935.out GE936.out GE945.out)) : w.heap.size ≤ gb946))
        have n7_ := zA_ ((by rw [hg]; exact Nat.ne_of_lt (blk_lt (g := gb935) (o := .cells #[.slice A0_0 l0_0.length c0_0, .slice A0_1 l0_1.length c0_1] 30 (0, 0)) (zb_ BK935.out)) : gb935 ≠ gb946))
        have n8_ := zA_ ((by rw [hg]; exact Nat.ne_of_gt (blk_lt (g := gb935) (o := .cells #[.slice A0_0 l0_0.length c0_0, .slice A0_1 l0_1.length c0_1] 30 (0, 0)) (zb_ BK935.out)) : gb946 ≠ gb935))
        have n9_ := zA_ ((by rw [hg]; exact Nat.ne_of_lt (blk_lt (g := gb936) (o := .cells #[.int .i64 0, .string (⟨#[]⟩ : ByteArray), .int .i64 0] 41 (0, 0)) (zb_ BK936.out)) : gb936 ≠ gb946))
        have n10_ := zA_ ((by rw [hg]; exact Nat.ne_of_gt (blk_lt (g := gb936) (o := .cells #[.int .i64 0, .string (⟨#[]⟩ : ByteArray), .int .i64 0] 41 (0, 0)) (zb_ BK936.out)) : gb946 ≠ gb936))
        have n11_ := zA_ ((by rw [hg]; exact Nat.ne_of_lt (blk_lt (g := gb945) (o := .cells #[.int .i64 0, .string (⟨#[]⟩ : ByteArray), .int .i64 0] 41 (0, 0)) (zb_ BK945.out)) : gb945 ≠ gb946))
        have n12_ := zA_ ((by rw [hg]; exact Nat.ne_of_gt (blk_lt (g := gb945) (o := .cells #[.int .i64 0, .string (⟨#[]⟩ : ByteArray), .int .i64 0] 41 (0, 0)) (zb_ BK945.out)) : gb946 ≠ gb945))
        clear BK935 BK936 BK945 HB
        have BK935 := n0_
        have BK936 := n1_
        have BK945 := n2_
        have HB := n3_
        have BK946 := n4_
        have GW946 := n5_
        have GE946 := n6_
        have NB935_946 := n7_
        have NB946_935 := n8_
        have NB936_946 := n9_
        have NB946_936 := n10_
        have NB945_946 := n11_
        have NB946_945 := n12_
        clear n0_ n1_ n2_ n3_ n4_ n5_ n6_ n7_ n8_ n9_ n10_ n11_ n12_
        clear hb hbox hg
        refine hK.out _ _ ⟨(blk_cell BK935.out 0).trans rfl, (blk_cell BK935.out 1).trans rfl⟩ (fun hHeld => ?_)
        clear hK K
        refine norm_ (a' := ?_) ?_ ?_
        rotate_left
        ·
         show Act.put _ (some 5) _ = _
         simp only [Act.put, List.setIfInBounds_toArray, List.set_cons_zero, List.set_cons_succ, i64_w, i32_w]
         rfl
        exact norm_ (by first | (simp only [putAll, Act.put, List.setIfInBounds_toArray, List.set_cons_zero, List.set_cons_succ]; done) | (simp only [putAll, Act.put, List.setIfInBounds_toArray, List.set_cons_zero, List.set_cons_succ]; rfl)) (hJ1_2_4_6_7 (gb945, gb946) _ ⟨hHeld, (zb_ BK935.out), (zb_ BK936.out), (zb_ BK945.out), (zb_ BK946.out), GW945.out, GE945.out, NB935_945.out, NB945_935.out, NB936_945.out, NB945_936.out, NB946_945.out, NB945_946.out, GW946.out, GE946.out, NB935_946.out, NB946_935.out, NB936_946.out, NB946_936.out, (zg4_ HB.out GE935.out GE936.out GE945.out GE946.out)⟩)
     ·
      skip
      rintro _ w14 ⟨hS_, h0_, h1_, h2_⟩
      have n0_ : Aside0 (w14.heap[gb935]? = some (.cells #[.slice A0_0 l0_0.length c0_0, .slice A0_1 l0_1.length c0_1] 30 (0, 0))) := ⟨h0_⟩
      have n1_ : Aside0 (w14.heap[gb936]? = some (.cells #[.int .i64 0, .string (⟨#[]⟩ : ByteArray), .int .i64 0] 41 (0, 0))) := ⟨h1_⟩
      have n2_ : Aside0 (Below w.heap.size w w14) := ⟨h2_⟩
      clear BK935 BK936 HB
      clear h0_ h1_ h2_
      have BK935 := n0_
      have BK936 := n1_
      have HB := n2_
      clear n0_ n1_ n2_
      have hHeld : w14.cell? ⟨gb935, 0, none⟩ = some (.slice A0_0 l0_0.length c0_0) ∧ w14.cell? ⟨gb935, 1, none⟩ = some (.slice A0_1 l0_1.length c0_1) := hS_
      refine norm_ (a' := ?_) ?_ ?_
      rotate_left
      ·
       simp only [putAll, Act.put, List.setIfInBounds_toArray, List.set_cons_zero, List.set_cons_succ]
       rfl
      refine two_ (i := 6) (j := 7) (Ni := some 4) (Nj := some 5) #[true, true, true, true, true, true, true, false, false, false] #[true, true, true, true, true, true, false, true, false, false] rfl rfl rfl rfl (two_of HT_.out (by kernel_rfl)) (by decide) (by decide) (fun K hK => ?_) (fun K hK => ?_)
      ·
       skip
       refine box_step ?hg (N := 4) ?hd (cs := #[.int .i64 0, .string (⟨#[]⟩ : ByteArray), .int .i64 0]) (t := 41) ?hr ?_; (case hd => rfl); (case hg => rfl); (case hr => first | (go_simp; done) | (go_simp; rfl))
       intro gb945 hg w15 hbox hb
       have n0_ := zA_ (blk_below (g := gb935) (o := .cells #[.slice A0_0 l0_0.length c0_0, .slice A0_1 l0_1.length c0_1] 30 (0, 0)) (zb_ BK935.out) hb)
       have n1_ := zA_ (blk_below (g := gb936) (o := .cells #[.int .i64 0, .string (⟨#[]⟩ : ByteArray), .int .i64 0] 41 (0, 0)) (zb_ BK936.out) hb)
       have n2_ := zA_ (below_step (zg2_ HB.out GE935.out GE936.out) hb)
       have n3_ := zA_ (hbox)
       have n4_ := zA_ ((by rw [hg]; exact (below_size (zg2_ HB.out GE935.out GE936.out)) : w.heap.size ≤ gb945))
       have n5_ := zA_ ((by rw [hg]; exact (below_size (zg2_ HB.out GE935.out GE936.out)) : w.heap.size ≤ gb945))
       have n6_ := zA_ ((by rw [hg]; exact Nat.ne_of_lt (blk_lt (g := gb935) (o := .cells #[.slice A0_0 l0_0.length c0_0, .slice A0_1 l0_1.length c0_1] 30 (0, 0)) (zb_ BK935.out)) : gb935 ≠ gb945))
       have n7_ := zA_ ((by rw [hg]; exact Nat.ne_of_gt (blk_lt (g := gb935) (o := .cells #[.slice A0_0 l0_0.length c0_0, .slice A0_1 l0_1.length c0_1] 30 (0, 0)) (zb_ BK935.out)) : gb945 ≠ gb935))
       have n8_ := zA_ ((by rw [hg]; exact Nat.ne_of_lt (blk_lt (g := gb936) (o := .cells #[.int .i64 0, .string (⟨#[]⟩ : ByteArray), .int .i64 0] 41 (0, 0)) (zb_ BK936.out)) : gb936 ≠ gb945))
       have n9_ := zA_ ((by rw [hg]; exact Nat.ne_of_gt (blk_lt (g := gb936) (o := .cells #[.int .i64 0, .string (⟨#[]⟩ : ByteArray), .int .i64 0] 41 (0, 0)) (zb_ BK936.out)) : gb945 ≠ gb936))
       clear BK935 BK936 HB
       have BK935 := n0_
       have BK936 := n1_
       have HB := n2_
       have BK945 := n3_
       have GW945 := n4_
       have GE945 := n5_
       have NB935_945 := n6_
       have NB945_935 := n7_
       have NB936_945 := n8_
       have NB945_936 := n9_
       clear n0_ n1_ n2_ n3_ n4_ n5_ n6_ n7_ n8_ n9_
       clear hb hbox hg
       refine hK.out _ _ ⟨(blk_cell BK935.out 0).trans rfl, (blk_cell BK935.out 1).trans rfl⟩ (fun hHeld => ?_)
       clear hK K
       refine norm_ (a' := ?_) ?_ ?_
       rotate_left
       ·
        show Act.put _ (some 4) _ = _
        simp only [Act.put, List.setIfInBounds_toArray, List.set_cons_zero, List.set_cons_succ, i64_w, i32_w]
        rfl
       exact norm_ (by first | (simp only [putAll, Act.put, List.setIfInBounds_toArray, List.set_cons_zero, List.set_cons_succ]; done) | (simp only [putAll, Act.put, List.setIfInBounds_toArray, List.set_cons_zero, List.set_cons_succ]; rfl)) (hJ1_2_4_5_6 (gb945) _ ⟨hHeld, (zb_ BK935.out), (zb_ BK936.out), (zb_ BK945.out), GW945.out, GE945.out, NB935_945.out, NB945_935.out, NB936_945.out, NB945_936.out, (zg3_ HB.out GE935.out GE936.out GE945.out)⟩)
      ·
       skip
       refine box_step ?hg (N := 5) ?hd (cs := #[.int .i64 0, .string (⟨#[]⟩ : ByteArray), .int .i64 0]) (t := 41) ?hr ?_; (case hd => rfl); (case hg => rfl); (case hr => first | (go_simp; done) | (go_simp; rfl))
       intro gb946 hg w15 hbox hb
       have n0_ := zA_ (blk_below (g := gb935) (o := .cells #[.slice A0_0 l0_0.length c0_0, .slice A0_1 l0_1.length c0_1] 30 (0, 0)) (zb_ BK935.out) hb)
       have n1_ := zA_ (blk_below (g := gb936) (o := .cells #[.int .i64 0, .string (⟨#[]⟩ : ByteArray), .int .i64 0] 41 (0, 0)) (zb_ BK936.out) hb)
       have n2_ := zA_ (below_step (zg2_ HB.out GE935.out GE936.out) hb)
       have n3_ := zA_ (hbox)
       have n4_ := zA_ ((by rw [hg]; exact (below_size (zg2_ HB.out GE935.out GE936.out)) : w.heap.size ≤ gb946))
       have n5_ := zA_ ((by rw [hg]; exact (below_size (zg2_ HB.out GE935.out GE936.out)) : w.heap.size ≤ gb946))
       have n6_ := zA_ ((by rw [hg]; exact Nat.ne_of_lt (blk_lt (g := gb935) (o := .cells #[.slice A0_0 l0_0.length c0_0, .slice A0_1 l0_1.length c0_1] 30 (0, 0)) (zb_ BK935.out)) : gb935 ≠ gb946))
       have n7_ := zA_ ((by rw [hg]; exact Nat.ne_of_gt (blk_lt (g := gb935) (o := .cells #[.slice A0_0 l0_0.length c0_0, .slice A0_1 l0_1.length c0_1] 30 (0, 0)) (zb_ BK935.out)) : gb946 ≠ gb935))
       have n8_ := zA_ ((by rw [hg]; exact Nat.ne_of_lt (blk_lt (g := gb936) (o := .cells #[.int .i64 0, .string (⟨#[]⟩ : ByteArray), .int .i64 0] 41 (0, 0)) (zb_ BK936.out)) : gb936 ≠ gb946))
       have n9_ := zA_ ((by rw [hg]; exact Nat.ne_of_gt (blk_lt (g := gb936) (o := .cells #[.int .i64 0, .string (⟨#[]⟩ : ByteArray), .int .i64 0] 41 (0, 0)) (zb_ BK936.out)) : gb946 ≠ gb936))
       clear BK935 BK936 HB
       have BK935 := n0_
       have BK936 := n1_
       have HB := n2_
       have BK946 := n3_
       have GW946 := n4_
       have GE946 := n5_
       have NB935_946 := n6_
       have NB946_935 := n7_
       have NB936_946 := n8_
       have NB946_936 := n9_
       clear n0_ n1_ n2_ n3_ n4_ n5_ n6_ n7_ n8_ n9_
       clear hb hbox hg
       refine hK.out _ _ ⟨(blk_cell BK935.out 0).trans rfl, (blk_cell BK935.out 1).trans rfl⟩ (fun hHeld => ?_)
       clear hK K
       refine norm_ (a' := ?_) ?_ ?_
       rotate_left
       ·
        show Act.put _ (some 5) _ = _
        simp only [Act.put, List.setIfInBounds_toArray, List.set_cons_zero, List.set_cons_succ, i64_w, i32_w]
        rfl
       exact norm_ (by first | (simp only [putAll, Act.put, List.setIfInBounds_toArray, List.set_cons_zero, List.set_cons_succ]; done) | (simp only [putAll, Act.put, List.setIfInBounds_toArray, List.set_cons_zero, List.set_cons_succ]; rfl)) (hJ1_2_4_5_7 (gb946) _ ⟨hHeld, (zb_ BK935.out), (zb_ BK936.out), (zb_ BK946.out), GW946.out, GE946.out, NB935_946.out, NB946_935.out, NB936_946.out, NB946_936.out, (zg3_ HB.out GE935.out GE936.out GE946.out)⟩)
    ·
     skip
     rintro ⟨gb945, gb946⟩ w15 ⟨hS_, h0_, h1_, h2_, h3_, h4_, h5_, h6_, h7_, h8_, h9_, h10_, h11_, h12_, h13_, h14_, h15_, h16_, h17_, h18_⟩
     have n0_ : Aside0 (w15.heap[gb935]? = some (.cells #[.slice A0_0 l0_0.length c0_0, .slice A0_1 l0_1.length c0_1] 30 (0, 0))) := ⟨h0_⟩
     have n1_ : Aside0 (w15.heap[gb936]? = some (.cells #[.int .i64 0, .string (⟨#[]⟩ : ByteArray), .int .i64 0] 41 (0, 0))) := ⟨h1_⟩
     have n2_ : Aside0 (w15.heap[gb945]? = some (.cells #[.int .i64 0, .string (⟨#[]⟩ : ByteArray), .int .i64 0] 41 (0, 0))) := ⟨h2_⟩
     have n3_ : Aside0 (w15.heap[gb946]? = some (.cells #[.int .i64 0, .string (⟨#[]⟩ : ByteArray), .int .i64 0] 41 (0, 0))) := ⟨h3_⟩
     have n4_ : Aside0 (w.heap.size ≤ gb945) := ⟨h4_⟩
     have n5_ : Aside0 (w.heap.size ≤ gb945) := ⟨h5_⟩
     have n6_ : Aside0 (gb935 ≠ gb945) := ⟨h6_⟩
     have n7_ : Aside0 (gb945 ≠ gb935) := ⟨h7_⟩
     have n8_ : Aside0 (gb936 ≠ gb945) := ⟨h8_⟩
     have n9_ : Aside0 (gb945 ≠ gb936) := ⟨h9_⟩
     have n10_ : Aside0 (gb946 ≠ gb945) := ⟨h10_⟩
     have n11_ : Aside0 (gb945 ≠ gb946) := ⟨h11_⟩
     have n12_ : Aside0 (w.heap.size ≤ gb946) := ⟨h12_⟩
     have n13_ : Aside0 (w.heap.size ≤ gb946) := ⟨h13_⟩
     have n14_ : Aside0 (gb935 ≠ gb946) := ⟨h14_⟩
     have n15_ : Aside0 (gb946 ≠ gb935) := ⟨h15_⟩
     have n16_ : Aside0 (gb936 ≠ gb946) := ⟨h16_⟩
     have n17_ : Aside0 (gb946 ≠ gb936) := ⟨h17_⟩
     have n18_ : Aside0 (Below w.heap.size w w15) := ⟨h18_⟩
     clear BK935 BK936 HB
     clear h0_ h1_ h2_ h3_ h4_ h5_ h6_ h7_ h8_ h9_ h10_ h11_ h12_ h13_ h14_ h15_ h16_ h17_ h18_
     have BK935 := n0_
     have BK936 := n1_
     have BK945 := n2_
     have BK946 := n3_
     have GW945 := n4_
     have GE945 := n5_
     have NB935_945 := n6_
     have NB945_935 := n7_
     have NB936_945 := n8_
     have NB945_936 := n9_
     have NB946_945 := n10_
     have NB945_946 := n11_
     have GW946 := n12_
     have GE946 := n13_
     have NB935_946 := n14_
     have NB946_935 := n15_
     have NB936_946 := n16_
     have NB946_936 := n17_
     have HB := n18_
     clear n0_ n1_ n2_ n3_ n4_ n5_ n6_ n7_ n8_ n9_ n10_ n11_ n12_ n13_ n14_ n15_ n16_ n17_ n18_
     have hHeld : w15.cell? ⟨gb935, 0, none⟩ = some (.slice A0_0 l0_0.length c0_0) ∧ w15.cell? ⟨gb935, 1, none⟩ = some (.slice A0_1 l0_1.length c0_1) := hS_
     refine norm_ (a' := ?_) ?_ ?_
     rotate_left
     ·
      simp only [putAll, Act.put, List.setIfInBounds_toArray, List.set_cons_zero, List.set_cons_succ]
      rfl
     refine one_ (i := 5) (N := some 11) #[true, true, true, true, true, true, true, true, false, false] rfl rfl (one_of HT_.out (by kernel_rfl)) (by decide) (fun K hK => ?_)
     refine goes_ Try.func25 (by kernel_rfl) rfl #[.string t941] (by rfl) rfl rfl zs_ ?_
     with_reducible refine (spec_MetaRead.calls k t941 t942 t943 t944 _ A5.out).mono ?_
     rintro e w16 ⟨rfl, hb⟩
     refine ⟨_, rfl, ?_⟩
     have n0_ := zA_ (blk_below (g := gb935) (o := .cells #[.slice A0_0 l0_0.length c0_0, .slice A0_1 l0_1.length c0_1] 30 (0, 0)) (zb_ BK935.out) hb)
     have n1_ := zA_ (blk_below (g := gb936) (o := .cells #[.int .i64 0, .string (⟨#[]⟩ : ByteArray), .int .i64 0] 41 (0, 0)) (zb_ BK936.out) hb)
     have n2_ := zA_ (blk_below (g := gb945) (o := .cells #[.int .i64 0, .string (⟨#[]⟩ : ByteArray), .int .i64 0] 41 (0, 0)) (zb_ BK945.out) hb)
     have n3_ := zA_ (blk_below (g := gb946) (o := .cells #[.int .i64 0, .string (⟨#[]⟩ : ByteArray), .int .i64 0] 41 (0, 0)) (zb_ BK946.out) hb)
     have n4_ := zA_ (below_step (zg4_ HB.out GE935.out GE936.out GE945.out GE946.out) hb)
     clear BK935 BK936 BK945 BK946 HB
     have BK935 := n0_
     have BK936 := n1_
     have BK945 := n2_
     have BK946 := n3_
     have HB := n4_
     clear n0_ n1_ n2_ n3_ n4_
     (try clear hb)
     (try clear hb2)
     (try clear hk)
     (try clear hi)
     refine hK.out _ _ ⟨(blk_cell BK935.out 0).trans rfl, (blk_cell BK935.out 1).trans rfl⟩ (fun hHeld => ?_)
     clear hK K
     refine norm_ (a' := ?_) ?_ ?_
     rotate_left
     ·
      show Act.put _ (some 11) _ = _
      simp only [Act.put, List.setIfInBounds_toArray, List.set_cons_zero, List.set_cons_succ, i64_w, i32_w]
      rfl
     exact norm_ (by first | (simp only [putAll, Act.put, List.setIfInBounds_toArray, List.set_cons_zero, List.set_cons_succ]; done) | (simp only [putAll, Act.put, List.setIfInBounds_toArray, List.set_cons_zero, List.set_cons_succ]; rfl)) (hJ1_2_4_5_6_7 (gb945, gb946) _ ⟨hHeld, (zb_ BK935.out), (zb_ BK936.out), (zb_ BK945.out), (zb_ BK946.out), GW945.out, GE945.out, NB935_945.out, NB945_935.out, NB936_945.out, NB945_936.out, NB946_945.out, NB945_946.out, GW946.out, GE946.out, NB935_946.out, NB946_935.out, NB936_946.out, NB946_936.out, (zg4_ HB.out GE935.out GE936.out GE945.out GE946.out)⟩)
   ·
    skip
    rintro gb946 w15 ⟨hS_, h0_, h1_, h2_, h3_, h4_, h5_, h6_, h7_, h8_, h9_⟩
    have n0_ : Aside0 (w15.heap[gb935]? = some (.cells #[.slice A0_0 l0_0.length c0_0, .slice A0_1 l0_1.length c0_1] 30 (0, 0))) := ⟨h0_⟩
    have n1_ : Aside0 (w15.heap[gb936]? = some (.cells #[.int .i64 0, .string (⟨#[]⟩ : ByteArray), .int .i64 0] 41 (0, 0))) := ⟨h1_⟩
    have n2_ : Aside0 (w15.heap[gb946]? = some (.cells #[.int .i64 0, .string (⟨#[]⟩ : ByteArray), .int .i64 0] 41 (0, 0))) := ⟨h2_⟩
    have n3_ : Aside0 (w.heap.size ≤ gb946) := ⟨h3_⟩
    have n4_ : Aside0 (w.heap.size ≤ gb946) := ⟨h4_⟩
    have n5_ : Aside0 (gb935 ≠ gb946) := ⟨h5_⟩
    have n6_ : Aside0 (gb946 ≠ gb935) := ⟨h6_⟩
    have n7_ : Aside0 (gb936 ≠ gb946) := ⟨h7_⟩
    have n8_ : Aside0 (gb946 ≠ gb936) := ⟨h8_⟩
    have n9_ : Aside0 (Below w.heap.size w w15) := ⟨h9_⟩
    clear BK935 BK936 HB
    clear h0_ h1_ h2_ h3_ h4_ h5_ h6_ h7_ h8_ h9_
    have BK935 := n0_
    have BK936 := n1_
    have BK946 := n2_
    have GW946 := n3_
    have GE946 := n4_
    have NB935_946 := n5_
    have NB946_935 := n6_
    have NB936_946 := n7_
    have NB946_936 := n8_
    have HB := n9_
    clear n0_ n1_ n2_ n3_ n4_ n5_ n6_ n7_ n8_ n9_
    have hHeld : w15.cell? ⟨gb935, 0, none⟩ = some (.slice A0_0 l0_0.length c0_0) ∧ w15.cell? ⟨gb935, 1, none⟩ = some (.slice A0_1 l0_1.length c0_1) := hS_
    refine norm_ (a' := ?_) ?_ ?_
    rotate_left
    ·
     simp only [putAll, Act.put, List.setIfInBounds_toArray, List.set_cons_zero, List.set_cons_succ]
     rfl
    refine one_ (i := 6) (N := some 4) #[true, true, true, true, true, true, true, true, false, false] rfl rfl (one_of HT_.out (by kernel_rfl)) (by decide) (fun K hK => ?_)
    refine box_step ?hg (N := 4) ?hd (cs := #[.int .i64 0, .string (⟨#[]⟩ : ByteArray), .int .i64 0]) (t := 41) ?hr ?_; (case hd => rfl); (case hg => rfl); (case hr => first | (go_simp; done) | (go_simp; rfl))
    intro gb945 hg w16 hbox hb
    have n0_ := zA_ (blk_below (g := gb935) (o := .cells #[.slice A0_0 l0_0.length c0_0, .slice A0_1 l0_1.length c0_1] 30 (0, 0)) (zb_ BK935.out) hb)
    have n1_ := zA_ (blk_below (g := gb936) (o := .cells #[.int .i64 0, .string (⟨#[]⟩ : ByteArray), .int .i64 0] 41 (0, 0)) (zb_ BK936.out) hb)
    have n2_ := zA_ (blk_below (g := gb946) (o := .cells #[.int .i64 0, .string (⟨#[]⟩ : ByteArray), .int .i64 0] 41 (0, 0)) (zb_ BK946.out) hb)
    have n3_ := zA_ (below_step (zg3_ HB.out GE935.out GE936.out GE946.out) hb)
    have n4_ := zA_ (hbox)
    have n5_ := zA_ ((by rw [hg]; exact (below_size (zg3_ HB.out GE935.out GE936.out GE946.out)) : w.heap.size ≤ gb945))
    have n6_ := zA_ ((by rw [hg]; exact (below_size (zg3_ HB.out GE935.out GE936.out GE946.out)) : w.heap.size ≤ gb945))
    have n7_ := zA_ ((by rw [hg]; exact Nat.ne_of_lt (blk_lt (g := gb935) (o := .cells #[.slice A0_0 l0_0.length c0_0, .slice A0_1 l0_1.length c0_1] 30 (0, 0)) (zb_ BK935.out)) : gb935 ≠ gb945))
    have n8_ := zA_ ((by rw [hg]; exact Nat.ne_of_gt (blk_lt (g := gb935) (o := .cells #[.slice A0_0 l0_0.length c0_0, .slice A0_1 l0_1.length c0_1] 30 (0, 0)) (zb_ BK935.out)) : gb945 ≠ gb935))
    have n9_ := zA_ ((by rw [hg]; exact Nat.ne_of_lt (blk_lt (g := gb936) (o := .cells #[.int .i64 0, .string (⟨#[]⟩ : ByteArray), .int .i64 0] 41 (0, 0)) (zb_ BK936.out)) : gb936 ≠ gb945))
    have n10_ := zA_ ((by rw [hg]; exact Nat.ne_of_gt (blk_lt (g := gb936) (o := .cells #[.int .i64 0, .string (⟨#[]⟩ : ByteArray), .int .i64 0] 41 (0, 0)) (zb_ BK936.out)) : gb945 ≠ gb936))
    have n11_ := zA_ ((by rw [hg]; exact Nat.ne_of_lt (blk_lt (g := gb946) (o := .cells #[.int .i64 0, .string (⟨#[]⟩ : ByteArray), .int .i64 0] 41 (0, 0)) (zb_ BK946.out)) : gb946 ≠ gb945))
    have n12_ := zA_ ((by rw [hg]; exact Nat.ne_of_gt (blk_lt (g := gb946) (o := .cells #[.int .i64 0, .string (⟨#[]⟩ : ByteArray), .int .i64 0] 41 (0, 0)) (zb_ BK946.out)) : gb945 ≠ gb946))
    clear BK935 BK936 BK946 HB
    have BK935 := n0_
    have BK936 := n1_
    have BK946 := n2_
    have HB := n3_
    have BK945 := n4_
    have GW945 := n5_
    have GE945 := n6_
    have NB935_945 := n7_
    have NB945_935 := n8_
    have NB936_945 := n9_
    have NB945_936 := n10_
    have NB946_945 := n11_
    have NB945_946 := n12_
    clear n0_ n1_ n2_ n3_ n4_ n5_ n6_ n7_ n8_ n9_ n10_ n11_ n12_
    clear hb hbox hg
    refine hK.out _ _ ⟨(blk_cell BK935.out 0).trans rfl, (blk_cell BK935.out 1).trans rfl⟩ (fun hHeld => ?_)
    clear hK K
    refine norm_ (a' := ?_) ?_ ?_
    rotate_left
    ·
     show Act.put _ (some 4) _ = _
     simp only [Act.put, List.setIfInBounds_toArray, List.set_cons_zero, List.set_cons_succ, i64_w, i32_w]
     rfl
    exact norm_ (by first | (simp only [putAll, Act.put, List.setIfInBounds_toArray, List.set_cons_zero, List.set_cons_succ]; done) | (simp only [putAll, Act.put, List.setIfInBounds_toArray, List.set_cons_zero, List.set_cons_succ]; rfl)) (hJ1_2_4_5_6_7 (gb945, gb946) _ ⟨hHeld, (zb_ BK935.out), (zb_ BK936.out), (zb_ BK945.out), (zb_ BK946.out), GW945.out, GE945.out, NB935_945.out, NB945_935.out, NB936_945.out, NB945_936.out, NB946_945.out, NB945_946.out, GW946.out, GE946.out, NB935_946.out, NB946_935.out, NB936_946.out, NB946_936.out, (zg4_ HB.out GE935.out GE936.out GE946.out GE945.out)⟩)
  ·
   skip
   rintro gb945 w15 ⟨hS_, h0_, h1_, h2_, h3_, h4_, h5_, h6_, h7_, h8_, h9_⟩
   have n0_ : Aside0 (w15.heap[gb935]? = some (.cells #[.slice A0_0 l0_0.length c0_0, .slice A0_1 l0_1.length c0_1] 30 (0, 0))) := ⟨h0_⟩
   have n1_ : Aside0 (w15.heap[gb936]? = some (.cells #[.int .i64 0, .string (⟨#[]⟩ : ByteArray), .int .i64 0] 41 (0, 0))) := ⟨h1_⟩
   have n2_ : Aside0 (w15.heap[gb945]? = some (.cells #[.int .i64 0, .string (⟨#[]⟩ : ByteArray), .int .i64 0] 41 (0, 0))) := ⟨h2_⟩
   have n3_ : Aside0 (w.heap.size ≤ gb945) := ⟨h3_⟩
   have n4_ : Aside0 (w.heap.size ≤ gb945) := ⟨h4_⟩
   have n5_ : Aside0 (gb935 ≠ gb945) := ⟨h5_⟩
   have n6_ : Aside0 (gb945 ≠ gb935) := ⟨h6_⟩
   have n7_ : Aside0 (gb936 ≠ gb945) := ⟨h7_⟩
   have n8_ : Aside0 (gb945 ≠ gb936) := ⟨h8_⟩
   have n9_ : Aside0 (Below w.heap.size w w15) := ⟨h9_⟩
   clear BK935 BK936 HB
   clear h0_ h1_ h2_ h3_ h4_ h5_ h6_ h7_ h8_ h9_
   have BK935 := n0_
   have BK936 := n1_
   have BK945 := n2_
   have GW945 := n3_
   have GE945 := n4_
   have NB935_945 := n5_
   have NB945_935 := n6_
   have NB936_945 := n7_
   have NB945_936 := n8_
   have HB := n9_
   clear n0_ n1_ n2_ n3_ n4_ n5_ n6_ n7_ n8_ n9_
   have hHeld : w15.cell? ⟨gb935, 0, none⟩ = some (.slice A0_0 l0_0.length c0_0) ∧ w15.cell? ⟨gb935, 1, none⟩ = some (.slice A0_1 l0_1.length c0_1) := hS_
   refine norm_ (a' := ?_) ?_ ?_
   rotate_left
   ·
    simp only [putAll, Act.put, List.setIfInBounds_toArray, List.set_cons_zero, List.set_cons_succ]
    rfl
   refine one_ (i := 7) (N := some 5) #[true, true, true, true, true, true, true, true, false, false] rfl rfl (one_of HT_.out (by kernel_rfl)) (by decide) (fun K hK => ?_)
   refine box_step ?hg (N := 5) ?hd (cs := #[.int .i64 0, .string (⟨#[]⟩ : ByteArray), .int .i64 0]) (t := 41) ?hr ?_; (case hd => rfl); (case hg => rfl); (case hr => first | (go_simp; done) | (go_simp; rfl))
   intro gb946 hg w16 hbox hb
   have n0_ := zA_ (blk_below (g := gb935) (o := .cells #[.slice A0_0 l0_0.length c0_0, .slice A0_1 l0_1.length c0_1] 30 (0, 0)) (zb_ BK935.out) hb)
   have n1_ := zA_ (blk_below (g := gb936) (o := .cells #[.int .i64 0, .string (⟨#[]⟩ : ByteArray), .int .i64 0] 41 (0, 0)) (zb_ BK936.out) hb)
   have n2_ := zA_ (blk_below (g := gb945) (o := .cells #[.int .i64 0, .string (⟨#[]⟩ : ByteArray), .int .i64 0] 41 (0, 0)) (zb_ BK945.out) hb)
   have n3_ := zA_ (below_step (zg3_ HB.out GE935.out GE936.out GE945.out) hb)
   have n4_ := zA_ (hbox)
   have n5_ := zA_ ((by rw [hg]; exact (below_size (zg3_ HB.out GE935.out GE936.out GE945.out)) : w.heap.size ≤ gb946))
   have n6_ := zA_ ((by rw [hg]; exact (below_size (zg3_ HB.out GE935.out GE936.out GE945.out)) : w.heap.size ≤ gb946))
   have n7_ := zA_ ((by rw [hg]; exact Nat.ne_of_lt (blk_lt (g := gb935) (o := .cells #[.slice A0_0 l0_0.length c0_0, .slice A0_1 l0_1.length c0_1] 30 (0, 0)) (zb_ BK935.out)) : gb935 ≠ gb946))
   have n8_ := zA_ ((by rw [hg]; exact Nat.ne_of_gt (blk_lt (g := gb935) (o := .cells #[.slice A0_0 l0_0.length c0_0, .slice A0_1 l0_1.length c0_1] 30 (0, 0)) (zb_ BK935.out)) : gb946 ≠ gb935))
   have n9_ := zA_ ((by rw [hg]; exact Nat.ne_of_lt (blk_lt (g := gb936) (o := .cells #[.int .i64 0, .string (⟨#[]⟩ : ByteArray), .int .i64 0] 41 (0, 0)) (zb_ BK936.out)) : gb936 ≠ gb946))
   have n10_ := zA_ ((by rw [hg]; exact Nat.ne_of_gt (blk_lt (g := gb936) (o := .cells #[.int .i64 0, .string (⟨#[]⟩ : ByteArray), .int .i64 0] 41 (0, 0)) (zb_ BK936.out)) : gb946 ≠ gb936))
   have n11_ := zA_ ((by rw [hg]; exact Nat.ne_of_lt (blk_lt (g := gb945) (o := .cells #[.int .i64 0, .string (⟨#[]⟩ : ByteArray), .int .i64 0] 41 (0, 0)) (zb_ BK945.out)) : gb945 ≠ gb946))
   have n12_ := zA_ ((by rw [hg]; exact Nat.ne_of_gt (blk_lt (g := gb945) (o := .cells #[.int .i64 0, .string (⟨#[]⟩ : ByteArray), .int .i64 0] 41 (0, 0)) (zb_ BK945.out)) : gb946 ≠ gb945))
   clear BK935 BK936 BK945 HB
   have BK935 := n0_
   have BK936 := n1_
   have BK945 := n2_
   have HB := n3_
   have BK946 := n4_
   have GW946 := n5_
   have GE946 := n6_
   have NB935_946 := n7_
   have NB946_935 := n8_
   have NB936_946 := n9_
   have NB946_936 := n10_
   have NB945_946 := n11_
   have NB946_945 := n12_
   clear n0_ n1_ n2_ n3_ n4_ n5_ n6_ n7_ n8_ n9_ n10_ n11_ n12_
   clear hb hbox hg
   refine hK.out _ _ ⟨(blk_cell BK935.out 0).trans rfl, (blk_cell BK935.out 1).trans rfl⟩ (fun hHeld => ?_)
   clear hK K
   refine norm_ (a' := ?_) ?_ ?_
   rotate_left
   ·
    show Act.put _ (some 5) _ = _
    simp only [Act.put, List.setIfInBounds_toArray, List.set_cons_zero, List.set_cons_succ, i64_w, i32_w]
    rfl
   exact norm_ (by first | (simp only [putAll, Act.put, List.setIfInBounds_toArray, List.set_cons_zero, List.set_cons_succ]; done) | (simp only [putAll, Act.put, List.setIfInBounds_toArray, List.set_cons_zero, List.set_cons_succ]; rfl)) (hJ1_2_4_5_6_7 (gb945, gb946) _ ⟨hHeld, (zb_ BK935.out), (zb_ BK936.out), (zb_ BK945.out), (zb_ BK946.out), GW945.out, GE945.out, NB935_945.out, NB945_935.out, NB936_945.out, NB945_936.out, NB946_945.out, NB945_946.out, GW946.out, GE946.out, NB935_946.out, NB946_935.out, NB936_946.out, NB946_936.out, (zg4_ HB.out GE935.out GE936.out GE945.out GE946.out)⟩)
 rintro ⟨gb945, gb946⟩ w16 ⟨hS_, h0_, h1_, h2_, h3_, h4_, h5_, h6_, h7_, h8_, h9_, h10_, h11_, h12_, h13_, h14_, h15_, h16_, h17_, h18_⟩
 have n0_ : Aside0 (w16.heap[gb935]? = some (.cells #[.slice A0_0 l0_0.length c0_0, .slice A0_1 l0_1.length c0_1] 30 (0, 0))) := ⟨h0_⟩
 have n1_ : Aside0 (w16.heap[gb936]? = some (.cells #[.int .i64 0, .string (⟨#[]⟩ : ByteArray), .int .i64 0] 41 (0, 0))) := ⟨h1_⟩
 have n2_ : Aside0 (w16.heap[gb945]? = some (.cells #[.int .i64 0, .string (⟨#[]⟩ : ByteArray), .int .i64 0] 41 (0, 0))) := ⟨h2_⟩
 have n3_ : Aside0 (w16.heap[gb946]? = some (.cells #[.int .i64 0, .string (⟨#[]⟩ : ByteArray), .int .i64 0] 41 (0, 0))) := ⟨h3_⟩
 have n4_ : Aside0 (w.heap.size ≤ gb945) := ⟨h4_⟩
 have n5_ : Aside0 (w.heap.size ≤ gb945) := ⟨h5_⟩
 have n6_ : Aside0 (gb935 ≠ gb945) := ⟨h6_⟩
 have n7_ : Aside0 (gb945 ≠ gb935) := ⟨h7_⟩
 have n8_ : Aside0 (gb936 ≠ gb945) := ⟨h8_⟩
 have n9_ : Aside0 (gb945 ≠ gb936) := ⟨h9_⟩
 have n10_ : Aside0 (gb946 ≠ gb945) := ⟨h10_⟩
 have n11_ : Aside0 (gb945 ≠ gb946) := ⟨h11_⟩
 have n12_ : Aside0 (w.heap.size ≤ gb946) := ⟨h12_⟩
 have n13_ : Aside0 (w.heap.size ≤ gb946) := ⟨h13_⟩
 have n14_ : Aside0 (gb935 ≠ gb946) := ⟨h14_⟩
 have n15_ : Aside0 (gb946 ≠ gb935) := ⟨h15_⟩
 have n16_ : Aside0 (gb936 ≠ gb946) := ⟨h16_⟩
 have n17_ : Aside0 (gb946 ≠ gb936) := ⟨h17_⟩
 have n18_ : Aside0 (Below w.heap.size w w16) := ⟨h18_⟩
 clear BK935 BK936 HB
 clear h0_ h1_ h2_ h3_ h4_ h5_ h6_ h7_ h8_ h9_ h10_ h11_ h12_ h13_ h14_ h15_ h16_ h17_ h18_
 have BK935 := n0_
 have BK936 := n1_
 have BK945 := n2_
 have BK946 := n3_
 have GW945 := n4_
 have GE945 := n5_
 have NB935_945 := n6_
 have NB945_935 := n7_
 have NB936_945 := n8_
 have NB945_936 := n9_
 have NB946_945 := n10_
 have NB945_946 := n11_
 have GW946 := n12_
 have GE946 := n13_
 have NB935_946 := n14_
 have NB946_935 := n15_
 have NB936_946 := n16_
 have NB946_936 := n17_
 have HB := n18_
 clear n0_ n1_ n2_ n3_ n4_ n5_ n6_ n7_ n8_ n9_ n10_ n11_ n12_ n13_ n14_ n15_ n16_ n17_ n18_
 have hHeld : w16.cell? ⟨gb935, 0, none⟩ = some (.slice A0_0 l0_0.length c0_0) ∧ w16.cell? ⟨gb935, 1, none⟩ = some (.slice A0_1 l0_1.length c0_1) := hS_
 refine norm_ (a' := ?_) ?_ ?_
 rotate_left
 ·
  simp only [putAll, Act.put, List.setIfInBounds_toArray, List.set_cons_zero, List.set_cons_succ]
  rfl
 refine one_ (i := 8) (N := none) #[true, true, true, true, true, true, true, true, true, false] rfl rfl (one_of HT_.out (by kernel_rfl)) (by decide) (fun K hK => ?_)
 have hs17 : w16.cell? ⟨gb945, 0, none⟩ = some (.int .i64 0) := (blk_cell BK945.out 0).trans rfl
 have hfs17 := blk_frozen BK945.out 0
 have hns17_0 := NB935_945.out
 have hns17_1 := NB936_945.out
 have hns17_3 := NB946_945.out
 have hms17_0 := NB945_935.out
 have hms17_1 := NB945_936.out
 have hms17_3 := NB945_946.out
 have hs18 : w16.cell? ⟨gb945, 1, none⟩ = some (.string (⟨#[]⟩ : ByteArray)) := (blk_cell BK945.out 1).trans rfl
 have hfs18 := blk_frozen BK945.out 1
 have hns18_0 := NB935_945.out
 have hns18_1 := NB936_945.out
 have hns18_3 := NB946_945.out
 have hms18_0 := NB945_935.out
 have hms18_1 := NB945_936.out
 have hms18_3 := NB945_946.out
 have hs19 : w16.cell? ⟨gb945, 2, none⟩ = some (.int .i64 0) := (blk_cell BK945.out 2).trans rfl
 have hfs19 := blk_frozen BK945.out 2
 have hns19_0 := NB935_945.out
 have hns19_1 := NB936_945.out
 have hns19_3 := NB946_945.out
 have hms19_0 := NB945_935.out
 have hms19_1 := NB945_936.out
 have hms19_3 := NB945_946.out
 refine skip_ (w1 := ?_) (by rfl) rfl ?_ ?_
 rotate_left
 ·
  go_simp
  rfl
 refine hK.out _ _ ⟨((cell_far (p := ⟨gb945, _, none⟩) NB935_945.out _).trans (((cell_far (p := ⟨gb945, _, none⟩) NB935_945.out _).trans (((cell_far (p := ⟨gb945, _, none⟩) NB935_945.out _).trans (hHeld.1)))))), ((cell_far (p := ⟨gb945, _, none⟩) NB935_945.out _).trans (((cell_far (p := ⟨gb945, _, none⟩) NB935_945.out _).trans (((cell_far (p := ⟨gb945, _, none⟩) NB935_945.out _).trans (hHeld.2))))))⟩ (fun hHeld => ?_)
 clear hK K
 refine one_ (i := 9) (N := none) #[true, true, true, true, true, true, true, true, true, true] rfl rfl (one_of HT_.out (by kernel_rfl)) (by decide) (fun K hK => ?_)
 have hs20 : w16.cell? ⟨gb946, 0, none⟩ = some (.int .i64 0) := (blk_cell BK946.out 0).trans rfl
 have hfs20 := blk_frozen BK946.out 0
 have hns20_0 := NB935_946.out
 have hns20_1 := NB936_946.out
 have hns20_2 := NB945_946.out
 have hms20_0 := NB946_935.out
 have hms20_1 := NB946_936.out
 have hms20_2 := NB946_945.out
 have hs21 : w16.cell? ⟨gb946, 1, none⟩ = some (.string (⟨#[]⟩ : ByteArray)) := (blk_cell BK946.out 1).trans rfl
 have hfs21 := blk_frozen BK946.out 1
 have hns21_0 := NB935_946.out
 have hns21_1 := NB936_946.out
 have hns21_2 := NB945_946.out
 have hms21_0 := NB946_935.out
 have hms21_1 := NB946_936.out
 have hms21_2 := NB946_945.out
 have hs22 : w16.cell? ⟨gb946, 2, none⟩ = some (.int .i64 0) := (blk_cell BK946.out 2).trans rfl
 have hfs22 := blk_frozen BK946.out 2
 have hns22_0 := NB935_946.out
 have hns22_1 := NB936_946.out
 have hns22_2 := NB945_946.out
 have hms22_0 := NB946_935.out
 have hms22_1 := NB946_936.out
 have hms22_2 := NB946_945.out
 refine skip_ (w1 := ?_) (by rfl) rfl ?_ ?_
 rotate_left
 ·
  go_simp
  rfl
 refine hK.out _ _ ⟨((cell_far (p := ⟨gb946, _, none⟩) NB935_946.out _).trans (((cell_far (p := ⟨gb946, _, none⟩) NB935_946.out _).trans (((cell_far (p := ⟨gb946, _, none⟩) NB935_946.out _).trans (hHeld.1)))))), ((cell_far (p := ⟨gb946, _, none⟩) NB935_946.out _).trans (((cell_far (p := ⟨gb946, _, none⟩) NB935_946.out _).trans (((cell_far (p := ⟨gb946, _, none⟩) NB935_946.out _).trans (hHeld.2))))))⟩ (fun hHeld => ?_)
 clear hK K
 refine done_ (done_of HT_.out (by kernel_rfl)) ?_
 go_upto_region 2 with (fail)
 go_cut [12] (fun v12 wc => ∃ (kq : Nat) (x12_5 : Bool), v12 = .bool x12_5 ∧ Aside0 (spec_l04Get.j0 kq x12_5 t938 t939 t940 t942 t943 t944 = some (r1, r2, r3, r4)) ∧ Aside0 (kq ≤ k) ∧ Aside0 (wc.heap[gb935]? = some (.cells #[(.slice A0_0 l0_0.length c0_0), (.slice A0_1 l0_1.length c0_1)] 30 (0, 0))) ∧ Aside0 (wc.heap[gb936]? = some (.cells #[.int .i64 0, .string (⟨#[]⟩ : ByteArray), .int .i64 0] 41 (0, 0))) ∧ Aside0 (wc.heap[gb945]? = some (.cells #[.int .i64 t938, .string t939, .int .i64 t940] 41 (0, 0))) ∧ Aside0 (wc.heap[gb946]? = some (.cells #[.int .i64 t942, .string t943, .int .i64 t944] 41 (0, 0))) ∧ Aside0 (Below w.heap.size w wc))
 case first =>
  have H := HC6.out
  clear HC6
  by_cases c23 : t940 = 0
  ·
   rw [if_pos c23] at H
   have c23b0 : (t940 == 0) = true := beq_iff_eq.mpr c23
   have c23b1 : (t940 != 0) = false := bne_eq_false_iff_eq.mpr c23
   clear c23
   (first | rw [c23b0] | (simp only [i64_w, i32_w]; rw [c23b0]) | skip)
   by_cases c24 : t944 = 0
   ·
    rw [if_pos c24] at H
    have c24b0 : (t944 == 0) = true := beq_iff_eq.mpr c24
    have c24b1 : (t944 != 0) = false := bne_eq_false_iff_eq.mpr c24
    clear c24
    have H' := zA_ H
    clear H
    have hnb25 := NB945_935.out
    have hnc25 := NB935_945.out
    have hnb26 := NB945_936.out
    have hnc26 := NB936_945.out
    have hnb27 := NB945_946.out
    have hnc27 := NB946_945.out
    have hcz28_0 : w16.cell? ⟨gb945, 0, none⟩ = some (.int .i64 0) := (blk_cell BK945.out 0).trans rfl
    have hcz28_1 : w16.cell? ⟨gb945, 1, none⟩ = some (.string (⟨#[]⟩ : ByteArray)) := (blk_cell BK945.out 1).trans rfl
    have hcz28_2 : w16.cell? ⟨gb945, 2, none⟩ = some (.int .i64 0) := (blk_cell BK945.out 2).trans rfl
    have hfz28_0 := blk_frozen BK945.out 0
    have hfz28_1 := blk_frozen BK945.out 1
    have hfz28_2 := blk_frozen BK945.out 2
    have hnb29 := NB946_935.out
    have hnc29 := NB935_946.out
    have hnb30 := NB946_936.out
    have hnc30 := NB936_946.out
    have hcz31_0 : w16.cell? ⟨gb946, 0, none⟩ = some (.int .i64 0) := (blk_cell BK946.out 0).trans rfl
    have hcz31_1 : w16.cell? ⟨gb946, 1, none⟩ = some (.string (⟨#[]⟩ : ByteArray)) := (blk_cell BK946.out 1).trans rfl
    have hcz31_2 : w16.cell? ⟨gb946, 2, none⟩ = some (.int .i64 0) := (blk_cell BK946.out 2).trans rfl
    have hfz31_0 := blk_frozen BK946.out 0
    have hfz31_1 := blk_frozen BK946.out 1
    have hfz31_2 := blk_frozen BK946.out 2
    go_wp2
    go_meet
    case rel => exact ⟨_, (decide (t938 ≥ t942)), (by first | rfl | (simp; done) | (simp [*]; done)), H', ⟨by first | omega | exact Nat.le_refl _⟩, ⟨by (with_reducible repeat (first | refine blk_drewN ?_ _ | refine blk_drew ?_ | refine blk_alloc ?_ _)); refine blk_far ?_ NB935_946.out _; (with_reducible repeat (first | refine blk_drewN ?_ _ | refine blk_drew ?_ | refine blk_alloc ?_ _)); refine blk_far ?_ NB935_946.out _; (with_reducible repeat (first | refine blk_drewN ?_ _ | refine blk_drew ?_ | refine blk_alloc ?_ _)); refine blk_far ?_ NB935_946.out _; (with_reducible repeat (first | refine blk_drewN ?_ _ | refine blk_drew ?_ | refine blk_alloc ?_ _)); refine blk_far ?_ NB935_945.out _; (with_reducible repeat (first | refine blk_drewN ?_ _ | refine blk_drew ?_ | refine blk_alloc ?_ _)); refine blk_far ?_ NB935_945.out _; (with_reducible repeat (first | refine blk_drewN ?_ _ | refine blk_drew ?_ | refine blk_alloc ?_ _)); refine blk_far ?_ NB935_945.out _; (with_reducible repeat (first | refine blk_drewN ?_ _ | refine blk_drew ?_ | refine blk_alloc ?_ _)); exact BK935.out⟩, ⟨by (with_reducible repeat (first | refine blk_drewN ?_ _ | refine blk_drew ?_ | refine blk_alloc ?_ _)); refine blk_far ?_ NB936_946.out _; (with_reducible repeat (first | refine blk_drewN ?_ _ | refine blk_drew ?_ | refine blk_alloc ?_ _)); refine blk_far ?_ NB936_946.out _; (with_reducible repeat (first | refine blk_drewN ?_ _ | refine blk_drew ?_ | refine blk_alloc ?_ _)); refine blk_far ?_ NB936_946.out _; (with_reducible repeat (first | refine blk_drewN ?_ _ | refine blk_drew ?_ | refine blk_alloc ?_ _)); refine blk_far ?_ NB936_945.out _; (with_reducible repeat (first | refine blk_drewN ?_ _ | refine blk_drew ?_ | refine blk_alloc ?_ _)); refine blk_far ?_ NB936_945.out _; (with_reducible repeat (first | refine blk_drewN ?_ _ | refine blk_drew ?_ | refine blk_alloc ?_ _)); refine blk_far ?_ NB936_945.out _; (with_reducible repeat (first | refine blk_drewN ?_ _ | refine blk_drew ?_ | refine blk_alloc ?_ _)); exact BK936.out⟩, ⟨by (with_reducible repeat (first | refine blk_drewN ?_ _ | refine blk_drew ?_ | refine blk_alloc ?_ _)); refine blk_far ?_ NB945_946.out _; (with_reducible repeat (first | refine blk_drewN ?_ _ | refine blk_drew ?_ | refine blk_alloc ?_ _)); refine blk_far ?_ NB945_946.out _; (with_reducible repeat (first | refine blk_drewN ?_ _ | refine blk_drew ?_ | refine blk_alloc ?_ _)); refine blk_far ?_ NB945_946.out _; (with_reducible repeat (first | refine blk_drewN ?_ _ | refine blk_drew ?_ | refine blk_alloc ?_ _)); refine blk_put (cs := #[.int .i64 t938, .string t939, .int .i64 0]) ?_ 2 _ rfl; (with_reducible repeat (first | refine blk_drewN ?_ _ | refine blk_drew ?_ | refine blk_alloc ?_ _)); refine blk_put (cs := #[.int .i64 t938, .string (⟨#[]⟩ : ByteArray), .int .i64 0]) ?_ 1 _ rfl; (with_reducible repeat (first | refine blk_drewN ?_ _ | refine blk_drew ?_ | refine blk_alloc ?_ _)); refine blk_put (cs := #[.int .i64 0, .string (⟨#[]⟩ : ByteArray), .int .i64 0]) ?_ 0 _ rfl; (with_reducible repeat (first | refine blk_drewN ?_ _ | refine blk_drew ?_ | refine blk_alloc ?_ _)); exact BK945.out⟩, ⟨by (with_reducible repeat (first | refine blk_drewN ?_ _ | refine blk_drew ?_ | refine blk_alloc ?_ _)); refine blk_put (cs := #[.int .i64 t942, .string t943, .int .i64 0]) ?_ 2 _ rfl; (with_reducible repeat (first | refine blk_drewN ?_ _ | refine blk_drew ?_ | refine blk_alloc ?_ _)); refine blk_put (cs := #[.int .i64 t942, .string (⟨#[]⟩ : ByteArray), .int .i64 0]) ?_ 1 _ rfl; (with_reducible repeat (first | refine blk_drewN ?_ _ | refine blk_drew ?_ | refine blk_alloc ?_ _)); refine blk_put (cs := #[.int .i64 0, .string (⟨#[]⟩ : ByteArray), .int .i64 0]) ?_ 0 _ rfl; (with_reducible repeat (first | refine blk_drewN ?_ _ | refine blk_drew ?_ | refine blk_alloc ?_ _)); refine blk_far ?_ NB946_945.out _; (with_reducible repeat (first | refine blk_drewN ?_ _ | refine blk_drew ?_ | refine blk_alloc ?_ _)); refine blk_far ?_ NB946_945.out _; (with_reducible repeat (first | refine blk_drewN ?_ _ | refine blk_drew ?_ | refine blk_alloc ?_ _)); refine blk_far ?_ NB946_945.out _; (with_reducible repeat (first | refine blk_drewN ?_ _ | refine blk_drew ?_ | refine blk_alloc ?_ _)); exact BK946.out⟩, ⟨zg4_ HB.out GE935.out GE936.out GE945.out GE946.out⟩⟩
   ·
    rw [if_neg c24] at H
    have c24b0 : (t944 == 0) = false := beq_eq_false_iff_ne.mpr c24
    have c24b1 : (t944 != 0) = true := bne_iff_ne.mpr c24
    have H' := zA_ H
    clear H
    have hnb32 := NB945_935.out
    have hnc32 := NB935_945.out
    have hnb33 := NB945_936.out
    have hnc33 := NB936_945.out
    have hnb34 := NB945_946.out
    have hnc34 := NB946_945.out
    have hcz35_0 : w16.cell? ⟨gb945, 0, none⟩ = some (.int .i64 0) := (blk_cell BK945.out 0).trans rfl
    have hcz35_1 : w16.cell? ⟨gb945, 1, none⟩ = some (.string (⟨#[]⟩ : ByteArray)) := (blk_cell BK945.out 1).trans rfl
    have hcz35_2 : w16.cell? ⟨gb945, 2, none⟩ = some (.int .i64 0) := (blk_cell BK945.out 2).trans rfl
    have hfz35_0 := blk_frozen BK945.out 0
    have hfz35_1 := blk_frozen BK945.out 1
    have hfz35_2 := blk_frozen BK945.out 2
    have hnb36 := NB946_935.out
    have hnc36 := NB935_946.out
    have hnb37 := NB946_936.out
    have hnc37 := NB936_946.out
    have hcz38_0 : w16.cell? ⟨gb946, 0, none⟩ = some (.int .i64 0) := (blk_cell BK946.out 0).trans rfl
    have hcz38_1 : w16.cell? ⟨gb946, 1, none⟩ = some (.string (⟨#[]⟩ : ByteArray)) := (blk_cell BK946.out 1).trans rfl
    have hcz38_2 : w16.cell? ⟨gb946, 2, none⟩ = some (.int .i64 0) := (blk_cell BK946.out 2).trans rfl
    have hfz38_0 := blk_frozen BK946.out 0
    have hfz38_1 := blk_frozen BK946.out 1
    have hfz38_2 := blk_frozen BK946.out 2
    go_wp2
    go_meet
    case rel => exact ⟨_, (true), (by first | rfl | (simp; done) | (simp [*]; done)), H', ⟨by first | omega | exact Nat.le_refl _⟩, ⟨by (with_reducible repeat (first | refine blk_drewN ?_ _ | refine blk_drew ?_ | refine blk_alloc ?_ _)); refine blk_far ?_ NB935_946.out _; (with_reducible repeat (first | refine blk_drewN ?_ _ | refine blk_drew ?_ | refine blk_alloc ?_ _)); refine blk_far ?_ NB935_946.out _; (with_reducible repeat (first | refine blk_drewN ?_ _ | refine blk_drew ?_ | refine blk_alloc ?_ _)); refine blk_far ?_ NB935_946.out _; (with_reducible repeat (first | refine blk_drewN ?_ _ | refine blk_drew ?_ | refine blk_alloc ?_ _)); refine blk_far ?_ NB935_945.out _; (with_reducible repeat (first | refine blk_drewN ?_ _ | refine blk_drew ?_ | refine blk_alloc ?_ _)); refine blk_far ?_ NB935_945.out _; (with_reducible repeat (first | refine blk_drewN ?_ _ | refine blk_drew ?_ | refine blk_alloc ?_ _)); refine blk_far ?_ NB935_945.out _; (with_reducible repeat (first | refine blk_drewN ?_ _ | refine blk_drew ?_ | refine blk_alloc ?_ _)); exact BK935.out⟩, ⟨by (with_reducible repeat (first | refine blk_drewN ?_ _ | refine blk_drew ?_ | refine blk_alloc ?_ _)); refine blk_far ?_ NB936_946.out _; (with_reducible repeat (first | refine blk_drewN ?_ _ | refine blk_drew ?_ | refine blk_alloc ?_ _)); refine blk_far ?_ NB936_946.out _; (with_reducible repeat (first | refine blk_drewN ?_ _ | refine blk_drew ?_ | refine blk_alloc ?_ _)); refine blk_far ?_ NB936_946.out _; (with_reducible repeat (first | refine blk_drewN ?_ _ | refine blk_drew ?_ | refine blk_alloc ?_ _)); refine blk_far ?_ NB936_945.out _; (with_reducible repeat (first | refine blk_drewN ?_ _ | refine blk_drew ?_ | refine blk_alloc ?_ _)); refine blk_far ?_ NB936_945.out _; (with_reducible repeat (first | refine blk_drewN ?_ _ | refine blk_drew ?_ | refine blk_alloc ?_ _)); refine blk_far ?_ NB936_945.out _; (with_reducible repeat (first | refine blk_drewN ?_ _ | refine blk_drew ?_ | refine blk_alloc ?_ _)); exact BK936.out⟩, ⟨by (with_reducible repeat (first | refine blk_drewN ?_ _ | refine blk_drew ?_ | refine blk_alloc ?_ _)); refine blk_far ?_ NB945_946.out _; (with_reducible repeat (first | refine blk_drewN ?_ _ | refine blk_drew ?_ | refine blk_alloc ?_ _)); refine blk_far ?_ NB945_946.out _; (with_reducible repeat (first | refine blk_drewN ?_ _ | refine blk_drew ?_ | refine blk_alloc ?_ _)); refine blk_far ?_ NB945_946.out _; (with_reducible repeat (first | refine blk_drewN ?_ _ | refine blk_drew ?_ | refine blk_alloc ?_ _)); refine blk_put (cs := #[.int .i64 t938, .string t939, .int .i64 0]) ?_ 2 _ rfl; (with_reducible repeat (first | refine blk_drewN ?_ _ | refine blk_drew ?_ | refine blk_alloc ?_ _)); refine blk_put (cs := #[.int .i64 t938, .string (⟨#[]⟩ : ByteArray), .int .i64 0]) ?_ 1 _ rfl; (with_reducible repeat (first | refine blk_drewN ?_ _ | refine blk_drew ?_ | refine blk_alloc ?_ _)); refine blk_put (cs := #[.int .i64 0, .string (⟨#[]⟩ : ByteArray), .int .i64 0]) ?_ 0 _ rfl; (with_reducible repeat (first | refine blk_drewN ?_ _ | refine blk_drew ?_ | refine blk_alloc ?_ _)); exact BK945.out⟩, ⟨by (with_reducible repeat (first | refine blk_drewN ?_ _ | refine blk_drew ?_ | refine blk_alloc ?_ _)); refine blk_put (cs := #[.int .i64 t942, .string t943, .int .i64 0]) ?_ 2 _ rfl; (with_reducible repeat (first | refine blk_drewN ?_ _ | refine blk_drew ?_ | refine blk_alloc ?_ _)); refine blk_put (cs := #[.int .i64 t942, .string (⟨#[]⟩ : ByteArray), .int .i64 0]) ?_ 1 _ rfl; (with_reducible repeat (first | refine blk_drewN ?_ _ | refine blk_drew ?_ | refine blk_alloc ?_ _)); refine blk_put (cs := #[.int .i64 0, .string (⟨#[]⟩ : ByteArray), .int .i64 0]) ?_ 0 _ rfl; (with_reducible repeat (first | refine blk_drewN ?_ _ | refine blk_drew ?_ | refine blk_alloc ?_ _)); refine blk_far ?_ NB946_945.out _; (with_reducible repeat (first | refine blk_drewN ?_ _ | refine blk_drew ?_ | refine blk_alloc ?_ _)); refine blk_far ?_ NB946_945.out _; (with_reducible repeat (first | refine blk_drewN ?_ _ | refine blk_drew ?_ | refine blk_alloc ?_ _)); refine blk_far ?_ NB946_945.out _; (with_reducible repeat (first | refine blk_drewN ?_ _ | refine blk_drew ?_ | refine blk_alloc ?_ _)); exact BK946.out⟩, ⟨zg4_ HB.out GE935.out GE936.out GE945.out GE946.out⟩⟩
  ·
   rw [if_neg c23] at H
   have c23b0 : (t940 == 0) = false := beq_eq_false_iff_ne.mpr c23
   have c23b1 : (t940 != 0) = true := bne_iff_ne.mpr c23
   (first | rw [c23b0] | (simp only [i64_w, i32_w]; rw [c23b0]) | skip)
   have H' := zA_ H
   clear H
   have hnb39 := NB945_935.out
   have hnc39 := NB935_945.out
   have hnb40 := NB945_936.out
   have hnc40 := NB936_945.out
   have hnb41 := NB945_946.out
   have hnc41 := NB946_945.out
   have hcz42_0 : w16.cell? ⟨gb945, 0, none⟩ = some (.int .i64 0) := (blk_cell BK945.out 0).trans rfl
   have hcz42_1 : w16.cell? ⟨gb945, 1, none⟩ = some (.string (⟨#[]⟩ : ByteArray)) := (blk_cell BK945.out 1).trans rfl
   have hcz42_2 : w16.cell? ⟨gb945, 2, none⟩ = some (.int .i64 0) := (blk_cell BK945.out 2).trans rfl
   have hfz42_0 := blk_frozen BK945.out 0
   have hfz42_1 := blk_frozen BK945.out 1
   have hfz42_2 := blk_frozen BK945.out 2
   go_wp2
   go_meet
   case rel => exact ⟨_, (false), (by first | rfl | (simp; done) | (simp [*]; done)), H', ⟨by first | omega | exact Nat.le_refl _⟩, ⟨by (with_reducible repeat (first | refine blk_drewN ?_ _ | refine blk_drew ?_ | refine blk_alloc ?_ _)); refine blk_far ?_ NB935_946.out _; (with_reducible repeat (first | refine blk_drewN ?_ _ | refine blk_drew ?_ | refine blk_alloc ?_ _)); refine blk_far ?_ NB935_946.out _; (with_reducible repeat (first | refine blk_drewN ?_ _ | refine blk_drew ?_ | refine blk_alloc ?_ _)); refine blk_far ?_ NB935_946.out _; (with_reducible repeat (first | refine blk_drewN ?_ _ | refine blk_drew ?_ | refine blk_alloc ?_ _)); refine blk_far ?_ NB935_945.out _; (with_reducible repeat (first | refine blk_drewN ?_ _ | refine blk_drew ?_ | refine blk_alloc ?_ _)); refine blk_far ?_ NB935_945.out _; (with_reducible repeat (first | refine blk_drewN ?_ _ | refine blk_drew ?_ | refine blk_alloc ?_ _)); refine blk_far ?_ NB935_945.out _; (with_reducible repeat (first | refine blk_drewN ?_ _ | refine blk_drew ?_ | refine blk_alloc ?_ _)); exact BK935.out⟩, ⟨by (with_reducible repeat (first | refine blk_drewN ?_ _ | refine blk_drew ?_ | refine blk_alloc ?_ _)); refine blk_far ?_ NB936_946.out _; (with_reducible repeat (first | refine blk_drewN ?_ _ | refine blk_drew ?_ | refine blk_alloc ?_ _)); refine blk_far ?_ NB936_946.out _; (with_reducible repeat (first | refine blk_drewN ?_ _ | refine blk_drew ?_ | refine blk_alloc ?_ _)); refine blk_far ?_ NB936_946.out _; (with_reducible repeat (first | refine blk_drewN ?_ _ | refine blk_drew ?_ | refine blk_alloc ?_ _)); refine blk_far ?_ NB936_945.out _; (with_reducible repeat (first | refine blk_drewN ?_ _ | refine blk_drew ?_ | refine blk_alloc ?_ _)); refine blk_far ?_ NB936_945.out _; (with_reducible repeat (first | refine blk_drewN ?_ _ | refine blk_drew ?_ | refine blk_alloc ?_ _)); refine blk_far ?_ NB936_945.out _; (with_reducible repeat (first | refine blk_drewN ?_ _ | refine blk_drew ?_ | refine blk_alloc ?_ _)); exact BK936.out⟩, ⟨by (with_reducible repeat (first | refine blk_drewN ?_ _ | refine blk_drew ?_ | refine blk_alloc ?_ _)); refine blk_far ?_ NB945_946.out _; (with_reducible repeat (first | refine blk_drewN ?_ _ | refine blk_drew ?_ | refine blk_alloc ?_ _)); refine blk_far ?_ NB945_946.out _; (with_reducible repeat (first | refine blk_drewN ?_ _ | refine blk_drew ?_ | refine blk_alloc ?_ _)); refine blk_far ?_ NB945_946.out _; (with_reducible repeat (first | refine blk_drewN ?_ _ | refine blk_drew ?_ | refine blk_alloc ?_ _)); refine blk_put (cs := #[.int .i64 t938, .string t939, .int .i64 0]) ?_ 2 _ rfl; (with_reducible repeat (first | refine blk_drewN ?_ _ | refine blk_drew ?_ | refine blk_alloc ?_ _)); refine blk_put (cs := #[.int .i64 t938, .string (⟨#[]⟩ : ByteArray), .int .i64 0]) ?_ 1 _ rfl; (with_reducible repeat (first | refine blk_drewN ?_ _ | refine blk_drew ?_ | refine blk_alloc ?_ _)); refine blk_put (cs := #[.int .i64 0, .string (⟨#[]⟩ : ByteArray), .int .i64 0]) ?_ 0 _ rfl; (with_reducible repeat (first | refine blk_drewN ?_ _ | refine blk_drew ?_ | refine blk_alloc ?_ _)); exact BK945.out⟩, ⟨by (with_reducible repeat (first | refine blk_drewN ?_ _ | refine blk_drew ?_ | refine blk_alloc ?_ _)); refine blk_put (cs := #[.int .i64 t942, .string t943, .int .i64 0]) ?_ 2 _ rfl; (with_reducible repeat (first | refine blk_drewN ?_ _ | refine blk_drew ?_ | refine blk_alloc ?_ _)); refine blk_put (cs := #[.int .i64 t942, .string (⟨#[]⟩ : ByteArray), .int .i64 0]) ?_ 1 _ rfl; (with_reducible repeat (first | refine blk_drewN ?_ _ | refine blk_drew ?_ | refine blk_alloc ?_ _)); refine blk_put (cs := #[.int .i64 0, .string (⟨#[]⟩ : ByteArray), .int .i64 0]) ?_ 0 _ rfl; (with_reducible repeat (first | refine blk_drewN ?_ _ | refine blk_drew ?_ | refine blk_alloc ?_ _)); refine blk_far ?_ NB946_945.out _; (with_reducible repeat (first | refine blk_drewN ?_ _ | refine blk_drew ?_ | refine blk_alloc ?_ _)); refine blk_far ?_ NB946_945.out _; (with_reducible repeat (first | refine blk_drewN ?_ _ | refine blk_drew ?_ | refine blk_alloc ?_ _)); refine blk_far ?_ NB946_945.out _; (with_reducible repeat (first | refine blk_drewN ?_ _ | refine blk_drew ?_ | refine blk_alloc ?_ _)); exact BK946.out⟩, ⟨zg4_ HB.out GE935.out GE936.out GE945.out GE946.out⟩⟩
 case rest =>
  clear HC6
  try clear c2
  try clear p2
  try clear c3
  try clear c4
  try clear c23
  try clear c23b0
  try clear c23b1
  try clear c24
  try clear c24b0
  try clear c24b1
  try clear c25
  try clear c26
  try clear c27
  try clear c29
  try clear c30
  try clear c32
  try clear c33
  try clear c34
  try clear c36
  try clear c37
  try clear c39
  try clear c40
  try clear c41
  try clear hcz28_0
  try clear hcz28_1
  try clear hcz28_2
  try clear hcz31_0
  try clear hcz31_1
  try clear hcz31_2
  try clear hcz35_0
  try clear hcz35_1
  try clear hcz35_2
  try clear hcz38_0
  try clear hcz38_1
  try clear hcz38_2
  try clear hcz42_0
  try clear hcz42_1
  try clear hcz42_2
  try clear hfz28_0
  try clear hfz28_1
  try clear hfz28_2
  try clear hfz31_0
  try clear hfz31_1
  try clear hfz31_2
  try clear hfz35_0
  try clear hfz35_1
  try clear hfz35_2
  try clear hfz38_0
  try clear hfz38_1
  try clear hfz38_2
  try clear hfz42_0
  try clear hfz42_1
  try clear hfz42_2
  obtain ⟨kq, x12_5, rfl, HA, HJ5, BK935, BK936, BK945, BK946, HB⟩ := hcut
  cases kq with
  | zero => exact absurd HA.out (by simp [spec_l04Get.j0])
  | succ kj5 =>
   have H := HA.out
   clear HA
   simp only [spec_l04Get.j0] at H
   by_cases c43 : x12_5 = true
   ·
    subst c43
    have H1 : (some (t938, t939, t940, 0)) = some (r1, r2, r3, r4) := by rw [if_pos rfl] at H; exact H
    clear H
    have H := H1
    clear H1
    simp only [Option.some.injEq, Prod.mk.injEq] at H
    obtain ⟨rfl, rfl, rfl, rfl⟩ := H
    have hnb44 := NB945_935.out
    have hnc44 := NB935_945.out
    have hnb45 := NB945_936.out
    have hnc45 := NB936_945.out
    have hnb46 := NB945_946.out
    have hnc46 := NB946_945.out
    have hcz47_0 : wc.cell? ⟨gb945, 0, none⟩ = some (.int .i64 t938) := (blk_cell BK945.out 0).trans rfl
    have hcz47_1 : wc.cell? ⟨gb945, 1, none⟩ = some (.string t939) := (blk_cell BK945.out 1).trans rfl
    have hcz47_2 : wc.cell? ⟨gb945, 2, none⟩ = some (.int .i64 t940) := (blk_cell BK945.out 2).trans rfl
    have hfz47_0 := blk_frozen BK945.out 0
    have hfz47_1 := blk_frozen BK945.out 1
    have hfz47_2 := blk_frozen BK945.out 2
    have hnb48 := NB936_935.out
    have hnc48 := NB935_936.out
    have hnb49 := NB936_946.out
    have hnc49 := NB946_936.out
    have hcz50_0 : wc.cell? ⟨gb936, 0, none⟩ = some (.int .i64 0) := (blk_cell BK936.out 0).trans rfl
    have hcz50_1 : wc.cell? ⟨gb936, 1, none⟩ = some (.string (⟨#[]⟩ : ByteArray)) := (blk_cell BK936.out 1).trans rfl
    have hcz50_2 : wc.cell? ⟨gb936, 2, none⟩ = some (.int .i64 0) := (blk_cell BK936.out 2).trans rfl
    have hfz50_0 := blk_frozen BK936.out 0
    have hfz50_1 := blk_frozen BK936.out 1
    have hfz50_2 := blk_frozen BK936.out 2
    go_wp2
    refine bodyPost_ret (results_ct rfl _ _ gb936 41 #[.int .i64 t938, .string t939, .int .i64 t940] (0, 0) _ rfl (by (with_reducible repeat (first | refine blk_drewN ?_ _ | refine blk_drew ?_ | refine blk_alloc ?_ _)); refine blk_put (cs := #[.int .i64 t938, .string t939, .int .i64 0]) ?_ 2 _ rfl; (with_reducible repeat (first | refine blk_drewN ?_ _ | refine blk_drew ?_ | refine blk_alloc ?_ _)); refine blk_put (cs := #[.int .i64 t938, .string (⟨#[]⟩ : ByteArray), .int .i64 0]) ?_ 1 _ rfl; (with_reducible repeat (first | refine blk_drewN ?_ _ | refine blk_drew ?_ | refine blk_alloc ?_ _)); refine blk_put (cs := #[.int .i64 0, .string (⟨#[]⟩ : ByteArray), .int .i64 0]) ?_ 0 _ rfl; (with_reducible repeat (first | refine blk_drewN ?_ _ | refine blk_drew ?_ | refine blk_alloc ?_ _)); exact BK936.out) Try.underlying41 rfl (by kernel_rfl)) rfl ?_
    exact ⟨by first | rfl | (simp [errW_none, errW_some] <;> rfl) | (simp [*, errW_none, errW_some] <;> rfl), by repeat (first | (with_reducible first | exact HB.out | apply below_alloc | apply pw_below_drewN | apply below_drew1 | refine below_set ?_ GE935.out | refine below_set ?_ GE936.out | refine below_set ?_ GE945.out | refine below_set ?_ GE946.out) | exact HB.out)⟩
   ·
    replace c43 := Bool.eq_false_iff.mpr c43
    subst c43
    have H1 : (if t944 = 0 then (some (t942, t943, t944, 1)) else (some (0, (⟨#[]⟩ : ByteArray), 6, (-1)))) = some (r1, r2, r3, r4) := by rw [if_neg (show ¬ (false = true) by decide)] at H; exact H
    clear H
    have H := H1
    clear H1
    by_cases c51 : t944 = 0
    ·
     rw [if_pos c51] at H
     have c51b0 : (t944 == 0) = true := beq_iff_eq.mpr c51
     have c51b1 : (t944 != 0) = false := bne_eq_false_iff_eq.mpr c51
     clear c51
     simp only [Option.some.injEq, Prod.mk.injEq] at H
     obtain ⟨rfl, rfl, rfl, rfl⟩ := H
     have hnb52 := NB946_935.out
     have hnc52 := NB935_946.out
     have hnb53 := NB946_936.out
     have hnc53 := NB936_946.out
     have hnb54 := NB946_945.out
     have hnc54 := NB945_946.out
     have hcz55_0 : wc.cell? ⟨gb946, 0, none⟩ = some (.int .i64 t942) := (blk_cell BK946.out 0).trans rfl
     have hcz55_1 : wc.cell? ⟨gb946, 1, none⟩ = some (.string t943) := (blk_cell BK946.out 1).trans rfl
     have hcz55_2 : wc.cell? ⟨gb946, 2, none⟩ = some (.int .i64 t944) := (blk_cell BK946.out 2).trans rfl
     have hfz55_0 := blk_frozen BK946.out 0
     have hfz55_1 := blk_frozen BK946.out 1
     have hfz55_2 := blk_frozen BK946.out 2
     have hnb56 := NB936_935.out
     have hnc56 := NB935_936.out
     have hnb57 := NB936_945.out
     have hnc57 := NB945_936.out
     have hcz58_0 : wc.cell? ⟨gb936, 0, none⟩ = some (.int .i64 0) := (blk_cell BK936.out 0).trans rfl
     have hcz58_1 : wc.cell? ⟨gb936, 1, none⟩ = some (.string (⟨#[]⟩ : ByteArray)) := (blk_cell BK936.out 1).trans rfl
     have hcz58_2 : wc.cell? ⟨gb936, 2, none⟩ = some (.int .i64 0) := (blk_cell BK936.out 2).trans rfl
     have hfz58_0 := blk_frozen BK936.out 0
     have hfz58_1 := blk_frozen BK936.out 1
     have hfz58_2 := blk_frozen BK936.out 2
     go_wp2
     refine bodyPost_ret (results_ct rfl _ _ gb936 41 #[.int .i64 t942, .string t943, .int .i64 t944] (0, 0) _ rfl (by (with_reducible repeat (first | refine blk_drewN ?_ _ | refine blk_drew ?_ | refine blk_alloc ?_ _)); refine blk_put (cs := #[.int .i64 t942, .string t943, .int .i64 0]) ?_ 2 _ rfl; (with_reducible repeat (first | refine blk_drewN ?_ _ | refine blk_drew ?_ | refine blk_alloc ?_ _)); refine blk_put (cs := #[.int .i64 t942, .string (⟨#[]⟩ : ByteArray), .int .i64 0]) ?_ 1 _ rfl; (with_reducible repeat (first | refine blk_drewN ?_ _ | refine blk_drew ?_ | refine blk_alloc ?_ _)); refine blk_put (cs := #[.int .i64 0, .string (⟨#[]⟩ : ByteArray), .int .i64 0]) ?_ 0 _ rfl; (with_reducible repeat (first | refine blk_drewN ?_ _ | refine blk_drew ?_ | refine blk_alloc ?_ _)); exact BK936.out) Try.underlying41 rfl (by kernel_rfl)) rfl ?_
     exact ⟨by first | rfl | (simp [errW_none, errW_some] <;> rfl) | (simp [*, errW_none, errW_some] <;> rfl), by repeat (first | (with_reducible first | exact HB.out | apply below_alloc | apply pw_below_drewN | apply below_drew1 | refine below_set ?_ GE935.out | refine below_set ?_ GE936.out | refine below_set ?_ GE945.out | refine below_set ?_ GE946.out) | exact HB.out)⟩
    ·
     rw [if_neg c51] at H
     have c51b0 : (t944 == 0) = false := beq_eq_false_iff_ne.mpr c51
     have c51b1 : (t944 != 0) = true := bne_iff_ne.mpr c51
     simp only [Option.some.injEq, Prod.mk.injEq] at H
     obtain ⟨rfl, rfl, rfl, rfl⟩ := H
     have hnb59 := NB946_935.out
     have hnc59 := NB935_946.out
     have hnb60 := NB946_936.out
     have hnc60 := NB936_946.out
     have hnb61 := NB946_945.out
     have hnc61 := NB945_946.out
     have hcz62_0 : wc.cell? ⟨gb946, 0, none⟩ = some (.int .i64 t942) := (blk_cell BK946.out 0).trans rfl
     have hcz62_1 : wc.cell? ⟨gb946, 1, none⟩ = some (.string t943) := (blk_cell BK946.out 1).trans rfl
     have hcz62_2 : wc.cell? ⟨gb946, 2, none⟩ = some (.int .i64 t944) := (blk_cell BK946.out 2).trans rfl
     have hfz62_0 := blk_frozen BK946.out 0
     have hfz62_1 := blk_frozen BK946.out 1
     have hfz62_2 := blk_frozen BK946.out 2
     have hnb63 := NB936_935.out
     have hnc63 := NB935_936.out
     have hnb64 := NB936_945.out
     have hnc64 := NB945_936.out
     have hcz65_0 : wc.cell? ⟨gb936, 0, none⟩ = some (.int .i64 0) := (blk_cell BK936.out 0).trans rfl
     have hcz65_1 : wc.cell? ⟨gb936, 1, none⟩ = some (.string (⟨#[]⟩ : ByteArray)) := (blk_cell BK936.out 1).trans rfl
     have hcz65_2 : wc.cell? ⟨gb936, 2, none⟩ = some (.int .i64 0) := (blk_cell BK936.out 2).trans rfl
     have hfz65_0 := blk_frozen BK936.out 0
     have hfz65_1 := blk_frozen BK936.out 1
     have hfz65_2 := blk_frozen BK936.out 2
     go_wp2
     refine bodyPost_ret (results_ct rfl _ _ gb936 41 #[.int .i64 0, .string (⟨#[]⟩ : ByteArray), .int .i64 6] (0, 0) _ rfl (by (with_reducible repeat (first | refine blk_drewN ?_ _ | refine blk_drew ?_ | refine blk_alloc ?_ _)); refine blk_put (cs := #[.int .i64 0, .string (⟨#[]⟩ : ByteArray), .int .i64 0]) ?_ 2 _ rfl; (with_reducible repeat (first | refine blk_drewN ?_ _ | refine blk_drew ?_ | refine blk_alloc ?_ _)); refine blk_put (cs := #[.int .i64 0, .string (⟨#[]⟩ : ByteArray), .int .i64 0]) ?_ 1 _ rfl; (with_reducible repeat (first | refine blk_drewN ?_ _ | refine blk_drew ?_ | refine blk_alloc ?_ _)); refine blk_put (cs := #[.int .i64 0, .string (⟨#[]⟩ : ByteArray), .int .i64 0]) ?_ 0 _ rfl; (with_reducible repeat (first | refine blk_drewN ?_ _ | refine blk_drew ?_ | refine blk_alloc ?_ _)); exact BK936.out) Try.underlying41 rfl (by kernel_rfl)) rfl ?_
     exact ⟨by first | rfl | (simp [errW_none, errW_some] <;> rfl) | (simp [*, errW_none, errW_some] <;> rfl), by repeat (first | (with_reducible first | exact HB.out | apply below_alloc | apply pw_below_drewN | apply below_drew1 | refine below_set ?_ GE935.out | refine below_set ?_ GE936.out | refine below_set ?_ GE945.out | refine below_set ?_ GE946.out) | exact HB.out)⟩

end Go.Proofs.Ytibnmnkembbgeaa.Q
