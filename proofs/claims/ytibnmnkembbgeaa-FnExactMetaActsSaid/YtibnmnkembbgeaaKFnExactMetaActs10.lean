/- For each Go function that the laws of this text reach: a Lean function, and the proof that the Go function returns what the Lean function tells, wherever it tells some value. Written by a program of this session. -/
import Derived.Test.YtibnmnkembbgeaaKFnExactMetaActs0
import Derived.Test.YtibnmnkembbgeaaKFnExactMetaActs1
import Derived.Test.YtibnmnkembbgeaaKFnExactMetaActs2
import Derived.Test.YtibnmnkembbgeaaKFnExactMetaActs8
import Derived.Test.YtibnmnkembbgeaaKFnExactMetaActs9
namespace Go.Proofs.Ytibnmnkembbgeaa.Q
open Go.RowKit Go.Proofs.YtibnmnkembbgeaaW.PrintWords Go.Proofs.YtibnmnkembbgeaaW.PrintLast Go.Proofs.YtibnmnkembbgeaaW.PrintMore
attribute [local go_sem] max2_int min2_int max_two min_two max_three min_three max_four min_four Instr.field asAgg   -- for this text's walks alone
set_option linter.unusedVariables false
set_option linter.unusedSimpArgs false
/-! ### laws_FnExactMetaActs: function 11 -/
def laws_FnExactMetaActs.j0 : Nat → ByteArray → List (S116) → List (S116) → Bool → List ByteArray → List (S132) → Option (Bool)
 | 0, _, _, _, _, _, _ => none
 | k + 1, x1, x6, x8, x49, x1064000, x1064001 => if x49 = true then (none) else ((laws_markActS.f k x8 1).bind fun bt1096 => ((laws_heldActS.f k bt1096.2 1).bind fun t1098 => (if t1098 < 0 then (none) else (if t1098 = bt1096.1 then ((laws_toFlash.f k x1064000 x1064001).bind fun bt1099 => ((impl_MetaActs.f k bt1099.1 bt1099.2 x1).bind fun t1105 => ((laws_eqActS.f k t1105 x6).bind fun t1108 => (if t1108 = true then ((laws_heldActS.f k bt1096.2 1).bind fun t1109 => (if t1109 < 0 then (none) else (if t1109 = bt1096.1 then (some true) else (none)))) else (none))))) else (none)))))
def laws_FnExactMetaActs.f (k : Nat) (l0_0 : List ByteArray) (l0_1 : List (S132)) (a1 : ByteArray) : Option (Bool) := if (a1.size : Int) > 1048576 then (some true) else ((laws_szFlash.f k l0_0 l0_1 1048576).bind fun t1064 => (if t1064 < 0 then (some true) else ((laws_toFlash.f k l0_0 l0_1).bind fun bt1065 => ((spec_MetaActs.f k bt1065.1 bt1065.2 a1).bind fun t1071 => ((laws_toFlash.f k l0_0 l0_1).bind fun bt1074 => ((impl_MetaActs.f k bt1074.1 bt1074.2 a1).bind fun t1081 => ((laws_eqActS.f k t1081 t1071).bind fun t1084 => (if t1084 = true then ((laws_toFlash.f k l0_0 l0_1).bind fun bt1085 => ((laws_eqFlash.f k bt1074.1 bt1074.2 bt1085.1 bt1085.2).bind fun t1091 => (if t1091 = true then ((laws_markFlash.f k bt1074.1 bt1074.2 1).bind fun bt1092 => (if bt1092.1 < 0 then (laws_FnExactMetaActs.j0 k a1 t1071 t1081 true l0_0 l0_1) else ((laws_eqActS.f k t1081 t1071).bind fun t1095 => (laws_FnExactMetaActs.j0 k a1 t1071 t1081 (!t1095) l0_0 l0_1)))) else (none)))) else (none)))))))))
theorem laws_FnExactMetaActs.mono_l : ∀ k, (∀ y0 y1 y2 y3 y4 y5, LeO (laws_FnExactMetaActs.j0 k y0 y1 y2 y3 y4 y5) (laws_FnExactMetaActs.j0 (k + 1) y0 y1 y2 y3 y4 y5))
 | 0 => fun _ _ _ _ _ _ r h => by simp [laws_FnExactMetaActs.j0] at h
 | k + 1 => by
  have ih0 := laws_FnExactMetaActs.mono_l k
  ·
   intro y0 y1 y2 y3 y4 y5
   unfold laws_FnExactMetaActs.j0
   repeat' first
   | (with_reducible exact ih0 _ _ _ _ _ _)
   | (with_reducible exact impl_MetaActs.mono _ _ _ _)
   | (with_reducible exact laws_eqActS.mono _ _ _)
   | (with_reducible exact laws_eqFlash.mono _ _ _ _ _)
   | (with_reducible exact laws_heldActS.mono _ _ _)
   | (with_reducible exact laws_markActS.mono _ _ _)
   | (with_reducible exact laws_markFlash.mono _ _ _ _)
   | (with_reducible exact laws_szFlash.mono _ _ _ _)
   | (with_reducible exact laws_toFlash.mono _ _ _)
   | (with_reducible exact spec_MetaActs.mono _ _ _ _)
   | (with_reducible exact LeO.refl _)
   | (with_reducible exact LeO.none _)
   | (with_reducible refine LeO.ite ?_ ?_)
   | (with_reducible refine LeO.bind ?_ (fun _ => ?_))
   | exact ih0 _ _ _ _ _ _
   | exact impl_MetaActs.mono _ _ _ _
   | exact laws_eqActS.mono _ _ _
   | exact laws_eqFlash.mono _ _ _ _ _
   | exact laws_heldActS.mono _ _ _
   | exact laws_markActS.mono _ _ _
   | exact laws_markFlash.mono _ _ _ _
   | exact laws_szFlash.mono _ _ _ _
   | exact laws_toFlash.mono _ _ _
   | exact spec_MetaActs.mono _ _ _ _
   | exact LeO.none _
   | refine LeO.ite ?_ ?_
   | refine LeO.bind ?_ (fun _ => ?_)
theorem laws_FnExactMetaActs.mono : ∀ a0 a1 a2 k, LeO (laws_FnExactMetaActs.f k a0 a1 a2) (laws_FnExactMetaActs.f (k + 1) a0 a1 a2) := by
 intro a0 a1 a2 k
 have ih0 := laws_FnExactMetaActs.mono_l k
 unfold laws_FnExactMetaActs.f
 repeat' first
   | (with_reducible exact ih0 _ _ _ _ _ _)
   | (with_reducible exact impl_MetaActs.mono _ _ _ _)
   | (with_reducible exact laws_eqActS.mono _ _ _)
   | (with_reducible exact laws_eqFlash.mono _ _ _ _ _)
   | (with_reducible exact laws_heldActS.mono _ _ _)
   | (with_reducible exact laws_markActS.mono _ _ _)
   | (with_reducible exact laws_markFlash.mono _ _ _ _)
   | (with_reducible exact laws_szFlash.mono _ _ _ _)
   | (with_reducible exact laws_toFlash.mono _ _ _)
   | (with_reducible exact spec_MetaActs.mono _ _ _ _)
   | (with_reducible exact LeO.refl _)
   | (with_reducible exact LeO.none _)
   | (with_reducible refine LeO.ite ?_ ?_)
   | (with_reducible refine LeO.bind ?_ (fun _ => ?_))
   | exact ih0 _ _ _ _ _ _
   | exact impl_MetaActs.mono _ _ _ _
   | exact laws_eqActS.mono _ _ _
   | exact laws_eqFlash.mono _ _ _ _ _
   | exact laws_heldActS.mono _ _ _
   | exact laws_markActS.mono _ _ _
   | exact laws_markFlash.mono _ _ _ _
   | exact laws_szFlash.mono _ _ _ _
   | exact laws_toFlash.mono _ _ _
   | exact spec_MetaActs.mono _ _ _ _
   | exact LeO.none _
   | refine LeO.ite ?_ ?_
   | refine LeO.bind ?_ (fun _ => ?_)
set_option maxHeartbeats 8000000 in
set_option maxRecDepth 100000 in
theorem laws_FnExactMetaActs.calls (k : Nat) (A0_0 : Option Addr) (c0_0 : Nat) (l0_0 : List ByteArray) (A0_1 : Option Addr) (c0_1 : Nat) (l0_1 : List (S132)) (a1 : ByteArray) (r : Bool) (w : World) (hr0_0 : Kd.C Kd.string w A0_0 l0_0.length l0_0) (hc0_0 : l0_0.length ≤ c0_0) (hr0_1 : Kd.C k132 w A0_1 l0_1.length l0_1) (hc0_1 : l0_1.length ≤ c0_1) (h : laws_FnExactMetaActs.f k l0_0 l0_1 a1 = some r) :
  Calls Try.prog 11 #[.agg #[.slice A0_0 l0_0.length c0_0, .slice A0_1 l0_1.length c0_1], .string a1] w fun e w' => e = .returned (.bool r) ∧ Below w.heap.size w w' := by
 have hu25 := Try.underlying25
 have hu30 := Try.underlying30
 have HR0_0 := zA_ hr0_0
 have HC0_0 := zA_ hc0_0
 clear hr0_0 hc0_0
 have HR0_1 := zA_ hr0_1
 have HC0_1 := zA_ hc0_1
 clear hr0_1 hc0_1
 have HB := zA_ (Below.refl w.heap.size w)
 have H : (if (a1.size : Int) > 1048576 then (some true) else ((laws_szFlash.f k l0_0 l0_1 1048576).bind fun t1064 => (if t1064 < 0 then (some true) else ((laws_toFlash.f k l0_0 l0_1).bind fun bt1065 => ((spec_MetaActs.f k bt1065.1 bt1065.2 a1).bind fun t1071 => ((laws_toFlash.f k l0_0 l0_1).bind fun bt1074 => ((impl_MetaActs.f k bt1074.1 bt1074.2 a1).bind fun t1081 => ((laws_eqActS.f k t1081 t1071).bind fun t1084 => (if t1084 = true then ((laws_toFlash.f k l0_0 l0_1).bind fun bt1085 => ((laws_eqFlash.f k bt1074.1 bt1074.2 bt1085.1 bt1085.2).bind fun t1091 => (if t1091 = true then ((laws_markFlash.f k bt1074.1 bt1074.2 1).bind fun bt1092 => (if bt1092.1 < 0 then (laws_FnExactMetaActs.j0 k a1 t1071 t1081 true l0_0 l0_1) else ((laws_eqActS.f k t1081 t1071).bind fun t1095 => (laws_FnExactMetaActs.j0 k a1 t1071 t1081 (!t1095) l0_0 l0_1)))) else (none)))) else (none)))))))))) = some r := h
 clear h
 by_cases c3 : (a1.size : Int) > 1048576
 ·
  rw [if_pos c3] at H
  have c3b0 : decide (1048576 < (a1.size : Int)) = true := decide_eq_true c3
  have c3b1 : decide (1048576 < a1.size) = true := decide_eq_true (by omega)
  clear c3
  obtain rfl := Option.some.inj H
  go_enter Try.func11, Try.ntmps11
  go_wp2_with (first | ((with_reducible refine gate_dst (N := 2) rfl ?_); refine box_event ?hg (N := 2) ?hd (cs := #[.slice A0_0 l0_0.length c0_0, .slice A0_1 l0_1.length c0_1]) (t := 25) ?hr ?_; (case hd => rfl); (case hg => rfl); (case hr => first | (go_simp; done) | (go_simp; rfl)); intro gb1063 hg w4 hbox hb; have n0_ := zA_ (below_step (zh_ HB.out) hb); have n1_ := zA_ (hbox); have n2_ := zA_ ((by rw [hg]; exact (below_size (zh_ HB.out)) : w.heap.size ≤ gb1063)); have n3_ := zA_ ((by rw [hg]; exact (below_size (zh_ HB.out)) : w.heap.size ≤ gb1063)); clear HB; have HB := n0_; have BK1063 := n1_; have GW1063 := n2_; have GE1063 := n3_; clear n0_ n1_ n2_ n3_; clear hb hbox hg))
  go_ret
  exact ⟨by first | rfl | (simp [errW_none, errW_some] <;> rfl) | (simp [*, errW_none, errW_some] <;> rfl), by repeat (first | (with_reducible first | exact HB.out | apply below_alloc | apply pw_below_drewN | apply below_drew1 | refine below_set ?_ GE1063.out) | exact HB.out)⟩
 ·
  rw [if_neg c3] at H
  have c3b0 : decide (1048576 < (a1.size : Int)) = false := decide_eq_false c3
  have c3b1 : decide (1048576 < a1.size) = false := decide_eq_false (by omega)
  clear c3
  replace H := Option.bind_eq_some_iff.mp H
  obtain ⟨t1064, A50, H⟩ := H
  replace H : (if t1064 < 0 then (some true) else ((laws_toFlash.f k l0_0 l0_1).bind fun bt1065 => ((spec_MetaActs.f k bt1065.1 bt1065.2 a1).bind fun t1071 => ((laws_toFlash.f k l0_0 l0_1).bind fun bt1074 => ((impl_MetaActs.f k bt1074.1 bt1074.2 a1).bind fun t1081 => ((laws_eqActS.f k t1081 t1071).bind fun t1084 => (if t1084 = true then ((laws_toFlash.f k l0_0 l0_1).bind fun bt1085 => ((laws_eqFlash.f k bt1074.1 bt1074.2 bt1085.1 bt1085.2).bind fun t1091 => (if t1091 = true then ((laws_markFlash.f k bt1074.1 bt1074.2 1).bind fun bt1092 => (if bt1092.1 < 0 then (laws_FnExactMetaActs.j0 k a1 t1071 t1081 true l0_0 l0_1) else ((laws_eqActS.f k t1081 t1071).bind fun t1095 => (laws_FnExactMetaActs.j0 k a1 t1071 t1081 (!t1095) l0_0 l0_1)))) else (none)))) else (none)))))))) = some r := H
  have A5 := zA_ A50
  clear A50
  by_cases c6 : t1064 < 0
  ·
   rw [if_pos c6] at H
   have c6b0 : decide (t1064 < 0) = true := decide_eq_true c6
   clear c6
   obtain rfl := Option.some.inj H
   go_enter Try.func11, Try.ntmps11
   go_wp2_with (first | ((with_reducible refine gate_dst (N := 2) rfl ?_); refine box_event ?hg (N := 2) ?hd (cs := #[.slice A0_0 l0_0.length c0_0, .slice A0_1 l0_1.length c0_1]) (t := 25) ?hr ?_; (case hd => rfl); (case hg => rfl); (case hr => first | (go_simp; done) | (go_simp; rfl)); intro gb1063 hg w7 hbox hb; have n0_ := zA_ (below_step (zh_ HB.out) hb); have n1_ := zA_ (hbox); have n2_ := zA_ ((by rw [hg]; exact (below_size (zh_ HB.out)) : w.heap.size ≤ gb1063)); have n3_ := zA_ ((by rw [hg]; exact (below_size (zh_ HB.out)) : w.heap.size ≤ gb1063)); clear HB; have HB := n0_; have BK1063 := n1_; have GW1063 := n2_; have GE1063 := n3_; clear n0_ n1_ n2_ n3_; clear hb hbox hg; have hcz8_0 : w7.cell? ⟨gb1063, 0, none⟩ = some (.slice A0_0 l0_0.length c0_0) := (blk_cell BK1063.out 0).trans rfl; have hcz8_1 : w7.cell? ⟨gb1063, 1, none⟩ = some (.slice A0_1 l0_1.length c0_1) := (blk_cell BK1063.out 1).trans rfl; have hfz8_0 := blk_frozen BK1063.out 0; have hfz8_1 := blk_frozen BK1063.out 1) | ((with_reducible refine gate_callee (f := 14) rfl ?_); refine goesL_ (some 18) rfl rfl Try.func14 (by kernel_rfl) rfl #[.agg #[.slice A0_0 l0_0.length c0_0, .slice A0_1 l0_1.length c0_1], .int .i64 1048576] rfl zs_ ?_; (with_reducible refine (laws_szFlash.calls k _ _ l0_0 _ _ l0_1 1048576 t1064 _ ?side1 ?side2 ?side3 ?side4 A5.out).mono ?_); (case side1 => exact zc_ (Kd.C_below HR0_0.out HB.out)); (case side2 => exact HC0_0.out); (case side3 => exact zc_ (Kd.C_below HR0_1.out HB.out)); (case side4 => exact HC0_1.out); rintro e w9 ⟨rfl, hb⟩; refine ⟨_, rfl, ?_⟩; have n0_ := zA_ (blk_below (g := gb1063) (o := .cells #[.slice A0_0 l0_0.length c0_0, .slice A0_1 l0_1.length c0_1] 25 (0, 0)) (zb_ BK1063.out) hb); have n1_ := zA_ (below_step (zg1_ HB.out GE1063.out) hb); clear BK1063 HB; have BK1063 := n0_; have HB := n1_; clear n0_ n1_; (try clear hb); (try clear hb2); (try clear hk); (try clear hi)))
   go_ret
   exact ⟨by first | rfl | (simp [errW_none, errW_some] <;> rfl) | (simp [*, errW_none, errW_some] <;> rfl), by repeat (first | (with_reducible first | exact HB.out | apply below_alloc | apply pw_below_drewN | apply below_drew1 | refine below_set ?_ GE1063.out) | exact HB.out)⟩
  ·
   rw [if_neg c6] at H
   have c6b0 : decide (t1064 < 0) = false := decide_eq_false c6
   clear c6
   replace H := Option.bind_eq_some_iff.mp H
   obtain ⟨⟨t1065, t1068⟩, A100, H⟩ := H
   replace H : ((spec_MetaActs.f k t1065 t1068 a1).bind fun t1071 => ((laws_toFlash.f k l0_0 l0_1).bind fun bt1074 => ((impl_MetaActs.f k bt1074.1 bt1074.2 a1).bind fun t1081 => ((laws_eqActS.f k t1081 t1071).bind fun t1084 => (if t1084 = true then ((laws_toFlash.f k l0_0 l0_1).bind fun bt1085 => ((laws_eqFlash.f k bt1074.1 bt1074.2 bt1085.1 bt1085.2).bind fun t1091 => (if t1091 = true then ((laws_markFlash.f k bt1074.1 bt1074.2 1).bind fun bt1092 => (if bt1092.1 < 0 then (laws_FnExactMetaActs.j0 k a1 t1071 t1081 true l0_0 l0_1) else ((laws_eqActS.f k t1081 t1071).bind fun t1095 => (laws_FnExactMetaActs.j0 k a1 t1071 t1081 (!t1095) l0_0 l0_1)))) else (none)))) else (none)))))) = some r := H
   have A10 := zA_ A100
   clear A100
   replace H := Option.bind_eq_some_iff.mp H
   obtain ⟨t1071, A110, H⟩ := H
   replace H : ((laws_toFlash.f k l0_0 l0_1).bind fun bt1074 => ((impl_MetaActs.f k bt1074.1 bt1074.2 a1).bind fun t1081 => ((laws_eqActS.f k t1081 t1071).bind fun t1084 => (if t1084 = true then ((laws_toFlash.f k l0_0 l0_1).bind fun bt1085 => ((laws_eqFlash.f k bt1074.1 bt1074.2 bt1085.1 bt1085.2).bind fun t1091 => (if t1091 = true then ((laws_markFlash.f k bt1074.1 bt1074.2 1).bind fun bt1092 => (if bt1092.1 < 0 then (laws_FnExactMetaActs.j0 k a1 t1071 t1081 true l0_0 l0_1) else ((laws_eqActS.f k t1081 t1071).bind fun t1095 => (laws_FnExactMetaActs.j0 k a1 t1071 t1081 (!t1095) l0_0 l0_1)))) else (none)))) else (none))))) = some r := H
   have A11 := zA_ A110
   clear A110
   replace H := Option.bind_eq_some_iff.mp H
   obtain ⟨⟨t1074, t1077⟩, A120, H⟩ := H
   replace H : ((impl_MetaActs.f k t1074 t1077 a1).bind fun t1081 => ((laws_eqActS.f k t1081 t1071).bind fun t1084 => (if t1084 = true then ((laws_toFlash.f k l0_0 l0_1).bind fun bt1085 => ((laws_eqFlash.f k t1074 t1077 bt1085.1 bt1085.2).bind fun t1091 => (if t1091 = true then ((laws_markFlash.f k t1074 t1077 1).bind fun bt1092 => (if bt1092.1 < 0 then (laws_FnExactMetaActs.j0 k a1 t1071 t1081 true l0_0 l0_1) else ((laws_eqActS.f k t1081 t1071).bind fun t1095 => (laws_FnExactMetaActs.j0 k a1 t1071 t1081 (!t1095) l0_0 l0_1)))) else (none)))) else (none)))) = some r := H
   have A12 := zA_ A120
   clear A120
   replace H := Option.bind_eq_some_iff.mp H
   obtain ⟨t1081, A130, H⟩ := H
   replace H : ((laws_eqActS.f k t1081 t1071).bind fun t1084 => (if t1084 = true then ((laws_toFlash.f k l0_0 l0_1).bind fun bt1085 => ((laws_eqFlash.f k t1074 t1077 bt1085.1 bt1085.2).bind fun t1091 => (if t1091 = true then ((laws_markFlash.f k t1074 t1077 1).bind fun bt1092 => (if bt1092.1 < 0 then (laws_FnExactMetaActs.j0 k a1 t1071 t1081 true l0_0 l0_1) else ((laws_eqActS.f k t1081 t1071).bind fun t1095 => (laws_FnExactMetaActs.j0 k a1 t1071 t1081 (!t1095) l0_0 l0_1)))) else (none)))) else (none))) = some r := H
   have A13 := zA_ A130
   clear A130
   replace H := Option.bind_eq_some_iff.mp H
   obtain ⟨t1084, A140, H⟩ := H
   replace H : (if t1084 = true then ((laws_toFlash.f k l0_0 l0_1).bind fun bt1085 => ((laws_eqFlash.f k t1074 t1077 bt1085.1 bt1085.2).bind fun t1091 => (if t1091 = true then ((laws_markFlash.f k t1074 t1077 1).bind fun bt1092 => (if bt1092.1 < 0 then (laws_FnExactMetaActs.j0 k a1 t1071 t1081 true l0_0 l0_1) else ((laws_eqActS.f k t1081 t1071).bind fun t1095 => (laws_FnExactMetaActs.j0 k a1 t1071 t1081 (!t1095) l0_0 l0_1)))) else (none)))) else (none)) = some r := H
   have A14 := zA_ A140
   clear A140
   by_cases c15 : t1084 = true
   ·
    subst c15
    have H1 : ((laws_toFlash.f k l0_0 l0_1).bind fun bt1085 => ((laws_eqFlash.f k t1074 t1077 bt1085.1 bt1085.2).bind fun t1091 => (if t1091 = true then ((laws_markFlash.f k t1074 t1077 1).bind fun bt1092 => (if bt1092.1 < 0 then (laws_FnExactMetaActs.j0 k a1 t1071 t1081 true l0_0 l0_1) else ((laws_eqActS.f k t1081 t1071).bind fun t1095 => (laws_FnExactMetaActs.j0 k a1 t1071 t1081 (!t1095) l0_0 l0_1)))) else (none)))) = some r := by rw [if_pos rfl] at H; exact H
    clear H
    have H := H1
    clear H1
    replace H := Option.bind_eq_some_iff.mp H
    obtain ⟨⟨t1085, t1088⟩, A160, H⟩ := H
    replace H : ((laws_eqFlash.f k t1074 t1077 t1085 t1088).bind fun t1091 => (if t1091 = true then ((laws_markFlash.f k t1074 t1077 1).bind fun bt1092 => (if bt1092.1 < 0 then (laws_FnExactMetaActs.j0 k a1 t1071 t1081 true l0_0 l0_1) else ((laws_eqActS.f k t1081 t1071).bind fun t1095 => (laws_FnExactMetaActs.j0 k a1 t1071 t1081 (!t1095) l0_0 l0_1)))) else (none))) = some r := H
    have A16 := zA_ A160
    clear A160
    replace H := Option.bind_eq_some_iff.mp H
    obtain ⟨t1091, A170, H⟩ := H
    replace H : (if t1091 = true then ((laws_markFlash.f k t1074 t1077 1).bind fun bt1092 => (if bt1092.1 < 0 then (laws_FnExactMetaActs.j0 k a1 t1071 t1081 true l0_0 l0_1) else ((laws_eqActS.f k t1081 t1071).bind fun t1095 => (laws_FnExactMetaActs.j0 k a1 t1071 t1081 (!t1095) l0_0 l0_1)))) else (none)) = some r := H
    have A17 := zA_ A170
    clear A170
    by_cases c18 : t1091 = true
    ·
     subst c18
     have H1 : ((laws_markFlash.f k t1074 t1077 1).bind fun bt1092 => (if bt1092.1 < 0 then (laws_FnExactMetaActs.j0 k a1 t1071 t1081 true l0_0 l0_1) else ((laws_eqActS.f k t1081 t1071).bind fun t1095 => (laws_FnExactMetaActs.j0 k a1 t1071 t1081 (!t1095) l0_0 l0_1)))) = some r := by rw [if_pos rfl] at H; exact H
     clear H
     have H := H1
     clear H1
     replace H := Option.bind_eq_some_iff.mp H
     obtain ⟨⟨t1092, t1093, t1094⟩, A190, H⟩ := H
     replace H : (if t1092 < 0 then (laws_FnExactMetaActs.j0 k a1 t1071 t1081 true l0_0 l0_1) else ((laws_eqActS.f k t1081 t1071).bind fun t1095 => (laws_FnExactMetaActs.j0 k a1 t1071 t1081 (!t1095) l0_0 l0_1))) = some r := H
     have A19 := zA_ A190
     clear A190
     have HC20 := zA_ H
     clear H
     go_enter Try.func11, Try.ntmps11
     try go_wp2_with (first | ((with_reducible refine gate_dst (N := 2) rfl ?_); refine box_event ?hg (N := 2) ?hd (cs := #[.slice A0_0 l0_0.length c0_0, .slice A0_1 l0_1.length c0_1]) (t := 25) ?hr ?_; (case hd => rfl); (case hg => rfl); (case hr => first | (go_simp; done) | (go_simp; rfl)); intro gb1063 hg w21 hbox hb; have n0_ := zA_ (below_step (zh_ HB.out) hb); have n1_ := zA_ (hbox); have n2_ := zA_ ((by rw [hg]; exact (below_size (zh_ HB.out)) : w.heap.size ≤ gb1063)); have n3_ := zA_ ((by rw [hg]; exact (below_size (zh_ HB.out)) : w.heap.size ≤ gb1063)); clear HB; have HB := n0_; have BK1063 := n1_; have GW1063 := n2_; have GE1063 := n3_; clear n0_ n1_ n2_ n3_; clear hb hbox hg; have hcz22_0 : w21.cell? ⟨gb1063, 0, none⟩ = some (.slice A0_0 l0_0.length c0_0) := (blk_cell BK1063.out 0).trans rfl; have hcz22_1 : w21.cell? ⟨gb1063, 1, none⟩ = some (.slice A0_1 l0_1.length c0_1) := (blk_cell BK1063.out 1).trans rfl; have hfz22_0 := blk_frozen BK1063.out 0; have hfz22_1 := blk_frozen BK1063.out 1) | ((with_reducible refine gate_callee (f := 14) rfl ?_); refine goesL_ (some 18) rfl rfl Try.func14 (by kernel_rfl) rfl #[.agg #[.slice A0_0 l0_0.length c0_0, .slice A0_1 l0_1.length c0_1], .int .i64 1048576] rfl zs_ ?_; (with_reducible refine (laws_szFlash.calls k _ _ l0_0 _ _ l0_1 1048576 t1064 _ ?side1 ?side2 ?side3 ?side4 A5.out).mono ?_); (case side1 => exact zc_ (Kd.C_below HR0_0.out HB.out)); (case side2 => exact HC0_0.out); (case side3 => exact zc_ (Kd.C_below HR0_1.out HB.out)); (case side4 => exact HC0_1.out); rintro e w23 ⟨rfl, hb⟩; refine ⟨_, rfl, ?_⟩; have n0_ := zA_ (blk_below (g := gb1063) (o := .cells #[.slice A0_0 l0_0.length c0_0, .slice A0_1 l0_1.length c0_1] 25 (0, 0)) (zb_ BK1063.out) hb); have n1_ := zA_ (below_step (zg1_ HB.out GE1063.out) hb); clear BK1063 HB; have BK1063 := n0_; have HB := n1_; clear n0_ n1_; (try clear hb); (try clear hb2); (try clear hk); (try clear hi); have hcz24_0 : w23.cell? ⟨gb1063, 0, none⟩ = some (.slice A0_0 l0_0.length c0_0) := (blk_cell BK1063.out 0).trans rfl; have hcz24_1 : w23.cell? ⟨gb1063, 1, none⟩ = some (.slice A0_1 l0_1.length c0_1) := (blk_cell BK1063.out 1).trans rfl; have hfz24_0 := blk_frozen BK1063.out 0; have hfz24_1 := blk_frozen BK1063.out 1) | ((with_reducible refine gate_callee (f := 16) rfl ?_); refine goesL_ (some 22) rfl rfl Try.func16 (by kernel_rfl) rfl #[.agg #[.slice A0_0 l0_0.length c0_0, .slice A0_1 l0_1.length c0_1]] rfl zs_ ?_; (with_reducible refine (laws_toFlash.calls k _ _ l0_0 _ _ l0_1 t1065 t1068 _ ?side1 ?side2 ?side3 ?side4 A10.out).mono ?_); (case side1 => exact zc_ (Kd.C_below HR0_0.out HB.out)); (case side2 => exact HC0_0.out); (case side3 => exact zc_ (Kd.C_below HR0_1.out HB.out)); (case side4 => exact HC0_1.out); rintro e w25 ⟨v1066, v1069, rfl, ho0, ho1, hb⟩; refine ⟨_, rfl, ?_⟩; have n0_ := zA_ (Kd.R_lower ho0 (below_size (zg1_ HB.out GE1063.out))); have n1_ := zA_ (Kd.R_lower ho1 (below_size (zg1_ HB.out GE1063.out))); have n2_ := zA_ (blk_below (g := gb1063) (o := .cells #[.slice A0_0 l0_0.length c0_0, .slice A0_1 l0_1.length c0_1] 25 (0, 0)) (zb_ BK1063.out) hb); have n3_ := zA_ (below_step (zg1_ HB.out GE1063.out) hb); clear BK1063 HB; have HO1067 := n0_; have HO1070 := n1_; have BK1063 := n2_; have HB := n3_; clear n0_ n1_ n2_ n3_; (try clear hb); (try clear hb2); (try clear hk); (try clear hi); (try clear ho0); (try clear ho1); obtain ⟨Ao26, co26, eo26⟩ := Kd.R_slice HO1067.out; subst eo26; obtain ⟨Ao27, co27, eo27⟩ := Kd.R_slice HO1070.out; subst eo27) | ((with_reducible refine gate_callee (f := 46) rfl ?_); refine goesL_ (some 24) rfl rfl Try.func46 (by kernel_rfl) rfl #[.agg #[.slice Ao26 t1065.length co26, .slice Ao27 t1068.length co27], .string a1] rfl zs_ ?_; (with_reducible refine (spec_MetaActs.calls k _ _ t1065 _ _ t1068 a1 t1071 _ ?side1 ?side2 ?side3 ?side4 A11.out).mono ?_); (case side1 => exact zc_ (Kd.R_reads' HO1067.out).2.2); (case side2 => exact (Kd.R_reads' HO1067.out).2.1); (case side3 => exact zc_ (Kd.R_reads' HO1070.out).2.2); (case side4 => exact (Kd.R_reads' HO1070.out).2.1); rintro e w28 ⟨v1072, rfl, ho0, hb⟩; refine ⟨_, rfl, ?_⟩; have n0_ := zA_ (Kd.R_below (zr_ HO1067.out) hb); have n1_ := zA_ (Kd.R_below (zr_ HO1070.out) hb); have n2_ := zA_ (Kd.R_lower ho0 (below_size (zg1_ HB.out GE1063.out))); have n3_ := zA_ (blk_below (g := gb1063) (o := .cells #[.slice A0_0 l0_0.length c0_0, .slice A0_1 l0_1.length c0_1] 25 (0, 0)) (zb_ BK1063.out) hb); have n4_ := zA_ (below_step (zg1_ HB.out GE1063.out) hb); clear HO1067 HO1070 BK1063 HB; have HO1067 := n0_; have HO1070 := n1_; have HO1073 := n2_; have BK1063 := n3_; have HB := n4_; clear n0_ n1_ n2_ n3_ n4_; (try clear hb); (try clear hb2); (try clear hk); (try clear hi); (try clear ho0); have hcz29_0 : w28.cell? ⟨gb1063, 0, none⟩ = some (.slice A0_0 l0_0.length c0_0) := (blk_cell BK1063.out 0).trans rfl; have hcz29_1 : w28.cell? ⟨gb1063, 1, none⟩ = some (.slice A0_1 l0_1.length c0_1) := (blk_cell BK1063.out 1).trans rfl; have hfz29_0 := blk_frozen BK1063.out 0; have hfz29_1 := blk_frozen BK1063.out 1) | ((with_reducible refine gate_callee (f := 16) rfl ?_); refine goesL_ (some 26) rfl rfl Try.func16 (by kernel_rfl) rfl #[.agg #[.slice A0_0 l0_0.length c0_0, .slice A0_1 l0_1.length c0_1]] rfl zs_ ?_; (with_reducible refine (laws_toFlash.calls k _ _ l0_0 _ _ l0_1 t1074 t1077 _ ?side1 ?side2 ?side3 ?side4 A12.out).mono ?_); (case side1 => exact zc_ (Kd.C_below HR0_0.out HB.out)); (case side2 => exact HC0_0.out); (case side3 => exact zc_ (Kd.C_below HR0_1.out HB.out)); (case side4 => exact HC0_1.out); rintro e w30 ⟨v1075, v1078, rfl, ho0, ho1, hb⟩; refine ⟨_, rfl, ?_⟩; have n0_ := zA_ (Kd.R_elder' (zr_ HO1067.out) (Kd.R_base ho0) hb); have n1_ := zA_ (Kd.R_elder' (zr_ HO1070.out) (Kd.R_base ho1) hb); have n2_ := zA_ (Kd.R_below (zr_ HO1073.out) hb); have n3_ := zA_ (Kd.R_lower (Kd.R_new' ho0 (Kd.R_lt (zr_ HO1067.out))) (below_size (zg1_ HB.out GE1063.out))); have n4_ := zA_ (Kd.R_lower (Kd.R_new' ho1 (Kd.R_lt (zr_ HO1070.out))) (below_size (zg1_ HB.out GE1063.out))); have n5_ := zA_ (blk_below (g := gb1063) (o := .cells #[.slice A0_0 l0_0.length c0_0, .slice A0_1 l0_1.length c0_1] 25 (0, 0)) (zb_ BK1063.out) hb); have n6_ := zA_ (below_step (zg1_ HB.out GE1063.out) hb); clear HO1067 HO1070 HO1073 BK1063 HB; have HO1067 := n0_; have HO1070 := n1_; have HO1073 := n2_; have HO1076 := n3_; have HO1079 := n4_; have BK1063 := n5_; have HB := n6_; clear n0_ n1_ n2_ n3_ n4_ n5_ n6_; (try clear hb); (try clear hb2); (try clear hk); (try clear hi); (try clear ho0); (try clear ho1)) | ((with_reducible refine gate_dst (N := 7) rfl ?_); refine box_event ?hg (N := 7) ?hd (cs := #[.slice none 0 0, .slice none 0 0]) (t := 30) ?hr ?_; (case hd => rfl); (case hg => rfl); (case hr => first | (go_simp; done) | (go_simp; rfl)); intro gb1080 hg w31 hbox hb; have n0_ := zA_ (Kd.R_below (zr_ HO1067.out) hb); have n1_ := zA_ (Kd.R_below (zr_ HO1070.out) hb); have n2_ := zA_ (Kd.R_below (zr_ HO1073.out) hb); have n3_ := zA_ (Kd.R_below (zr_ HO1076.out) hb); have n4_ := zA_ (Kd.R_below (zr_ HO1079.out) hb); have n5_ := zA_ (blk_below (g := gb1063) (o := .cells #[.slice A0_0 l0_0.length c0_0, .slice A0_1 l0_1.length c0_1] 25 (0, 0)) (zb_ BK1063.out) hb); have n6_ := zA_ (below_step (zg1_ HB.out GE1063.out) hb); have n7_ := zA_ (hbox); have n8_ := zA_ ((by rw [hg]; exact (below_size (zg1_ HB.out GE1063.out)) : w.heap.size ≤ gb1080)); have n9_ := zA_ ((by rw [hg]; exact (below_size (zg1_ HB.out GE1063.out)) : w.heap.size ≤ gb1080)); have n10_ := zA_ ((by rw [hg]; exact Nat.ne_of_lt (blk_lt (g := gb1063) (o := .cells #[.slice A0_0 l0_0.length c0_0, .slice A0_1 l0_1.length c0_1] 25 (0, 0)) (zb_ BK1063.out)) : gb1063 ≠ gb1080)); have n11_ := zA_ ((by rw [hg]; exact Nat.ne_of_gt (blk_lt (g := gb1063) (o := .cells #[.slice A0_0 l0_0.length c0_0, .slice A0_1 l0_1.length c0_1] 25 (0, 0)) (zb_ BK1063.out)) : gb1080 ≠ gb1063)); clear HO1067 HO1070 HO1073 HO1076 HO1079 BK1063 HB; have HO1067 := n0_; have HO1070 := n1_; have HO1073 := n2_; have HO1076 := n3_; have HO1079 := n4_; have BK1063 := n5_; have HB := n6_; have BK1080 := n7_; have GW1080 := n8_; have GE1080 := n9_; have NB1063_1080 := n10_; have NB1080_1063 := n11_; clear n0_ n1_ n2_ n3_ n4_ n5_ n6_ n7_ n8_ n9_ n10_ n11_; clear hb hbox hg; obtain ⟨Ao32, co32, eo32⟩ := Kd.R_slice HO1076.out; subst eo32; have hnb33 := NB1080_1063.out; have hnc33 := NB1063_1080.out; have hcz34_0 : w31.cell? ⟨gb1080, 0, none⟩ = some (.slice none 0 0) := (blk_cell BK1080.out 0).trans rfl; have hcz34_1 : w31.cell? ⟨gb1080, 1, none⟩ = some (.slice none 0 0) := (blk_cell BK1080.out 1).trans rfl; have hfz34_0 := blk_frozen BK1080.out 0; have hfz34_1 := blk_frozen BK1080.out 1; obtain ⟨Ao35, co35, eo35⟩ := Kd.R_slice HO1079.out; subst eo35) | ((with_reducible refine gate_callee (f := 47) rfl ?_); refine goesL_ (some 29) rfl rfl Try.func47 (by kernel_rfl) rfl #[.agg #[.slice Ao32 t1074.length co32, .slice Ao35 t1077.length co35], .string a1] rfl zs_ ?_; (with_reducible refine (impl_MetaActs.calls k _ _ t1074 _ _ t1077 a1 t1081 _ ?side1 ?side2 ?side3 ?side4 A13.out).mono ?_); (case side1 => refine (Kd.R_reads' (e := 9) (base := w.heap.size) (ok := fun k_ => (True ∧ some k_ ≠ (.slice Ao26 t1065.length co26 : Value).ownBlock)) (n := t1074.length) (c := co32) ?_).2.2; exact (by (with_reducible repeat (first | apply Kd.R_alloc | apply Kd.R_drewN | apply Kd.R_drew)); exact (Kd.R_mono (Kd.R_far (p := ⟨gb1080, 1, none⟩) (Kd.R_far (p := ⟨gb1080, 0, none⟩) (Kd.R_types HO1076.out BK1080.out (by decide)) (fun _ hk => hk.2) (.slice Ao32 t1074.length co32)) (fun _ hk => hk.2) (.slice Ao35 t1077.length co35)) (fun _ h_ => h_.1)))); (case side2 => exact (Kd.R_reads' HO1076.out).2.1); (case side3 => refine (Kd.R_reads' (e := 92) (base := w.heap.size) (ok := fun k_ => (True ∧ some k_ ≠ (.slice Ao27 t1068.length co27 : Value).ownBlock)) (n := t1077.length) (c := co35) ?_).2.2; exact (by (with_reducible repeat (first | apply Kd.R_alloc | apply Kd.R_drewN | apply Kd.R_drew)); exact (Kd.R_mono (Kd.R_far (p := ⟨gb1080, 1, none⟩) (Kd.R_far (p := ⟨gb1080, 0, none⟩) (Kd.R_types HO1079.out BK1080.out (by decide)) (fun _ hk => hk.2) (.slice Ao32 t1074.length co32)) (fun _ hk => hk.2) (.slice Ao35 t1077.length co35)) (fun _ h_ => h_.1)))); (case side4 => exact (Kd.R_reads' HO1079.out).2.1); rintro e w36 ⟨v1082, rfl, ho0, hb⟩; refine ⟨_, rfl, ?_⟩; have n0_ := zA_ (Kd.R_below (by (with_reducible repeat (first | apply Kd.R_alloc | apply Kd.R_drewN | apply Kd.R_drew)); exact (Kd.R_mono (Kd.R_far (p := ⟨gb1080, 1, none⟩) (Kd.R_far (p := ⟨gb1080, 0, none⟩) (Kd.R_types HO1067.out BK1080.out (by decide)) (fun _ hk => hk.2) (.slice Ao32 t1074.length co32)) (fun _ hk => hk.2) (.slice Ao35 t1077.length co35)) (fun _ h_ => h_.1))) hb); have n1_ := zA_ (Kd.R_below (by (with_reducible repeat (first | apply Kd.R_alloc | apply Kd.R_drewN | apply Kd.R_drew)); exact (Kd.R_mono (Kd.R_far (p := ⟨gb1080, 1, none⟩) (Kd.R_far (p := ⟨gb1080, 0, none⟩) (Kd.R_types HO1070.out BK1080.out (by decide)) (fun _ hk => hk.2) (.slice Ao32 t1074.length co32)) (fun _ hk => hk.2) (.slice Ao35 t1077.length co35)) (fun _ h_ => h_.1))) hb); have n2_ := zA_ (Kd.R_elder' (by (with_reducible repeat (first | apply Kd.R_alloc | apply Kd.R_drewN | apply Kd.R_drew)); exact (Kd.R_mono (Kd.R_far (p := ⟨gb1080, 1, none⟩) (Kd.R_far (p := ⟨gb1080, 0, none⟩) (Kd.R_types HO1073.out BK1080.out (by decide)) (fun _ hk => hk.2) (.slice Ao32 t1074.length co32)) (fun _ hk => hk.2) (.slice Ao35 t1077.length co35)) (fun _ h_ => h_.1))) (Kd.R_base ho0) hb); have n3_ := zA_ (Kd.R_below (by (with_reducible repeat (first | apply Kd.R_alloc | apply Kd.R_drewN | apply Kd.R_drew)); exact (Kd.R_mono (Kd.R_far (p := ⟨gb1080, 1, none⟩) (Kd.R_far (p := ⟨gb1080, 0, none⟩) (Kd.R_types HO1076.out BK1080.out (by decide)) (fun _ hk => hk.2) (.slice Ao32 t1074.length co32)) (fun _ hk => hk.2) (.slice Ao35 t1077.length co35)) (fun _ h_ => h_.1))) hb); have n4_ := zA_ (Kd.R_below (by (with_reducible repeat (first | apply Kd.R_alloc | apply Kd.R_drewN | apply Kd.R_drew)); exact (Kd.R_mono (Kd.R_far (p := ⟨gb1080, 1, none⟩) (Kd.R_far (p := ⟨gb1080, 0, none⟩) (Kd.R_types HO1079.out BK1080.out (by decide)) (fun _ hk => hk.2) (.slice Ao32 t1074.length co32)) (fun _ hk => hk.2) (.slice Ao35 t1077.length co35)) (fun _ h_ => h_.1))) hb); have n5_ := zA_ (Kd.R_lower (Kd.R_new' ho0 (Kd.R_lt (by (with_reducible repeat (first | apply Kd.R_alloc | apply Kd.R_drewN | apply Kd.R_drew)); exact (Kd.R_mono (Kd.R_far (p := ⟨gb1080, 1, none⟩) (Kd.R_far (p := ⟨gb1080, 0, none⟩) (Kd.R_types HO1073.out BK1080.out (by decide)) (fun _ hk => hk.2) (.slice Ao32 t1074.length co32)) (fun _ hk => hk.2) (.slice Ao35 t1077.length co35)) (fun _ h_ => h_.1))))) (below_size (zg2_ HB.out GE1063.out GE1080.out))); have n6_ := zA_ (blk_below (g := gb1063) (o := .cells #[.slice A0_0 l0_0.length c0_0, .slice A0_1 l0_1.length c0_1] 25 (0, 0)) (zf2_ NB1063_1080.out NB1063_1080.out BK1063.out) hb); have n7_ := zA_ (blk_below (g := gb1080) (o := .cells #[.slice Ao32 t1074.length co32, .slice Ao35 t1077.length co35] 30 (0, 0)) (by (with_reducible repeat (first | refine blk_drewN ?_ _ | refine blk_drew ?_ | refine blk_alloc ?_ _)); refine blk_put (cs := #[.slice Ao32 t1074.length co32, .slice none 0 0]) ?_ 1 _ rfl; (with_reducible repeat (first | refine blk_drewN ?_ _ | refine blk_drew ?_ | refine blk_alloc ?_ _)); refine blk_put (cs := #[.slice none 0 0, .slice none 0 0]) ?_ 0 _ rfl; (with_reducible repeat (first | refine blk_drewN ?_ _ | refine blk_drew ?_ | refine blk_alloc ?_ _)); exact BK1080.out) hb); have n8_ := zA_ (below_step (zg2_ HB.out GE1063.out GE1080.out) hb); clear HO1067 HO1070 HO1073 HO1076 HO1079 BK1063 BK1080 HB; have HO1067 := n0_; have HO1070 := n1_; have HO1073 := n2_; have HO1076 := n3_; have HO1079 := n4_; have HO1083 := n5_; have BK1063 := n6_; have BK1080 := n7_; have HB := n8_; clear n0_ n1_ n2_ n3_ n4_ n5_ n6_ n7_ n8_; (try clear hb); (try clear hb2); (try clear hk); (try clear hi); (try clear ho0); obtain ⟨Ao37, co37, eo37⟩ := Kd.R_slice HO1083.out; subst eo37; obtain ⟨Ao38, co38, eo38⟩ := Kd.R_slice HO1073.out; subst eo38) | ((with_reducible refine gate_callee (f := 42) rfl ?_); refine goesL_ (some 32) rfl rfl Try.func42 (by kernel_rfl) rfl #[.slice Ao37 t1081.length co37, .slice Ao38 t1071.length co38] rfl zs_ ?_; (with_reducible refine (laws_eqActS.calls k _ _ t1081 _ _ t1071 true _ ?side1 ?side2 ?side3 ?side4 A14.out).mono ?_); (case side1 => exact zc_ (Kd.R_reads' HO1083.out).2.2); (case side2 => exact (Kd.R_reads' HO1083.out).2.1); (case side3 => exact zc_ (Kd.R_reads' HO1073.out).2.2); (case side4 => exact (Kd.R_reads' HO1073.out).2.1); rintro e w39 ⟨rfl, hb⟩; refine ⟨_, rfl, ?_⟩; have n0_ := zA_ (Kd.R_below (zr_ HO1067.out) hb); have n1_ := zA_ (Kd.R_below (zr_ HO1070.out) hb); have n2_ := zA_ (Kd.R_below (zr_ HO1073.out) hb); have n3_ := zA_ (Kd.R_below (zr_ HO1076.out) hb); have n4_ := zA_ (Kd.R_below (zr_ HO1079.out) hb); have n5_ := zA_ (Kd.R_below (zr_ HO1083.out) hb); have n6_ := zA_ (blk_below (g := gb1063) (o := .cells #[.slice A0_0 l0_0.length c0_0, .slice A0_1 l0_1.length c0_1] 25 (0, 0)) (zb_ BK1063.out) hb); have n7_ := zA_ (blk_below (g := gb1080) (o := .cells #[.slice Ao32 t1074.length co32, .slice Ao35 t1077.length co35] 30 (0, 0)) (zb_ BK1080.out) hb); have n8_ := zA_ (below_step (zg2_ HB.out GE1063.out GE1080.out) hb); clear HO1067 HO1070 HO1073 HO1076 HO1079 HO1083 BK1063 BK1080 HB; have HO1067 := n0_; have HO1070 := n1_; have HO1073 := n2_; have HO1076 := n3_; have HO1079 := n4_; have HO1083 := n5_; have BK1063 := n6_; have BK1080 := n7_; have HB := n8_; clear n0_ n1_ n2_ n3_ n4_ n5_ n6_ n7_ n8_; (try clear hb); (try clear hb2); (try clear hk); (try clear hi)))
     have n0_ := zA_ (Kd.R_drew HO1067.out)
     have n1_ := zA_ (Kd.R_drew HO1070.out)
     have n2_ := zA_ (Kd.R_drew HO1073.out)
     have n3_ := zA_ (Kd.R_drew HO1076.out)
     have n4_ := zA_ (Kd.R_drew HO1079.out)
     have n5_ := zA_ (Kd.R_drew HO1083.out)
     have n6_ := zA_ (blk_drew BK1063.out)
     have n7_ := zA_ (blk_drew BK1080.out)
     have n8_ := zA_ (below_drew1 HB.out)
     clear HO1067 HO1070 HO1073 HO1076 HO1079 HO1083 BK1063 BK1080 HB
     have HO1067 := n0_
     have HO1070 := n1_
     have HO1073 := n2_
     have HO1076 := n3_
     have HO1079 := n4_
     have HO1083 := n5_
     have BK1063 := n6_
     have BK1080 := n7_
     have HB := n8_
     clear n0_ n1_ n2_ n3_ n4_ n5_ n6_ n7_ n8_
     refine start_ (n := 5) (S := fun w' => w'.cell? ⟨gb1080, 0, none⟩ = some (.slice Ao32 t1074.length co32) ∧ w'.cell? ⟨gb1080, 1, none⟩ = some (.slice Ao35 t1077.length co35) ∧ w'.cell? ⟨gb1063, 0, none⟩ = some (.slice A0_0 l0_0.length c0_0) ∧ w'.cell? ⟨gb1063, 1, none⟩ = some (.slice A0_1 l0_1.length c0_1)) (ds := []) #[false, false, false, false, false] (by kernel_rfl) rfl rfl ⟨(blk_cell BK1080.out 0).trans rfl, (blk_cell BK1080.out 1).trans rfl, (blk_cell BK1063.out 0).trans rfl, (blk_cell BK1063.out 1).trans rfl⟩ (fun hHeld => ?_)
     generalize w39.drew = w40 at HO1067 HO1070 HO1073 HO1076 HO1079 HO1083 BK1063 BK1080 HB hHeld ⊢
     refine take_ (i := 0) (N := some 34) (v := ?_) (a' := ?_) #[true, false, false, false, false] rfl rfl (by kernel_rfl) (fun _ _ _ h => h) (Or.inl ⟨by rfl, ?_⟩) hHeld ?_ ?_
     rotate_left
     ·
      rintro w' ⟨s0, s1, s2, s3⟩
      go_simp
      with_reducible rfl
     rotate_left
     ·
      simp only [Act.put, List.setIfInBounds_toArray, List.set_cons_zero, List.set_cons_succ, i64_w, i32_w]
      rfl
     refine take_ (i := 1) (N := some 35) (v := ?_) (a' := ?_) #[true, true, false, false, false] rfl rfl (by kernel_rfl) (fun _ _ _ h => h) (Or.inl ⟨by rfl, ?_⟩) hHeld ?_ ?_
     rotate_left
     ·
      rintro w' ⟨s0, s1, s2, s3⟩
      go_simp
      with_reducible rfl
     rotate_left
     ·
      simp only [Act.put, List.setIfInBounds_toArray, List.set_cons_zero, List.set_cons_succ, i64_w, i32_w]
      rfl
     refine one_ (i := 2) (N := some 36) #[true, true, true, false, false] rfl rfl (by kernel_rfl) (by decide) (fun K hK => ?_)
     refine goes_ Try.func16 (by kernel_rfl) rfl #[.agg #[.slice A0_0 l0_0.length c0_0, .slice A0_1 l0_1.length c0_1]] (by rfl) rfl rfl zs_ ?_
     with_reducible refine (laws_toFlash.calls k _ _ l0_0 _ _ l0_1 t1085 t1088 _ ?side1 ?side2 ?side3 ?side4 A16.out).mono ?_
     (case side1 => exact zc_ (Kd.C_below HR0_0.out HB.out))
     (case side2 => exact HC0_0.out)
     (case side3 => exact zc_ (Kd.C_below HR0_1.out HB.out))
     (case side4 => exact HC0_1.out)
     rintro e w41 ⟨v1086, v1089, rfl, ho0, ho1, hb⟩
     refine ⟨_, rfl, ?_⟩
     have n0_ := zA_ (Kd.R_elder' (zr_ HO1067.out) (Kd.R_base ho0) hb)
     have n1_ := zA_ (Kd.R_elder' (zr_ HO1070.out) (Kd.R_base ho1) hb)
     have n2_ := zA_ (Kd.R_below (zr_ HO1073.out) hb)
     have n3_ := zA_ (Kd.R_elder' (zr_ HO1076.out) (Kd.R_base ho0) hb)
     have n4_ := zA_ (Kd.R_elder' (zr_ HO1079.out) (Kd.R_base ho1) hb)
     have n5_ := zA_ (Kd.R_below (zr_ HO1083.out) hb)
     have n6_ := zA_ (Kd.R_lower (Kd.R_new' (Kd.R_new' ho0 (Kd.R_lt (zr_ HO1067.out))) (Kd.R_lt (zr_ HO1076.out))) (below_size (zg2_ HB.out GE1063.out GE1080.out)))
     have n7_ := zA_ (Kd.R_lower (Kd.R_new' (Kd.R_new' ho1 (Kd.R_lt (zr_ HO1070.out))) (Kd.R_lt (zr_ HO1079.out))) (below_size (zg2_ HB.out GE1063.out GE1080.out)))
     have n8_ := zA_ (blk_below (g := gb1063) (o := .cells #[.slice A0_0 l0_0.length c0_0, .slice A0_1 l0_1.length c0_1] 25 (0, 0)) (zb_ BK1063.out) hb)
     have n9_ := zA_ (blk_below (g := gb1080) (o := .cells #[.slice Ao32 t1074.length co32, .slice Ao35 t1077.length co35] 30 (0, 0)) (zb_ BK1080.out) hb)
     have n10_ := zA_ (below_step (zg2_ HB.out GE1063.out GE1080.out) hb)
     clear HO1067 HO1070 HO1073 HO1076 HO1079 HO1083 BK1063 BK1080 HB
     have HO1067 := n0_
     have HO1070 := n1_
     have HO1073 := n2_
     have HO1076 := n3_
     have HO1079 := n4_
     have HO1083 := n5_
     have HO1087 := n6_
     have HO1090 := n7_
     have BK1063 := n8_
     have BK1080 := n9_
     have HB := n10_
     clear n0_ n1_ n2_ n3_ n4_ n5_ n6_ n7_ n8_ n9_ n10_
     (try clear hb)
     (try clear hb2)
     (try clear hk)
     (try clear hi)
     (try clear ho0)
     (try clear ho1)
     obtain ⟨Ao42, co42, eo42⟩ := Kd.R_slice HO1087.out
     (first | subst eo42 | (injection eo42 with f1_ f2_ f3_; have f4_ := f1_.symm; have f5_ := f3_.symm; clear f1_ f2_ f3_; subst f4_; subst f5_))
     obtain ⟨Ao43, co43, eo43⟩ := Kd.R_slice HO1090.out
     (first | subst eo43 | (injection eo43 with f1_ f2_ f3_; have f4_ := f1_.symm; have f5_ := f3_.symm; clear f1_ f2_ f3_; subst f4_; subst f5_))
     refine hK.out _ _ ⟨(blk_cell BK1080.out 0).trans rfl, (blk_cell BK1080.out 1).trans rfl, (blk_cell BK1063.out 0).trans rfl, (blk_cell BK1063.out 1).trans rfl⟩ (fun hHeld => ?_)
     clear hK K
     refine norm_ (a' := ?_) ?_ ?_
     rotate_left
     ·
      show Act.put _ (some 36) _ = _
      simp only [Act.put, List.setIfInBounds_toArray, List.set_cons_zero, List.set_cons_succ, i64_w, i32_w]
      rfl
     refine one_ (i := 3) (N := some 37) #[true, true, true, true, false] rfl rfl (by kernel_rfl) (by decide) (fun K hK => ?_)
     refine goes_ Try.func18 (by kernel_rfl) rfl #[.agg #[.slice Ao32 t1074.length co32, .slice Ao35 t1077.length co35], .agg #[.slice Ao42 t1085.length co42, .slice Ao43 t1088.length co43]] (by rfl) rfl rfl zs_ ?_
     with_reducible refine (laws_eqFlash.calls k _ _ t1074 _ _ t1077 _ _ t1085 _ _ t1088 true _ ?side1 ?side2 ?side3 ?side4 ?side5 ?side6 ?side7 ?side8 A17.out).mono ?_
     (case side1 => exact zc_ (Kd.R_reads' HO1076.out).2.2)
     (case side2 => exact (Kd.R_reads' HO1076.out).2.1)
     (case side3 => exact zc_ (Kd.R_reads' HO1079.out).2.2)
     (case side4 => exact (Kd.R_reads' HO1079.out).2.1)
     (case side5 => exact zc_ (Kd.R_reads' HO1087.out).2.2)
     (case side6 => exact (Kd.R_reads' HO1087.out).2.1)
     (case side7 => exact zc_ (Kd.R_reads' HO1090.out).2.2)
     (case side8 => exact (Kd.R_reads' HO1090.out).2.1)
     rintro e w44 ⟨rfl, hb⟩
     refine ⟨_, rfl, ?_⟩
     have n0_ := zA_ (Kd.R_below (zr_ HO1067.out) hb)
     have n1_ := zA_ (Kd.R_below (zr_ HO1070.out) hb)
     have n2_ := zA_ (Kd.R_below (zr_ HO1073.out) hb)
     have n3_ := zA_ (Kd.R_below (zr_ HO1076.out) hb)
     have n4_ := zA_ (Kd.R_below (zr_ HO1079.out) hb)
     have n5_ := zA_ (Kd.R_below (zr_ HO1083.out) hb)
     have n6_ := zA_ (Kd.R_below (zr_ HO1087.out) hb)
     have n7_ := zA_ (Kd.R_below (zr_ HO1090.out) hb)
     have n8_ := zA_ (blk_below (g := gb1063) (o := .cells #[.slice A0_0 l0_0.length c0_0, .slice A0_1 l0_1.length c0_1] 25 (0, 0)) (zb_ BK1063.out) hb)
     have n9_ := zA_ (blk_below (g := gb1080) (o := .cells #[.slice Ao32 t1074.length co32, .slice Ao35 t1077.length co35] 30 (0, 0)) (zb_ BK1080.out) hb)
     have n10_ := zA_ (below_step (zg2_ HB.out GE1063.out GE1080.out) hb)
     clear HO1067 HO1070 HO1073 HO1076 HO1079 HO1083 HO1087 HO1090 BK1063 BK1080 HB
     have HO1067 := n0_
     have HO1070 := n1_
     have HO1073 := n2_
     have HO1076 := n3_
     have HO1079 := n4_
     have HO1083 := n5_
     have HO1087 := n6_
     have HO1090 := n7_
     have BK1063 := n8_
     have BK1080 := n9_
     have HB := n10_
     clear n0_ n1_ n2_ n3_ n4_ n5_ n6_ n7_ n8_ n9_ n10_
     (try clear hb)
     (try clear hb2)
     (try clear hk)
     (try clear hi)
     refine hK.out _ _ ⟨(blk_cell BK1080.out 0).trans rfl, (blk_cell BK1080.out 1).trans rfl, (blk_cell BK1063.out 0).trans rfl, (blk_cell BK1063.out 1).trans rfl⟩ (fun hHeld => ?_)
     clear hK K
     refine norm_ (a' := ?_) ?_ ?_
     rotate_left
     ·
      show Act.put _ (some 37) _ = _
      simp only [Act.put, List.setIfInBounds_toArray, List.set_cons_zero, List.set_cons_succ, i64_w, i32_w]
      rfl
     refine pure_ (i := 4) (N := some 38) (v := ?_) (a' := ?_) #[true, true, true, true, true] rfl rfl (by kernel_rfl) (fun _ _ _ h => h) (Or.inl ⟨by rfl, ?_⟩) ?_ ?_
     rotate_left
     ·
      intro w'
      go_simp
      with_reducible rfl
     rotate_left
     ·
      simp only [Act.put, List.setIfInBounds_toArray, List.set_cons_zero, List.set_cons_succ, i64_w, i32_w]
      rfl
     refine done_ (by kernel_rfl) ?_
     have hcz45_0 : w44.cell? ⟨gb1080, 0, none⟩ = some (.slice Ao32 t1074.length co32) := (blk_cell BK1080.out 0).trans rfl
     have hcz45_1 : w44.cell? ⟨gb1080, 1, none⟩ = some (.slice Ao35 t1077.length co35) := (blk_cell BK1080.out 1).trans rfl
     have hfz45_0 := blk_frozen BK1080.out 0
     have hfz45_1 := blk_frozen BK1080.out 1
     go_upto_region 16 with (first | ((with_reducible refine gate_callee (f := 22) rfl ?_); refine goesL_ (some 41) rfl rfl Try.func22 (by kernel_rfl) rfl #[.agg #[.slice Ao32 t1074.length co32, .slice Ao35 t1077.length co35], .int .i64 1] rfl zs_ ?_; (with_reducible refine (laws_markFlash.calls k (fun k_ => some k_ = (.slice Ao32 t1074.length co32 : Value).ownBlock) (.slice Ao32 t1074.length co32) t1074 (fun k_ => some k_ = (.slice Ao35 t1077.length co35 : Value).ownBlock) (.slice Ao35 t1077.length co35) t1077 1 t1092 t1093 t1094 w _ ?side1 ?side2 ?side3 A19.out).mono ?_); (case side1 => repeat (first | (with_reducible first | exact HB.out | apply below_alloc | apply pw_below_drewN | apply below_drew1 | refine below_set ?_ GE1063.out | refine below_set ?_ GE1080.out) | exact HB.out)); (case side2 => exact Kd.R_tight rfl HO1076.out); (case side3 => exact Kd.R_tight rfl HO1079.out); rintro e w46 ⟨rfl, hy0, hy1, hb, hkp⟩; refine ⟨_, rfl, ?_⟩; have n0_ := zA_ (blk_kept (zb_ BK1063.out) hkp (fun hs_ => Or.elim hs_ (fun e_ => (fun e_ => (Kd.R_ne HO1076.out BK1063.out (by decide)) e_) e_) (fun e_ => (fun e_ => (Kd.R_ne HO1079.out BK1063.out (by decide)) e_) e_))); have n1_ := zA_ (Kd.R_mono (ok' := fun k_ => some k_ ≠ (.slice Ao32 t1074.length co32 : Value).ownBlock ∧ some k_ ≠ (.slice Ao42 t1085.length co42 : Value).ownBlock) (Kd.R_keptB ((Kd.R_apart' HO1067.out (Kd.R_typed HO1079.out) (by decide))) hkp (fun k_ hk_ hs_ => Or.elim hs_ (fun e_ => (hk_.1.1.2) e_) (fun e_ => (hk_.2) e_))) (fun k_ hk_ => ⟨hk_.1.1.1.2, hk_.1.1.2⟩)); have n2_ := zA_ (Kd.R_mono (ok' := fun k_ => some k_ ≠ (.slice Ao35 t1077.length co35 : Value).ownBlock ∧ some k_ ≠ (.slice Ao43 t1088.length co43 : Value).ownBlock) (Kd.R_keptB ((Kd.R_apart' HO1070.out (Kd.R_typed HO1076.out) (by decide))) hkp (fun k_ hk_ hs_ => Or.elim hs_ (fun e_ => (hk_.2) e_) (fun e_ => (hk_.1.1.2) e_))) (fun k_ hk_ => ⟨hk_.1.1.1.2, hk_.1.1.2⟩)); have n3_ := zA_ (Kd.R_mono (ok' := fun k_ => some k_ ≠ (.slice Ao37 t1081.length co37 : Value).ownBlock) (Kd.R_keptB ((Kd.R_apart' (Kd.R_apart' HO1073.out (Kd.R_typed HO1076.out) (by decide)) (Kd.R_typed HO1079.out) (by decide))) hkp (fun k_ hk_ hs_ => Or.elim hs_ (fun e_ => (hk_.1.2) e_) (fun e_ => (hk_.2) e_))) (fun k_ hk_ => hk_.1.1.1.2)); have n4_ := zA_ (Kd.R_reok rfl hy0 (fun k_ e_ => HO1076.out.1 k_ e_)); have n5_ := zA_ (Kd.R_reok rfl hy1 (fun k_ e_ => HO1079.out.1 k_ e_)); have n6_ := zA_ (blk_kept (zb_ BK1080.out) hkp (fun hs_ => Or.elim hs_ (fun e_ => (fun e_ => (Kd.R_ne HO1076.out BK1080.out (by decide)) e_) e_) (fun e_ => (fun e_ => (Kd.R_ne HO1079.out BK1080.out (by decide)) e_) e_))); have n7_ := zA_ (Kd.R_mono (ok' := fun k_ => some k_ ≠ (.slice Ao38 t1071.length co38 : Value).ownBlock) (Kd.R_keptB ((Kd.R_apart' (Kd.R_apart' HO1083.out (Kd.R_typed HO1076.out) (by decide)) (Kd.R_typed HO1079.out) (by decide))) hkp (fun k_ hk_ hs_ => Or.elim hs_ (fun e_ => (hk_.1.2) e_) (fun e_ => (hk_.2) e_))) (fun k_ hk_ => hk_.1.1.1.2)); have n8_ := zA_ (Kd.R_mono (ok' := fun k_ => some k_ ≠ (.slice Ao26 t1065.length co26 : Value).ownBlock ∧ some k_ ≠ (.slice Ao32 t1074.length co32 : Value).ownBlock) (Kd.R_keptB ((Kd.R_apart' HO1087.out (Kd.R_typed HO1079.out) (by decide))) hkp (fun k_ hk_ hs_ => Or.elim hs_ (fun e_ => (hk_.1.2) e_) (fun e_ => (hk_.2) e_))) (fun k_ hk_ => ⟨hk_.1.1.1.2, hk_.1.1.2⟩)); have n9_ := zA_ (Kd.R_mono (ok' := fun k_ => some k_ ≠ (.slice Ao27 t1068.length co27 : Value).ownBlock ∧ some k_ ≠ (.slice Ao35 t1077.length co35 : Value).ownBlock) (Kd.R_keptB ((Kd.R_apart' HO1090.out (Kd.R_typed HO1076.out) (by decide))) hkp (fun k_ hk_ hs_ => Or.elim hs_ (fun e_ => (hk_.2) e_) (fun e_ => (hk_.1.2) e_))) (fun k_ hk_ => ⟨hk_.1.1.1.2, hk_.1.1.2⟩)); have n10_ := zA_ (hb); clear BK1063 HO1067 HO1070 HO1073 HO1076 HO1079 BK1080 HO1083 HO1087 HO1090 HB; have BK1063 := n0_; have HO1067 := n1_; have HO1070 := n2_; have HO1073 := n3_; have HO1076 := n4_; have HO1079 := n5_; have BK1080 := n6_; have HO1083 := n7_; have HO1087 := n8_; have HO1090 := n9_; have HB := n10_; clear n0_ n1_ n2_ n3_ n4_ n5_ n6_ n7_ n8_ n9_ n10_; (try clear hb); (try clear hkp); (try clear hy0); (try clear hy1)))
     (try simp only [Act.put, List.setIfInBounds_toArray, List.set_cons_zero, List.set_cons_succ])
     go_cut [49] (fun v49 wc => ∃ (kq : Nat) (x49_19 : Bool), v49 = .bool x49_19 ∧ Aside0 (laws_FnExactMetaActs.j0 kq a1 t1071 t1081 x49_19 l0_0 l0_1 = some r) ∧ Aside0 (kq ≤ k) ∧ Aside0 (Kd.R k116 116 wc w.heap.size (fun k_ => some k_ ≠ ((.slice Ao37 t1081.length co37) : Value).ownBlock) (.slice Ao38 t1071.length co38) t1071) ∧ Aside0 (Kd.R k116 116 wc w.heap.size (fun k_ => some k_ ≠ ((.slice Ao38 t1071.length co38) : Value).ownBlock) (.slice Ao37 t1081.length co37) t1081) ∧ Aside0 (Kd.R Kd.string 9 wc w.heap.size (fun _ => True) (.slice Ao32 t1074.length co32) t1093) ∧ Aside0 (Kd.R k92 92 wc w.heap.size (fun _ => True) (.slice Ao35 t1077.length co35) t1094) ∧ Aside0 (wc.heap[gb1063]? = some (.cells #[(.slice A0_0 l0_0.length c0_0), (.slice A0_1 l0_1.length c0_1)] 25 (0, 0))) ∧ Aside0 (wc.heap[gb1080]? = some (.cells #[(.slice Ao32 t1074.length co32), (.slice Ao35 t1077.length co35)] 30 (0, 0))) ∧ Aside0 (Below w.heap.size w wc))
     case first =>
      have H := HC20.out
      clear HC20
      by_cases c47 : t1092 < 0
      ·
       rw [if_pos c47] at H
       have c47b0 : decide (t1092 < 0) = true := decide_eq_true c47
       clear c47
       (first | rw [c47b0] | (simp only [i64_w, i32_w]; rw [c47b0]) | skip)
       have H' := zA_ H
       clear H
       go_wp2
       go_meet
       case rel => exact ⟨_, (true), (by first | rfl | (simp; done) | (simp [*]; done)), H', ⟨by first | omega | exact Nat.le_refl _⟩, ⟨zr_ HO1073.out⟩, ⟨zr_ HO1083.out⟩, ⟨by (with_reducible repeat (first | apply Kd.R_alloc | apply Kd.R_drewN | apply Kd.R_drew)); exact Kd.R_mono HO1076.out (fun _ hk => trivial)⟩, ⟨by (with_reducible repeat (first | apply Kd.R_alloc | apply Kd.R_drewN | apply Kd.R_drew)); exact Kd.R_mono HO1079.out (fun _ hk => trivial)⟩, ⟨zb_ BK1063.out⟩, ⟨zb_ BK1080.out⟩, ⟨zg2_ HB.out GE1063.out GE1080.out⟩⟩
      ·
       rw [if_neg c47] at H
       have c47b0 : decide (t1092 < 0) = false := decide_eq_false c47
       clear c47
       (first | rw [c47b0] | (simp only [i64_w, i32_w]; rw [c47b0]) | skip)
       replace H := Option.bind_eq_some_iff.mp H
       obtain ⟨t1095, A480, H⟩ := H
       replace H : (laws_FnExactMetaActs.j0 k a1 t1071 t1081 (!t1095) l0_0 l0_1) = some r := H
       have A48 := zA_ A480
       clear A480
       have H' := zA_ H
       clear H
       go_wp2_with (first | (go_at_call 42; (with_reducible refine (laws_eqActS.calls k _ _ t1081 _ _ t1071 t1095 _ ?side1 ?side2 ?side3 ?side4 A48.out).mono ?_); (case side1 => exact zc_ (Kd.R_reads' HO1083.out).2.2); (case side2 => exact (Kd.R_reads' HO1083.out).2.1); (case side3 => exact zc_ (Kd.R_reads' HO1073.out).2.2); (case side4 => exact (Kd.R_reads' HO1073.out).2.1); rintro e w49 ⟨rfl, hb⟩; have n0_ := zA_ (Kd.R_below (zr_ HO1067.out) hb); have n1_ := zA_ (Kd.R_below (zr_ HO1070.out) hb); have n2_ := zA_ (Kd.R_below (zr_ HO1073.out) hb); have n3_ := zA_ (Kd.R_below (zr_ HO1076.out) hb); have n4_ := zA_ (Kd.R_below (zr_ HO1079.out) hb); have n5_ := zA_ (Kd.R_below (zr_ HO1083.out) hb); have n6_ := zA_ (Kd.R_below (zr_ HO1087.out) hb); have n7_ := zA_ (Kd.R_below (zr_ HO1090.out) hb); have n8_ := zA_ (blk_below (g := gb1063) (o := .cells #[.slice A0_0 l0_0.length c0_0, .slice A0_1 l0_1.length c0_1] 25 (0, 0)) (zb_ BK1063.out) hb); have n9_ := zA_ (blk_below (g := gb1080) (o := .cells #[.slice Ao32 t1074.length co32, .slice Ao35 t1077.length co35] 30 (0, 0)) (zb_ BK1080.out) hb); have n10_ := zA_ (below_step (zg2_ HB.out GE1063.out GE1080.out) hb); clear HO1067 HO1070 HO1073 HO1076 HO1079 HO1083 HO1087 HO1090 BK1063 BK1080 HB; have HO1067 := n0_; have HO1070 := n1_; have HO1073 := n2_; have HO1076 := n3_; have HO1079 := n4_; have HO1083 := n5_; have HO1087 := n6_; have HO1090 := n7_; have BK1063 := n8_; have BK1080 := n9_; have HB := n10_; clear n0_ n1_ n2_ n3_ n4_ n5_ n6_ n7_ n8_ n9_ n10_; (try clear hb); (try clear hb2); (try clear hk); (try clear hi)))
       go_meet
       case rel => exact ⟨_, (!t1095), (by first | rfl | (simp; done) | (simp [*]; done)), H', ⟨by first | omega | exact Nat.le_refl _⟩, ⟨zr_ HO1073.out⟩, ⟨zr_ HO1083.out⟩, ⟨by (with_reducible repeat (first | apply Kd.R_alloc | apply Kd.R_drewN | apply Kd.R_drew)); exact Kd.R_mono HO1076.out (fun _ hk => trivial)⟩, ⟨by (with_reducible repeat (first | apply Kd.R_alloc | apply Kd.R_drewN | apply Kd.R_drew)); exact Kd.R_mono HO1079.out (fun _ hk => trivial)⟩, ⟨zb_ BK1063.out⟩, ⟨zb_ BK1080.out⟩, ⟨zg2_ HB.out GE1063.out GE1080.out⟩⟩
     case rest =>
      clear HC20
      try clear c1
      try clear c2
      try clear p2
      try clear c3
      try clear c3b0
      try clear c3b1
      try clear c4
      try clear c6
      try clear c6b0
      try clear c11
      try clear c14
      try clear c15
      try clear c16
      try clear c18
      try clear c22
      try clear c33
      try clear c42
      try clear c46
      try clear c47
      try clear c47b0
      try clear hcz22_0
      try clear hcz22_1
      try clear hcz24_0
      try clear hcz24_1
      try clear hcz29_0
      try clear hcz29_1
      try clear hcz34_0
      try clear hcz34_1
      try clear hcz45_0
      try clear hcz45_1
      try clear hcz8_0
      try clear hcz8_1
      try clear hfz22_0
      try clear hfz22_1
      try clear hfz24_0
      try clear hfz24_1
      try clear hfz29_0
      try clear hfz29_1
      try clear hfz34_0
      try clear hfz34_1
      try clear hfz45_0
      try clear hfz45_1
      try clear hfz8_0
      try clear hfz8_1
      obtain ⟨kq, x49_19, rfl, HA, HJ19, HO_6, HO_8, HO_1081000, HO_1081001, BK1063, BK1080, HB⟩ := hcut
      have hl1081000_19 := (Kd.R_reads' HO_1081000.out).1
      rw [hl1081000_19] at HO_1081000
      (try simp only [hl1081000_19])
      (try simp only [hl1081000_19] at BK1063)
      (try simp only [hl1081000_19] at BK1080)
      (try simp only [hl1081000_19] at HO_6)
      (try simp only [hl1081000_19] at HO_8)
      (try simp only [hl1081000_19] at HO_1081001)
      have hl1081001_19 := (Kd.R_reads' HO_1081001.out).1
      rw [hl1081001_19] at HO_1081001
      (try simp only [hl1081001_19])
      (try simp only [hl1081001_19] at BK1063)
      (try simp only [hl1081001_19] at BK1080)
      (try simp only [hl1081001_19] at HO_6)
      (try simp only [hl1081001_19] at HO_8)
      (try simp only [hl1081001_19] at HO_1081000)
      cases kq with
      | zero => exact absurd HA.out (by simp [laws_FnExactMetaActs.j0])
      | succ kj19 =>
       have H := HA.out
       clear HA
       simp only [laws_FnExactMetaActs.j0] at H
       by_cases c50 : x49_19 = true
       ·
        subst c50
        have H1 : (none) = some r := by rw [if_pos rfl] at H; exact H
        clear H
        have H := H1
        clear H1
        exact absurd H (by simp)
       ·
        replace c50 := Bool.eq_false_iff.mpr c50
        subst c50
        have H1 : ((laws_markActS.f kj19 t1081 1).bind fun bt1096 => ((laws_heldActS.f kj19 bt1096.2 1).bind fun t1098 => (if t1098 < 0 then (none) else (if t1098 = bt1096.1 then ((laws_toFlash.f kj19 l0_0 l0_1).bind fun bt1099 => ((impl_MetaActs.f kj19 bt1099.1 bt1099.2 a1).bind fun t1105 => ((laws_eqActS.f kj19 t1105 t1071).bind fun t1108 => (if t1108 = true then ((laws_heldActS.f kj19 bt1096.2 1).bind fun t1109 => (if t1109 < 0 then (none) else (if t1109 = bt1096.1 then (some true) else (none)))) else (none))))) else (none))))) = some r := by rw [if_neg (show ¬ (false = true) by decide)] at H; exact H
        clear H
        have H := H1
        clear H1
        replace H := Option.bind_eq_some_iff.mp H
        obtain ⟨⟨t1096, t1097⟩, A510, H⟩ := H
        replace H : ((laws_heldActS.f kj19 t1097 1).bind fun t1098 => (if t1098 < 0 then (none) else (if t1098 = t1096 then ((laws_toFlash.f kj19 l0_0 l0_1).bind fun bt1099 => ((impl_MetaActs.f kj19 bt1099.1 bt1099.2 a1).bind fun t1105 => ((laws_eqActS.f kj19 t1105 t1071).bind fun t1108 => (if t1108 = true then ((laws_heldActS.f kj19 t1097 1).bind fun t1109 => (if t1109 < 0 then (none) else (if t1109 = t1096 then (some true) else (none)))) else (none))))) else (none)))) = some r := H
        have A51 := zA_ A510
        clear A510
        replace H := Option.bind_eq_some_iff.mp H
        obtain ⟨t1098, A520, H⟩ := H
        replace H : (if t1098 < 0 then (none) else (if t1098 = t1096 then ((laws_toFlash.f kj19 l0_0 l0_1).bind fun bt1099 => ((impl_MetaActs.f kj19 bt1099.1 bt1099.2 a1).bind fun t1105 => ((laws_eqActS.f kj19 t1105 t1071).bind fun t1108 => (if t1108 = true then ((laws_heldActS.f kj19 t1097 1).bind fun t1109 => (if t1109 < 0 then (none) else (if t1109 = t1096 then (some true) else (none)))) else (none))))) else (none))) = some r := H
        have A52 := zA_ A520
        clear A520
        by_cases c53 : t1098 < 0
        ·
         rw [if_pos c53] at H
         exact absurd H (by simp)
        ·
         rw [if_neg c53] at H
         have c53b0 : decide (t1098 < 0) = false := decide_eq_false c53
         clear c53
         by_cases c54 : t1098 = t1096
         ·
          rw [if_pos c54] at H
          have c54b0 : (t1098 == t1096) = true := beq_iff_eq.mpr c54
          have c54b1 : (t1098 != t1096) = false := bne_eq_false_iff_eq.mpr c54
          clear c54
          replace H := Option.bind_eq_some_iff.mp H
          obtain ⟨⟨t1099, t1102⟩, A550, H⟩ := H
          replace H : ((impl_MetaActs.f kj19 t1099 t1102 a1).bind fun t1105 => ((laws_eqActS.f kj19 t1105 t1071).bind fun t1108 => (if t1108 = true then ((laws_heldActS.f kj19 t1097 1).bind fun t1109 => (if t1109 < 0 then (none) else (if t1109 = t1096 then (some true) else (none)))) else (none)))) = some r := H
          have A55 := zA_ A550
          clear A550
          replace H := Option.bind_eq_some_iff.mp H
          obtain ⟨t1105, A560, H⟩ := H
          replace H : ((laws_eqActS.f kj19 t1105 t1071).bind fun t1108 => (if t1108 = true then ((laws_heldActS.f kj19 t1097 1).bind fun t1109 => (if t1109 < 0 then (none) else (if t1109 = t1096 then (some true) else (none)))) else (none))) = some r := H
          have A56 := zA_ A560
          clear A560
          replace H := Option.bind_eq_some_iff.mp H
          obtain ⟨t1108, A570, H⟩ := H
          replace H : (if t1108 = true then ((laws_heldActS.f kj19 t1097 1).bind fun t1109 => (if t1109 < 0 then (none) else (if t1109 = t1096 then (some true) else (none)))) else (none)) = some r := H
          have A57 := zA_ A570
          clear A570
          by_cases c58 : t1108 = true
          ·
           subst c58
           have H1 : ((laws_heldActS.f kj19 t1097 1).bind fun t1109 => (if t1109 < 0 then (none) else (if t1109 = t1096 then (some true) else (none)))) = some r := by rw [if_pos rfl] at H; exact H
           clear H
           have H := H1
           clear H1
           replace H := Option.bind_eq_some_iff.mp H
           obtain ⟨t1109, A590, H⟩ := H
           replace H : (if t1109 < 0 then (none) else (if t1109 = t1096 then (some true) else (none))) = some r := H
           have A59 := zA_ A590
           clear A590
           by_cases c60 : t1109 < 0
           ·
            rw [if_pos c60] at H
            exact absurd H (by simp)
           ·
            rw [if_neg c60] at H
            have c60b0 : decide (t1109 < 0) = false := decide_eq_false c60
            clear c60
            by_cases c61 : t1109 = t1096
            ·
             rw [if_pos c61] at H
             have c61b0 : (t1109 == t1096) = true := beq_iff_eq.mpr c61
             have c61b1 : (t1109 != t1096) = false := bne_eq_false_iff_eq.mpr c61
             clear c61
             obtain rfl := Option.some.inj H
             go_wp2_with (first | ((with_reducible refine gate_callee (f := 43) rfl ?_); refine goesL_ (some 52) rfl rfl Try.func43 (by kernel_rfl) rfl #[.slice Ao37 t1081.length co37, .int .i64 1] rfl zs_ ?_; (with_reducible refine (laws_markActS.calls kj19 (fun k_ => some k_ = (.slice Ao37 t1081.length co37 : Value).ownBlock) (.slice Ao37 t1081.length co37) t1081 1 t1096 t1097 w _ ?side1 ?side2 A51.out).mono ?_); (case side1 => repeat (first | (with_reducible first | exact HB.out | apply below_alloc | apply pw_below_drewN | apply below_drew1 | refine below_set ?_ GE1063.out | refine below_set ?_ GE1080.out) | exact HB.out)); (case side2 => exact Kd.R_tight rfl HO_8.out); rintro e w62 ⟨rfl, hy0, hb, hkp⟩; refine ⟨_, rfl, ?_⟩; have n0_ := zA_ (Kd.R_mono (ok' := fun k_ => some k_ ≠ (.slice Ao37 t1081.length co37 : Value).ownBlock) (Kd.R_keptB (HO_6.out) hkp (fun k_ hk_ hs_ => (hk_) hs_)) (fun k_ hk_ => hk_.1)); have n1_ := zA_ (Kd.R_reok rfl hy0 (fun k_ e_ => HO_8.out.1 k_ e_)); have n2_ := zA_ (Kd.R_mono (ok' := fun k_ => True) (Kd.R_keptB ((Kd.R_apart' HO_1081000.out (Kd.R_typed HO_8.out) (by decide))) hkp (fun k_ hk_ hs_ => (hk_.2) hs_)) (fun k_ hk_ => trivial)); have n3_ := zA_ (Kd.R_mono (ok' := fun k_ => True) (Kd.R_keptB ((Kd.R_apart' HO_1081001.out (Kd.R_typed HO_8.out) (by decide))) hkp (fun k_ hk_ hs_ => (hk_.2) hs_)) (fun k_ hk_ => trivial)); have n4_ := zA_ (blk_kept (zb_ BK1063.out) hkp (fun hs_ => (fun e_ => (Kd.R_ne HO_8.out BK1063.out (by decide)) e_) hs_)); have n5_ := zA_ (blk_kept (zb_ BK1080.out) hkp (fun hs_ => (fun e_ => (Kd.R_ne HO_8.out BK1080.out (by decide)) e_) hs_)); have n6_ := zA_ (hb); clear HO_6 HO_8 HO_1081000 HO_1081001 BK1063 BK1080 HB; have HO_6 := n0_; have HO_8 := n1_; have HO_1081000 := n2_; have HO_1081001 := n3_; have BK1063 := n4_; have BK1080 := n5_; have HB := n6_; clear n0_ n1_ n2_ n3_ n4_ n5_ n6_; (try clear hb); (try clear hkp); (try clear hy0)) | ((with_reducible refine gate_callee (f := 48) rfl ?_); refine goesL_ (some 55) rfl rfl Try.func48 (by kernel_rfl) rfl #[.slice Ao37 t1097.length co37, .int .i64 1] rfl (by (try simp only [List.map_toArray, List.map_cons, List.map_nil]); first | done | (rw [show t1097.length = t1081.length from (Kd.R_reads' HO_8.out).1.symm] <;> rfl) | rfl | (simp only [List.length_drop, List.length_take]; rfl)) ?_; (with_reducible refine (laws_heldActS.calls kj19 _ _ t1097 1 t1098 _ ?side1 ?side2 A52.out).mono ?_); (case side1 => exact zc_ (Kd.R_reads' HO_8.out).2.2); (case side2 => rw [show t1097.length = t1081.length from (Kd.R_reads' HO_8.out).1.symm]; exact (Kd.R_reads' HO_8.out).2.1); rintro e w63 ⟨rfl, hb⟩; refine ⟨_, rfl, ?_⟩; have n0_ := zA_ (Kd.R_below (zr_ HO_6.out) hb); have n1_ := zA_ (Kd.R_below (zr_ HO_8.out) hb); have n2_ := zA_ (Kd.R_below (zr_ HO_1081000.out) hb); have n3_ := zA_ (Kd.R_below (zr_ HO_1081001.out) hb); have n4_ := zA_ (blk_below (g := gb1063) (o := .cells #[.slice A0_0 l0_0.length c0_0, .slice A0_1 l0_1.length c0_1] 25 (0, 0)) (zb_ BK1063.out) hb); have n5_ := zA_ (blk_below (g := gb1080) (o := .cells #[.slice Ao32 t1093.length co32, .slice Ao35 t1094.length co35] 30 (0, 0)) (zb_ BK1080.out) hb); have n6_ := zA_ (below_step (zg2_ HB.out GE1063.out GE1080.out) hb); clear HO_6 HO_8 HO_1081000 HO_1081001 BK1063 BK1080 HB; have HO_6 := n0_; have HO_8 := n1_; have HO_1081000 := n2_; have HO_1081001 := n3_; have BK1063 := n4_; have BK1080 := n5_; have HB := n6_; clear n0_ n1_ n2_ n3_ n4_ n5_ n6_; (try clear hb); (try clear hb2); (try clear hk); (try clear hi); have hnb64 := NB1063_1080.out; have hnc64 := NB1080_1063.out; have hcz65_0 : w63.cell? ⟨gb1063, 0, none⟩ = some (.slice A0_0 l0_0.length c0_0) := (blk_cell BK1063.out 0).trans rfl; have hcz65_1 : w63.cell? ⟨gb1063, 1, none⟩ = some (.slice A0_1 l0_1.length c0_1) := (blk_cell BK1063.out 1).trans rfl; have hfz65_0 := blk_frozen BK1063.out 0; have hfz65_1 := blk_frozen BK1063.out 1) | ((with_reducible refine gate_callee (f := 16) rfl ?_); refine goesL_ (some 62) rfl rfl Try.func16 (by kernel_rfl) rfl #[.agg #[.slice A0_0 l0_0.length c0_0, .slice A0_1 l0_1.length c0_1]] rfl zs_ ?_; (with_reducible refine (laws_toFlash.calls kj19 _ _ l0_0 _ _ l0_1 t1099 t1102 _ ?side1 ?side2 ?side3 ?side4 A55.out).mono ?_); (case side1 => exact zc_ (Kd.C_below HR0_0.out HB.out)); (case side2 => exact HC0_0.out); (case side3 => exact zc_ (Kd.C_below HR0_1.out HB.out)); (case side4 => exact HC0_1.out); rintro e w66 ⟨v1100, v1103, rfl, ho0, ho1, hb⟩; refine ⟨_, rfl, ?_⟩; have n0_ := zA_ (Kd.R_below (zr_ HO_6.out) hb); have n1_ := zA_ (Kd.R_below (zr_ HO_8.out) hb); have n2_ := zA_ (Kd.R_elder' (zr_ HO_1081000.out) (Kd.R_base ho0) hb); have n3_ := zA_ (Kd.R_elder' (zr_ HO_1081001.out) (Kd.R_base ho1) hb); have n4_ := zA_ (Kd.R_lower (Kd.R_new' ho0 (Kd.R_lt (zr_ HO_1081000.out))) (below_size (zg2_ HB.out GE1063.out GE1080.out))); have n5_ := zA_ (Kd.R_lower (Kd.R_new' ho1 (Kd.R_lt (zr_ HO_1081001.out))) (below_size (zg2_ HB.out GE1063.out GE1080.out))); have n6_ := zA_ (blk_below (g := gb1063) (o := .cells #[.slice A0_0 l0_0.length c0_0, .slice A0_1 l0_1.length c0_1] 25 (0, 0)) (zb_ BK1063.out) hb); have n7_ := zA_ (blk_below (g := gb1080) (o := .cells #[.slice Ao32 t1093.length co32, .slice Ao35 t1094.length co35] 30 (0, 0)) (zb_ BK1080.out) hb); have n8_ := zA_ (below_step (zg2_ HB.out GE1063.out GE1080.out) hb); clear HO_6 HO_8 HO_1081000 HO_1081001 BK1063 BK1080 HB; have HO_6 := n0_; have HO_8 := n1_; have HO_1081000 := n2_; have HO_1081001 := n3_; have HO1101 := n4_; have HO1104 := n5_; have BK1063 := n6_; have BK1080 := n7_; have HB := n8_; clear n0_ n1_ n2_ n3_ n4_ n5_ n6_ n7_ n8_; (try clear hb); (try clear hb2); (try clear hk); (try clear hi); (try clear ho0); (try clear ho1); obtain ⟨Ao67, co67, eo67⟩ := Kd.R_slice HO1101.out; subst eo67; obtain ⟨Ao68, co68, eo68⟩ := Kd.R_slice HO1104.out; subst eo68) | ((with_reducible refine gate_callee (f := 47) rfl ?_); refine goesL_ (some 64) rfl rfl Try.func47 (by kernel_rfl) rfl #[.agg #[.slice Ao67 t1099.length co67, .slice Ao68 t1102.length co68], .string a1] rfl zs_ ?_; (with_reducible refine (impl_MetaActs.calls kj19 _ _ t1099 _ _ t1102 a1 t1105 _ ?side1 ?side2 ?side3 ?side4 A56.out).mono ?_); (case side1 => exact zc_ (Kd.R_reads' HO1101.out).2.2); (case side2 => exact (Kd.R_reads' HO1101.out).2.1); (case side3 => exact zc_ (Kd.R_reads' HO1104.out).2.2); (case side4 => exact (Kd.R_reads' HO1104.out).2.1); rintro e w69 ⟨v1106, rfl, ho0, hb⟩; refine ⟨_, rfl, ?_⟩; have n0_ := zA_ (Kd.R_elder' (zr_ HO_6.out) (Kd.R_base ho0) hb); have n1_ := zA_ (Kd.R_elder' (zr_ HO_8.out) (Kd.R_base ho0) hb); have n2_ := zA_ (Kd.R_below (zr_ HO_1081000.out) hb); have n3_ := zA_ (Kd.R_below (zr_ HO_1081001.out) hb); have n4_ := zA_ (Kd.R_below (zr_ HO1101.out) hb); have n5_ := zA_ (Kd.R_below (zr_ HO1104.out) hb); have n6_ := zA_ (Kd.R_lower (Kd.R_new' (Kd.R_new' ho0 (Kd.R_lt (zr_ HO_6.out))) (Kd.R_lt (zr_ HO_8.out))) (below_size (zg2_ HB.out GE1063.out GE1080.out))); have n7_ := zA_ (blk_below (g := gb1063) (o := .cells #[.slice A0_0 l0_0.length c0_0, .slice A0_1 l0_1.length c0_1] 25 (0, 0)) (zb_ BK1063.out) hb); have n8_ := zA_ (blk_below (g := gb1080) (o := .cells #[.slice Ao32 t1093.length co32, .slice Ao35 t1094.length co35] 30 (0, 0)) (zb_ BK1080.out) hb); have n9_ := zA_ (below_step (zg2_ HB.out GE1063.out GE1080.out) hb); clear HO_6 HO_8 HO_1081000 HO_1081001 HO1101 HO1104 BK1063 BK1080 HB; have HO_6 := n0_; have HO_8 := n1_; have HO_1081000 := n2_; have HO_1081001 := n3_; have HO1101 := n4_; have HO1104 := n5_; have HO1107 := n6_; have BK1063 := n7_; have BK1080 := n8_; have HB := n9_; clear n0_ n1_ n2_ n3_ n4_ n5_ n6_ n7_ n8_ n9_; (try clear hb); (try clear hb2); (try clear hk); (try clear hi); (try clear ho0); obtain ⟨Ao70, co70, eo70⟩ := Kd.R_slice HO1107.out; subst eo70) | ((with_reducible refine gate_callee (f := 42) rfl ?_); refine goesL_ (some 67) rfl rfl Try.func42 (by kernel_rfl) rfl #[.slice Ao70 t1105.length co70, .slice Ao38 t1071.length co38] rfl zs_ ?_; (with_reducible refine (laws_eqActS.calls kj19 _ _ t1105 _ _ t1071 true _ ?side1 ?side2 ?side3 ?side4 A57.out).mono ?_); (case side1 => exact zc_ (Kd.R_reads' HO1107.out).2.2); (case side2 => exact (Kd.R_reads' HO1107.out).2.1); (case side3 => exact zc_ (Kd.R_reads' HO_6.out).2.2); (case side4 => exact (Kd.R_reads' HO_6.out).2.1); rintro e w71 ⟨rfl, hb⟩; refine ⟨_, rfl, ?_⟩; have n0_ := zA_ (Kd.R_below (zr_ HO_6.out) hb); have n1_ := zA_ (Kd.R_below (zr_ HO_8.out) hb); have n2_ := zA_ (Kd.R_below (zr_ HO_1081000.out) hb); have n3_ := zA_ (Kd.R_below (zr_ HO_1081001.out) hb); have n4_ := zA_ (Kd.R_below (zr_ HO1101.out) hb); have n5_ := zA_ (Kd.R_below (zr_ HO1104.out) hb); have n6_ := zA_ (Kd.R_below (zr_ HO1107.out) hb); have n7_ := zA_ (blk_below (g := gb1063) (o := .cells #[.slice A0_0 l0_0.length c0_0, .slice A0_1 l0_1.length c0_1] 25 (0, 0)) (zb_ BK1063.out) hb); have n8_ := zA_ (blk_below (g := gb1080) (o := .cells #[.slice Ao32 t1093.length co32, .slice Ao35 t1094.length co35] 30 (0, 0)) (zb_ BK1080.out) hb); have n9_ := zA_ (below_step (zg2_ HB.out GE1063.out GE1080.out) hb); clear HO_6 HO_8 HO_1081000 HO_1081001 HO1101 HO1104 HO1107 BK1063 BK1080 HB; have HO_6 := n0_; have HO_8 := n1_; have HO_1081000 := n2_; have HO_1081001 := n3_; have HO1101 := n4_; have HO1104 := n5_; have HO1107 := n6_; have BK1063 := n7_; have BK1080 := n8_; have HB := n9_; clear n0_ n1_ n2_ n3_ n4_ n5_ n6_ n7_ n8_ n9_; (try clear hb); (try clear hb2); (try clear hk); (try clear hi)) | ((with_reducible refine gate_callee (f := 48) rfl ?_); refine goesL_ (some 71) rfl rfl Try.func48 (by kernel_rfl) rfl #[.slice Ao37 t1097.length co37, .int .i64 1] rfl (by (try simp only [List.map_toArray, List.map_cons, List.map_nil]); first | done | (rw [show t1097.length = t1081.length from (Kd.R_reads' HO_8.out).1.symm] <;> rfl) | rfl | (simp only [List.length_drop, List.length_take]; rfl)) ?_; (with_reducible refine (laws_heldActS.calls kj19 _ _ t1097 1 t1109 _ ?side1 ?side2 A59.out).mono ?_); (case side1 => exact zc_ (Kd.R_reads' HO_8.out).2.2); (case side2 => rw [show t1097.length = t1081.length from (Kd.R_reads' HO_8.out).1.symm]; exact (Kd.R_reads' HO_8.out).2.1); rintro e w72 ⟨rfl, hb⟩; refine ⟨_, rfl, ?_⟩; have n0_ := zA_ (Kd.R_below (zr_ HO_6.out) hb); have n1_ := zA_ (Kd.R_below (zr_ HO_8.out) hb); have n2_ := zA_ (Kd.R_below (zr_ HO_1081000.out) hb); have n3_ := zA_ (Kd.R_below (zr_ HO_1081001.out) hb); have n4_ := zA_ (Kd.R_below (zr_ HO1101.out) hb); have n5_ := zA_ (Kd.R_below (zr_ HO1104.out) hb); have n6_ := zA_ (Kd.R_below (zr_ HO1107.out) hb); have n7_ := zA_ (blk_below (g := gb1063) (o := .cells #[.slice A0_0 l0_0.length c0_0, .slice A0_1 l0_1.length c0_1] 25 (0, 0)) (zb_ BK1063.out) hb); have n8_ := zA_ (blk_below (g := gb1080) (o := .cells #[.slice Ao32 t1093.length co32, .slice Ao35 t1094.length co35] 30 (0, 0)) (zb_ BK1080.out) hb); have n9_ := zA_ (below_step (zg2_ HB.out GE1063.out GE1080.out) hb); clear HO_6 HO_8 HO_1081000 HO_1081001 HO1101 HO1104 HO1107 BK1063 BK1080 HB; have HO_6 := n0_; have HO_8 := n1_; have HO_1081000 := n2_; have HO_1081001 := n3_; have HO1101 := n4_; have HO1104 := n5_; have HO1107 := n6_; have BK1063 := n7_; have BK1080 := n8_; have HB := n9_; clear n0_ n1_ n2_ n3_ n4_ n5_ n6_ n7_ n8_ n9_; (try clear hb); (try clear hb2); (try clear hk); (try clear hi)))
             go_ret
             exact ⟨by first | rfl | (simp [errW_none, errW_some] <;> rfl) | (simp [*, errW_none, errW_some] <;> rfl), by repeat (first | (with_reducible first | exact HB.out | apply below_alloc | apply pw_below_drewN | apply below_drew1 | refine below_set ?_ GE1063.out | refine below_set ?_ GE1080.out) | exact HB.out)⟩
            ·
             rw [if_neg c61] at H
             exact absurd H (by simp)
          ·
           replace c58 := Bool.eq_false_iff.mpr c58
           subst c58
           have H1 : (none) = some r := by rw [if_neg (show ¬ (false = true) by decide)] at H; exact H
           clear H
           have H := H1
           clear H1
           exact absurd H (by simp)
         ·
          rw [if_neg c54] at H
          exact absurd H (by simp)
    ·
     replace c18 := Bool.eq_false_iff.mpr c18
     subst c18
     have H1 : (none) = some r := by rw [if_neg (show ¬ (false = true) by decide)] at H; exact H
     clear H
     have H := H1
     clear H1
     exact absurd H (by simp)
   ·
    replace c15 := Bool.eq_false_iff.mpr c15
    subst c15
    have H1 : (none) = some r := by rw [if_neg (show ¬ (false = true) by decide)] at H; exact H
    clear H
    have H := H1
    clear H1
    exact absurd H (by simp)


/-- A state of type 151 at block g of W; what its slices lead to came in by w0. -/
def IsS151 (w0 W : World) (g : Nat) (f0 : List Int) (f1 : Int) (f2 : Int) (f3 : Int) : Prop := ∃ A0 c0, W.heap[g]? = some (.cells #[.slice A0 f0.length c0, .int .i64 f1, .int .u64 f2, .int .i64 f3] 151 (0, 0)) ∧ w0.heap.size ≤ g ∧ Kd.C (Kd.int .u8) w0 A0 f0.length f0
theorem IsS151.grown {w0 W : World} {g : Nat} {f0 : List Int} {f1 : Int} {f2 : Int} {f3 : Int} {W1 : World} {row : Option Nat} (h : IsS151 w0 W g f0 f1 f2 f3) (hw : W.grownBy W1 row) (hne : some g ≠ row) : IsS151 w0 W1 g f0 f1 f2 f3 := by
 obtain ⟨A0, c0, hb, hg, hr0⟩ := h
 exact ⟨A0, c0, blk_grown hb hw hne, hg, hr0⟩
theorem IsS151.own_neN {w0 W : World} {g : Nat} {f0 : List Int} {f1 : Int} {f2 : Int} {f3 : Int} {α : Type} {d : Kd α} {e : Nat} {base : Nat} {ok : Nat → Prop} {v : Value} {xs : List α} (h : IsS151 w0 W g f0 f1 f2 f3) (ho : Kd.N d e W base ok v xs) (ht : e ≠ 151) : some g ≠ v.ownBlock := by
 obtain ⟨A0, c0, hb, hg, hr0⟩ := h
 exact Kd.N_ne ho hb ht
theorem IsS151.fresh {w0 W : World} {g : Nat} {f0 : List Int} {f1 : Int} {f2 : Int} {f3 : Int} (h : IsS151 w0 W g f0 f1 f2 f3) : ∀ k, W.heap.size ≤ k → k ≠ g := by
 obtain ⟨A0, c0, hb, hg, hr0⟩ := h
 exact Kd.freshB hb
theorem IsS151.kept {w0 W : World} {g : Nat} {f0 : List Int} {f1 : Int} {f2 : Int} {f3 : Int} {W1 : World} {S : Nat → Prop} (h : IsS151 w0 W g f0 f1 f2 f3) (hk : Kept W W1 S) (hne : ¬ S g) : IsS151 w0 W1 g f0 f1 f2 f3 := by
 obtain ⟨A0, c0, hb, hg, hr0⟩ := h
 exact ⟨A0, c0, blk_kept hb hk hne, hg, hr0⟩
theorem IsS151.below {w0 W : World} {g : Nat} {f0 : List Int} {f1 : Int} {f2 : Int} {f3 : Int} {W1 : World} (h : IsS151 w0 W g f0 f1 f2 f3) (hw : Below W.heap.size W W1) : IsS151 w0 W1 g f0 f1 f2 f3 := h.grown (grown_of_below hw none) (by simp)
theorem IsS151.alloc {w0 W : World} {g : Nat} {f0 : List Int} {f1 : Int} {f2 : Int} {f3 : Int} (h : IsS151 w0 W g f0 f1 f2 f3) (o : Obj) : IsS151 w0 (W.alloc o) g f0 f1 f2 f3 := h.below (below_alloc (Below.refl _ _) o)
theorem IsS151.drewN {w0 W : World} {g : Nat} {f0 : List Int} {f1 : Int} {f2 : Int} {f3 : Int} (h : IsS151 w0 W g f0 f1 f2 f3) (m : Nat) : IsS151 w0 (W.drewN m) g f0 f1 f2 f3 := h
theorem IsS151.drew {w0 W : World} {g : Nat} {f0 : List Int} {f1 : Int} {f2 : Int} {f3 : Int} (h : IsS151 w0 W g f0 f1 f2 f3) : IsS151 w0 W.drew g f0 f1 f2 f3 := h
theorem IsS151.at_ {w0 W : World} {g : Nat} {f0 : List Int} {f1 : Int} {f2 : Int} {f3 : Int} {w' : World} {m : Nat} (hq : W.drewN m = w') (h : IsS151 w0 W g f0 f1 f2 f3) : IsS151 w0 w' g f0 f1 f2 f3 := by subst hq; exact IsS151.drewN h m
theorem IsS151.apart {w0 W : World} {g : Nat} {f0 : List Int} {f1 : Int} {f2 : Int} {f3 : Int} {α : Type} {d : Kd α} {e : Nat} {base : Nat} {ok : Nat → Prop} {v : Value} {xs : List α} (h : IsS151 w0 W g f0 f1 f2 f3) (ho : d.R e W base ok v xs) (ht : ∀ q, q ∈ e :: d.E → q ≠ 151) : d.R e W base (fun k => ok k ∧ k ≠ g) v xs := by
 obtain ⟨A0, c0, hb, hg, hr0⟩ := h
 exact Kd.R_types ho hb ht
theorem IsS151.own_ne {w0 W : World} {g : Nat} {f0 : List Int} {f1 : Int} {f2 : Int} {f3 : Int} {α : Type} {d : Kd α} {e : Nat} {base : Nat} {ok : Nat → Prop} {v : Value} {xs : List α} (h : IsS151 w0 W g f0 f1 f2 f3) (ho : d.R e W base ok v xs) (ht : e ≠ 151) : some g ≠ v.ownBlock := by
 obtain ⟨A0, c0, hb, hg, hr0⟩ := h
 exact Kd.R_ne ho hb ht
theorem IsS151.apartQ {w0 W : World} {g : Nat} {f0 : List Int} {f1 : Int} {f2 : Int} {f3 : Int} {α : Type} {d : Kd α} {e : Nat} {base : Nat} {ok : Nat → Prop} {v : Value} {xs : List α} (h : IsS151 w0 W g f0 f1 f2 f3) (ho : d.Q e W base ok v xs) (ht : ∀ q, q ∈ e :: d.E → q ≠ 151) : d.Q e W base (fun k => ok k ∧ k ≠ g) v xs := by
 obtain ⟨A0, c0, hb, hg, hr0⟩ := h
 exact Kd.Q_types ho hb ht
theorem IsS151.own_neQ {w0 W : World} {g : Nat} {f0 : List Int} {f1 : Int} {f2 : Int} {f3 : Int} {α : Type} {d : Kd α} {e : Nat} {base : Nat} {ok : Nat → Prop} {v : Value} {xs : List α} (h : IsS151 w0 W g f0 f1 f2 f3) (ho : d.Q e W base ok v xs) (ht : e ≠ 151) : some g ≠ v.ownBlock := by
 obtain ⟨A0, c0, hb, hg, hr0⟩ := h
 exact Kd.Q_ne ho hb ht
theorem IsS151.apartS {w0 W : World} {g : Nat} {f0 : List Int} {f1 : Int} {f2 : Int} {f3 : Int} {α : Type} {d : Kd α} {e : Nat} {base : Nat} {ok : Nat → Prop} {v : Value} {xs : List α} (h : IsS151 w0 W g f0 f1 f2 f3) (ho : d.S e W base ok v xs) (ht : ∀ q, q ∈ e :: d.E → q ≠ 151) : d.S e W base (fun k => ok k ∧ k ≠ g) v xs := by
 obtain ⟨A0, c0, hb, hg, hr0⟩ := h
 exact Kd.S_types ho hb ht
theorem IsS151.own_neS {w0 W : World} {g : Nat} {f0 : List Int} {f1 : Int} {f2 : Int} {f3 : Int} {α : Type} {d : Kd α} {e : Nat} {base : Nat} {ok : Nat → Prop} {v : Value} {xs : List α} (h : IsS151 w0 W g f0 f1 f2 f3) (ho : d.S e W base ok v xs) (ht : e ≠ 151) : some g ≠ v.ownBlock := by
 obtain ⟨A0, c0, hb, hg, hr0⟩ := h
 exact Kd.S_ne ho hb ht
theorem IsS151.lt {w0 W : World} {g : Nat} {f0 : List Int} {f1 : Int} {f2 : Int} {f3 : Int} (h : IsS151 w0 W g f0 f1 f2 f3) : g < W.heap.size := by
 obtain ⟨A0, c0, hb, hg, hr0⟩ := h
 exact blk_lt hb
theorem IsS151.ge {w0 W : World} {g : Nat} {f0 : List Int} {f1 : Int} {f2 : Int} {f3 : Int} (h : IsS151 w0 W g f0 f1 f2 f3) : w0.heap.size ≤ g := by
 obtain ⟨A0, c0, hb, hg, hr0⟩ := h
 exact hg
theorem IsS151.ne_blk {w0 W : World} {g : Nat} {f0 : List Int} {f1 : Int} {f2 : Int} {f3 : Int} {a : Nat} {cs : Array Value} {t : TypeId} {fr : Nat × Nat} (h : IsS151 w0 W g f0 f1 f2 f3) (hb2 : W.heap[a]? = some (.cells cs t fr)) (ht : t ≠ 151) : g ≠ a := by
 obtain ⟨A0, c0, hb, hg, hr0⟩ := h
 rintro rfl
 rw [hb] at hb2
 injection hb2 with hb2
 injection hb2 with _ ht2
 exact ht ht2.symm
theorem IsS151.far {w0 W : World} {g : Nat} {f0 : List Int} {f1 : Int} {f2 : Int} {f3 : Int} {p : Addr} (h : IsS151 w0 W g f0 f1 f2 f3) (hne : g ≠ p.block) (u : Value) : IsS151 w0 (W.setCell p u) g f0 f1 f2 f3 := by
 obtain ⟨A0, c0, hb, hg, hr0⟩ := h
 exact ⟨A0, c0, blk_far hb hne u, hg, hr0⟩
theorem cellS151_0 {W : World} {g : Nat} {A0 : Option Addr} {c0 : Nat} {f0 : List Int} {f1 : Int} {f2 : Int} {f3 : Int} (h : W.heap[g]? = some (.cells #[.slice A0 f0.length c0, .int .i64 f1, .int .u64 f2, .int .i64 f3] 151 (0, 0))) : W.cell? ⟨g, 0, none⟩ = some (.slice A0 f0.length c0) := (blk_cell h 0).trans rfl
theorem cellS151_1 {W : World} {g : Nat} {A0 : Option Addr} {c0 : Nat} {f0 : List Int} {f1 : Int} {f2 : Int} {f3 : Int} (h : W.heap[g]? = some (.cells #[.slice A0 f0.length c0, .int .i64 f1, .int .u64 f2, .int .i64 f3] 151 (0, 0))) : W.cell? ⟨g, 1, none⟩ = some (.int .i64 f1) := (blk_cell h 1).trans rfl
theorem IsS151.set_1 {w0 W : World} {g : Nat} {f0 : List Int} {f1 : Int} {f2 : Int} {f3 : Int} (h : IsS151 w0 W g f0 f1 f2 f3) (x : Int) : IsS151 w0 (W.setCell ⟨g, 1, none⟩ (.int .i64 x)) g f0 x f2 f3 := by
 obtain ⟨A0, c0, hb, hg, hr0⟩ := h
 exact ⟨A0, c0, by simpa using blk_set hb 1 (.int .i64 x), hg, hr0⟩
theorem cellS151_2 {W : World} {g : Nat} {A0 : Option Addr} {c0 : Nat} {f0 : List Int} {f1 : Int} {f2 : Int} {f3 : Int} (h : W.heap[g]? = some (.cells #[.slice A0 f0.length c0, .int .i64 f1, .int .u64 f2, .int .i64 f3] 151 (0, 0))) : W.cell? ⟨g, 2, none⟩ = some (.int .u64 f2) := (blk_cell h 2).trans rfl
theorem IsS151.set_2 {w0 W : World} {g : Nat} {f0 : List Int} {f1 : Int} {f2 : Int} {f3 : Int} (h : IsS151 w0 W g f0 f1 f2 f3) (x : Int) : IsS151 w0 (W.setCell ⟨g, 2, none⟩ (.int .u64 x)) g f0 f1 x f3 := by
 obtain ⟨A0, c0, hb, hg, hr0⟩ := h
 exact ⟨A0, c0, by simpa using blk_set hb 2 (.int .u64 x), hg, hr0⟩
theorem cellS151_3 {W : World} {g : Nat} {A0 : Option Addr} {c0 : Nat} {f0 : List Int} {f1 : Int} {f2 : Int} {f3 : Int} (h : W.heap[g]? = some (.cells #[.slice A0 f0.length c0, .int .i64 f1, .int .u64 f2, .int .i64 f3] 151 (0, 0))) : W.cell? ⟨g, 3, none⟩ = some (.int .i64 f3) := (blk_cell h 3).trans rfl
theorem IsS151.set_3 {w0 W : World} {g : Nat} {f0 : List Int} {f1 : Int} {f2 : Int} {f3 : Int} (h : IsS151 w0 W g f0 f1 f2 f3) (x : Int) : IsS151 w0 (W.setCell ⟨g, 3, none⟩ (.int .i64 x)) g f0 f1 f2 x := by
 obtain ⟨A0, c0, hb, hg, hr0⟩ := h
 exact ⟨A0, c0, by simpa using blk_set hb 3 (.int .i64 x), hg, hr0⟩
theorem IsS151.new (w0 W : World) (A0 : Option Addr) (c0 : Nat) (f0 : List Int) (f1 : Int) (f2 : Int) (f3 : Int) (hB : Below w0.heap.size w0 W) (hr0 : Kd.C (Kd.int .u8) w0 A0 f0.length f0) : IsS151 w0 (W.alloc (.cells #[.slice A0 f0.length c0, .int .i64 f1, .int .u64 f2, .int .i64 f3] 151)) W.heap.size f0 f1 f2 f3 := ⟨A0, c0, by simpa using heap_alloc_new W _, hB.size, hr0⟩

/-! ### slices_Clone_string_string: function 131 -/
def slices_Clone_string_string.f (l0 : List ByteArray) : Option (List ByteArray) := if l0.length * 16 ≤ 140737488355328 then some l0 else none
set_option maxHeartbeats 8000000 in
set_option maxRecDepth 100000 in
theorem slices_Clone_string_string.some_ (ad : Addr) (c0 : Nat) (l0 : List ByteArray) (w : World) (hr0 : Kd.C Kd.string w (some ad) l0.length l0) (hc0 : l0.length ≤ c0) (hb : l0.length * 16 ≤ 140737488355328) :
  Calls Try.prog 131 #[.slice (some ad) l0.length c0] w fun e w' => ∃ v0_ : Value, e = .returned (v0_) ∧ Kd.R Kd.string 9 w' w.heap.size (fun _ => True) v0_ l0 ∧ Below w.heap.size w w' := by
 have HR0 := zA_ hr0
 have HC0 := zA_ hc0
 have HL := zA_ hb
 clear hr0 hc0 hb
 have HB := zA_ (Below.refl w.heap.size w)
 obtain ⟨y1, hy1⟩ : ∃ y_ : List ByteArray, y_ = ([] : List ByteArray) := ⟨_, rfl⟩
 have Ny1 := zA_ hy1
 clear hy1
 have hq : ∀ W : World, (binOp .eql 22 (.slice (some ad) l0.length c0) (.slice none 0 0)).run Try.prog W = .ok (.bool false) W := fun W => Lib.run_eql_slice_nil W _ _ (some ad) _ _ _ _ Try.underlying22
 go_enter Try.func131, Try.ntmps131
 go_wp2_with (first | ((with_reducible refine gate_dst (N := 5) rfl ?_); refine Kd.R_lit Kd.string _ 9 ?hg (N := 5) ?hd (xs := ([] : List ByteArray)) (inner := []) (ok := fun _ => True) (okp := fun _ => True) ?hr ?hp (fun _ hk => hk) trivial (Below.refl _ _) (Nat.le_refl _) (by simp) ?_; (case hd => rfl); (case hg => rfl); (case hr => first | (go_simp; done) | (go_simp; rfl)); (case hp => exact (Reps.none _ _)); intro v2 w2 ho3 hb hg_ hnew_; clear hg_ hnew_; (first | rw [← Ny1.out] at ho3 | (simp only [Int.reduceToNat] at ho3; rw [← Ny1.out] at ho3)); have n0_ := zA_ (Kd.R_lower ho3 (below_size (zh_ HB.out))); have n1_ := zA_ (below_step (zh_ HB.out) hb); clear HB; have HO3 := n0_; have HB := n1_; clear n0_ n1_; clear hb ho3) | ((with_reducible refine gate_builtin (b := .append) (xs := #[.tmp 5, .tmp 6]) rfl ?_); at_builtin; refine Kd.R_append_rows Kd.string (w0 := w) w.heap.size rfl (.tmp 5) (.tmp 6) 22 9 (.string ⟨#[]⟩) 16 rfl Try.underlying22 info9 rfl (by decide) (by omega) v2 y1 l0 _ _ _ (fun _ => True) (fun _ => False) rfl rfl ?aO ?aR (fun _ _ h => h) (fun _ h => h.elim) ?aF ?aB ?aS ?aL ?_; (case aR => repeat (first | exact (Kd.C_below HR0.out HB.out) | (with_reducible refine Kd.C_alloc ?_ _) | (with_reducible refine Kd.C_drewN ?_ _) | (with_reducible refine Kd.C_drew ?_))); (case aB => exact (zh_ HB.out)); (case aF => exact (fun _ _ => trivial)); (case aO => exact (zr_ HO3.out)); (case aS => exact (below_size (zh_ HB.out))); (case aL => have h1 := HL.out; have h2 := Ny1.out; subst h2; simpa using h1); intro v4 w4 ho hb hg hat; have n0_ := zA_ (hb); have n1_ := zA_ (ho); clear HB HO3; have HB := n0_; have HO4 := n1_; clear n0_ n1_; clear ho hb hg hat))
 go_ret
 have e1 : y1 ++ l0 = l0 := by rw [Ny1.out, List.nil_append]
 rw [e1] at HO4
 exact ⟨_, rfl, HO4.out, HB.out⟩
set_option maxHeartbeats 8000000 in
set_option maxRecDepth 100000 in
theorem slices_Clone_string_string.calls (A0 : Option Addr) (c0 : Nat) (l0 : List ByteArray) (r : List ByteArray) (w : World) (hr0 : Kd.C Kd.string w A0 l0.length l0) (hc0 : l0.length ≤ c0) (h : slices_Clone_string_string.f l0 = some r) :
  Calls Try.prog 131 #[.slice A0 l0.length c0] w fun e w' => ∃ v0_ : Value, e = .returned (v0_) ∧ Kd.R Kd.string 9 w' w.heap.size (fun _ => True) v0_ r ∧ Below w.heap.size w w' := by
 unfold slices_Clone_string_string.f at h
 by_cases hb : l0.length * 16 ≤ 140737488355328
 ·
  rw [if_pos hb] at h
  obtain rfl := Option.some.inj h
  cases A0 with
  | some ad => exact slices_Clone_string_string.some_ ad c0 l0 w hr0 hc0 hb
  | none =>
   have hl : l0.length = 0 := by
    rcases Nat.eq_zero_or_pos l0.length with h0 | h0
    ·
     exact h0
    ·
     obtain ⟨ad, _, e, _⟩ := Kd.C_get hr0 ByteArray.empty 0 (by omega) (by omega)
     cases e
   obtain rfl : l0 = [] := List.eq_nil_of_length_eq_zero hl
   clear hr0 h hb hl
   have hq : ∀ W : World, (binOp .eql 22 (.slice none 0 c0) (.slice none 0 0)).run Try.prog W = .ok (.bool true) W := fun W => Lib.run_eql_slice_nil W _ _ none _ _ _ _ Try.underlying22
   go_enter Try.func131, Try.ntmps131

   go_wp2
   all_goals (try go_ret)
   all_goals exact ⟨_, rfl, Kd.R_nil _ _ _ _ _, by repeat (first | exact Below.refl _ _ | apply below_alloc | apply pw_below_drewN | apply below_drew1)⟩
 ·
  rw [if_neg hb] at h; cases h


/-! ### impl_Dirty_132: function 132 -/
def slices_Clone_S92.f (l0 : List S92) : Option (List S92) := if l0.length * 24 ≤ 140737488355328 then some l0 else none
set_option maxHeartbeats 8000000 in
set_option maxRecDepth 100000 in
theorem slices_Clone_S92.some_ (ad : Addr) (c0 : Nat) (l0 : List S92) (w : World) (hr0 : Kd.C k92 w (some ad) l0.length l0) (hc0 : l0.length ≤ c0) (hb : l0.length * 24 ≤ 140737488355328) :
  Calls Try.prog 132 #[.slice (some ad) l0.length c0] w fun e w' => ∃ v0_ : Value, e = .returned (v0_) ∧ Kd.R k92 92 w' w.heap.size (fun _ => True) v0_ l0 ∧ Below w.heap.size w w' := by
 have HR0 := zA_ hr0
 have HC0 := zA_ hc0
 have HL := zA_ hb
 clear hr0 hc0 hb
 have HB := zA_ (Below.refl w.heap.size w)
 obtain ⟨y1, hy1⟩ : ∃ y_ : List S92, y_ = ([] : List S92) := ⟨_, rfl⟩
 have Ny1 := zA_ hy1
 clear hy1
 have hq : ∀ W : World, (binOp .eql 28 (.slice (some ad) l0.length c0) (.slice none 0 0)).run Try.prog W = .ok (.bool false) W := fun W => Lib.run_eql_slice_nil W _ _ (some ad) _ _ _ _ Try.underlying28
 go_enter Try.func132, Try.ntmps132
 go_wp2_with (first | ((with_reducible refine gate_dst (N := 5) rfl ?_); refine Kd.R_lit k92 _ 92 ?hg (N := 5) ?hd (xs := ([] : List S92)) (inner := []) (ok := fun _ => True) (okp := fun _ => True) ?hr ?hp (fun _ hk => hk) trivial (Below.refl _ _) (Nat.le_refl _) (by simp) ?_; (case hd => rfl); (case hg => rfl); (case hr => first | (go_simp; done) | (go_simp; rfl)); (case hp => exact (Reps.none _ _)); intro v2 w2 ho3 hb hg_ hnew_; clear hg_ hnew_; (first | rw [← Ny1.out] at ho3 | (simp only [Int.reduceToNat] at ho3; rw [← Ny1.out] at ho3)); have n0_ := zA_ (Kd.R_lower ho3 (below_size (zh_ HB.out))); have n1_ := zA_ (below_step (zh_ HB.out) hb); clear HB; have HO3 := n0_; have HB := n1_; clear n0_ n1_; clear hb ho3) | ((with_reducible refine gate_builtin (b := .append) (xs := #[.tmp 5, .tmp 6]) rfl ?_); at_builtin; refine Kd.R_append_rows k92 (w0 := w) w.heap.size rfl (.tmp 5) (.tmp 6) 28 92 (.agg #[(.int .i64 0), (.string ⟨#[]⟩)]) 24 rfl Try.underlying28 info92 rfl (by decide) (by omega) v2 y1 l0 _ _ _ (fun _ => True) (fun _ => False) rfl rfl ?aO ?aR (fun _ _ h => h) (fun _ h => h.elim) ?aF ?aB ?aS ?aL ?_; (case aR => repeat (first | exact (Kd.C_below HR0.out HB.out) | (with_reducible refine Kd.C_alloc ?_ _) | (with_reducible refine Kd.C_drewN ?_ _) | (with_reducible refine Kd.C_drew ?_))); (case aB => exact (zh_ HB.out)); (case aF => exact (fun _ _ => trivial)); (case aO => exact (zr_ HO3.out)); (case aS => exact (below_size (zh_ HB.out))); (case aL => have h1 := HL.out; have h2 := Ny1.out; subst h2; simpa using h1); intro v4 w4 ho hb hg hat; have n0_ := zA_ (hb); have n1_ := zA_ (ho); clear HB HO3; have HB := n0_; have HO4 := n1_; clear n0_ n1_; clear ho hb hg hat))
 go_ret
 have e1 : y1 ++ l0 = l0 := by rw [Ny1.out, List.nil_append]
 rw [e1] at HO4
 exact ⟨_, rfl, HO4.out, HB.out⟩
set_option maxHeartbeats 8000000 in
set_option maxRecDepth 100000 in
theorem slices_Clone_S92.calls (A0 : Option Addr) (c0 : Nat) (l0 : List S92) (r : List S92) (w : World) (hr0 : Kd.C k92 w A0 l0.length l0) (hc0 : l0.length ≤ c0) (h : slices_Clone_S92.f l0 = some r) :
  Calls Try.prog 132 #[.slice A0 l0.length c0] w fun e w' => ∃ v0_ : Value, e = .returned (v0_) ∧ Kd.R k92 92 w' w.heap.size (fun _ => True) v0_ r ∧ Below w.heap.size w w' := by
 unfold slices_Clone_S92.f at h
 by_cases hb : l0.length * 24 ≤ 140737488355328
 ·
  rw [if_pos hb] at h
  obtain rfl := Option.some.inj h
  cases A0 with
  | some ad => exact slices_Clone_S92.some_ ad c0 l0 w hr0 hc0 hb
  | none =>
   have hl : l0.length = 0 := by
    rcases Nat.eq_zero_or_pos l0.length with h0 | h0
    ·
     exact h0
    ·
     obtain ⟨ad, _, e, _⟩ := Kd.C_get hr0 z92 0 (by omega) (by omega)
     cases e
   obtain rfl : l0 = [] := List.eq_nil_of_length_eq_zero hl
   clear hr0 h hb hl
   have hq : ∀ W : World, (binOp .eql 28 (.slice none 0 c0) (.slice none 0 0)).run Try.prog W = .ok (.bool true) W := fun W => Lib.run_eql_slice_nil W _ _ none _ _ _ _ Try.underlying28
   go_enter Try.func132, Try.ntmps132

   go_wp2
   all_goals (try go_ret)
   all_goals exact ⟨_, rfl, Kd.R_nil _ _ _ _ _, by repeat (first | exact Below.refl _ _ | apply below_alloc | apply pw_below_drewN | apply below_drew1)⟩
 ·
  rw [if_neg hb] at h; cases h


/-! ### impl_cloneFlash: function 79 -/
def impl_cloneFlash.f (l0_0 : List ByteArray) (l0_1 : List (S92)) : Option (List ByteArray × (List (S92))) := (slices_Clone_string_string.f l0_0).bind fun t211 => ((slices_Clone_S92.f l0_1).bind fun t214 => (some (t211, t214)))
def impl_cloneFlash.T1 : Bool × List (List Nat × List Nat) := (true, [([], []), ([0], [0]), ([1], [1]), ([], []), ([3], [3]), ([4, 2], [4]), ([2, 5], [2, 5]), ([6, 5, 0, 1, 2, 3, 4, 5, 6], [6])])
def impl_cloneFlash.B1 : List Nat := [0, 1, 3, 0, 8, 31, 63, 127]
theorem impl_cloneFlash.tab1 : rtab .any (opsOf Try.f79 1) = impl_cloneFlash.T1 := by kernel_rfl
theorem impl_cloneFlash.bits1 : waitsOk impl_cloneFlash.T1.2 impl_cloneFlash.B1 = true := by kernel_rfl
set_option maxHeartbeats 8000000 in
set_option maxRecDepth 100000 in
theorem impl_cloneFlash.calls (A0_0 : Option Addr) (c0_0 : Nat) (l0_0 : List ByteArray) (A0_1 : Option Addr) (c0_1 : Nat) (l0_1 : List (S92)) (r1 : List ByteArray) (r2 : List (S92)) (w : World) (hr0_0 : Kd.C Kd.string w A0_0 l0_0.length l0_0) (hc0_0 : l0_0.length ≤ c0_0) (hr0_1 : Kd.C k92 w A0_1 l0_1.length l0_1) (hc0_1 : l0_1.length ≤ c0_1) (h : impl_cloneFlash.f l0_0 l0_1 = some (r1, r2)) :
  Calls Try.prog 79 #[.agg #[.slice A0_0 l0_0.length c0_0, .slice A0_1 l0_1.length c0_1]] w fun e w' => ∃ v0_ v1_ : Value, e = .returned (.agg #[v0_, v1_]) ∧ Kd.R Kd.string 9 w' w.heap.size (fun _ => True) v0_ r1 ∧ Kd.R k92 92 w' w.heap.size (fun _ => True) v1_ r2 ∧ Below w.heap.size w w' := by
 have hu30 := Try.underlying30
 have HR0_0 := zA_ hr0_0
 have HC0_0 := zA_ hc0_0
 clear hr0_0 hc0_0
 have HR0_1 := zA_ hr0_1
 have HC0_1 := zA_ hc0_1
 clear hr0_1 hc0_1
 have HB := zA_ (Below.refl w.heap.size w)
 have H : ((slices_Clone_string_string.f l0_0).bind fun t211 => ((slices_Clone_S92.f l0_1).bind fun t214 => (some (t211, t214)))) = some (r1, r2) := h
 clear h
 replace H := Option.bind_eq_some_iff.mp H
 obtain ⟨t211, A20, H⟩ := H
 replace H : ((slices_Clone_S92.f l0_1).bind fun t214 => (some (t211, t214))) = some (r1, r2) := H
 have A2 := zA_ A20
 clear A20
 replace H := Option.bind_eq_some_iff.mp H
 obtain ⟨t214, A30, H⟩ := H
 replace H : (some (t211, t214)) = some (r1, r2) := H
 have A3 := zA_ A30
 clear A30
 simp only [Option.some.injEq, Prod.mk.injEq] at H
 obtain ⟨rfl, rfl⟩ := H
 go_enter Try.func79, Try.ntmps79
 try go_wp2_with (first | ((with_reducible refine gate_dst (N := 1) rfl ?_); refine box_event ?hg (N := 1) ?hd (cs := #[.slice A0_0 l0_0.length c0_0, .slice A0_1 l0_1.length c0_1]) (t := 30) ?hr ?_; (case hd => rfl); (case hg => rfl); (case hr => first | (go_simp; done) | (go_simp; rfl)); intro gb209 hg w4 hbox hb; have n0_ := zA_ (below_step (zh_ HB.out) hb); have n1_ := zA_ (hbox); have n2_ := zA_ ((by rw [hg]; exact (below_size (zh_ HB.out)) : w.heap.size ≤ gb209)); have n3_ := zA_ ((by rw [hg]; exact (below_size (zh_ HB.out)) : w.heap.size ≤ gb209)); clear HB; have HB := n0_; have BK209 := n1_; have GW209 := n2_; have GE209 := n3_; clear n0_ n1_ n2_ n3_; clear hb hbox hg) | ((with_reducible refine gate_dst (N := 2) rfl ?_); refine box_event ?hg (N := 2) ?hd (cs := #[.slice none 0 0, .slice none 0 0]) (t := 30) ?hr ?_; (case hd => rfl); (case hg => rfl); (case hr => first | (go_simp; done) | (go_simp; rfl)); intro gb210 hg w5 hbox hb; have n0_ := zA_ (blk_below (g := gb209) (o := .cells #[.slice A0_0 l0_0.length c0_0, .slice A0_1 l0_1.length c0_1] 30 (0, 0)) (zb_ BK209.out) hb); have n1_ := zA_ (below_step (zg1_ HB.out GE209.out) hb); have n2_ := zA_ (hbox); have n3_ := zA_ ((by rw [hg]; exact (below_size (zg1_ HB.out GE209.out)) : w.heap.size ≤ gb210)); have n4_ := zA_ ((by rw [hg]; exact (below_size (zg1_ HB.out GE209.out)) : w.heap.size ≤ gb210)); have n5_ := zA_ ((by rw [hg]; exact Nat.ne_of_lt (blk_lt (g := gb209) (o := .cells #[.slice A0_0 l0_0.length c0_0, .slice A0_1 l0_1.length c0_1] 30 (0, 0)) (zb_ BK209.out)) : gb209 ≠ gb210)); have n6_ := zA_ ((by rw [hg]; exact Nat.ne_of_gt (blk_lt (g := gb209) (o := .cells #[.slice A0_0 l0_0.length c0_0, .slice A0_1 l0_1.length c0_1] 30 (0, 0)) (zb_ BK209.out)) : gb210 ≠ gb209)); clear BK209 HB; have BK209 := n0_; have HB := n1_; have BK210 := n2_; have GW210 := n3_; have GE210 := n4_; have NB209_210 := n5_; have NB210_209 := n6_; clear n0_ n1_ n2_ n3_ n4_ n5_ n6_; clear hb hbox hg))
 have n0_ := zA_ (blk_drew BK209.out)
 have n1_ := zA_ (blk_drew BK210.out)
 have n2_ := zA_ (below_drew1 HB.out)
 clear BK209 BK210 HB
 have BK209 := n0_
 have BK210 := n1_
 have HB := n2_
 clear n0_ n1_ n2_
 refine start_ (n := 8) (S := fun w' => w'.cell? ⟨gb209, 0, none⟩ = some (.slice A0_0 l0_0.length c0_0) ∧ w'.cell? ⟨gb209, 1, none⟩ = some (.slice A0_1 l0_1.length c0_1)) (ds := []) #[false, false, false, false, false, false, false, false] (by kernel_rfl) rfl rfl ⟨(blk_cell BK209.out 0).trans rfl, (blk_cell BK209.out 1).trans rfl⟩ (fun hHeld => ?_); refine with_tabW impl_cloneFlash.tab1 impl_cloneFlash.bits1 (fun HT_ HW_ => ?_)
 generalize w5.drew = w6 at BK209 BK210 HB hHeld ⊢
 refine pure_ (i := 0) (N := some 3) (v := ?_) (a' := ?_) #[true, false, false, false, false, false, false, false] rfl rfl (any_of HT_.out (by kernel_rfl)) (fun _ _ _ h => h) (Or.inl ⟨by rfl, ?_⟩) ?_ ?_
 rotate_left
 ·
  intro w'
  go_simp
  with_reducible rfl
 rotate_left
 ·
  simp only [Act.put, List.setIfInBounds_toArray, List.set_cons_zero, List.set_cons_succ, i64_w, i32_w]
  rfl
 refine pure_ (i := 3) (N := some 6) (v := ?_) (a' := ?_) #[true, false, false, true, false, false, false, false] rfl rfl (any_of HT_.out (by kernel_rfl)) (fun _ _ _ h => h) (Or.inl ⟨by rfl, ?_⟩) ?_ ?_
 rotate_left
 ·
  intro w'
  go_simp
  with_reducible rfl
 rotate_left
 ·
  simp only [Act.put, List.setIfInBounds_toArray, List.set_cons_zero, List.set_cons_succ, i64_w, i32_w]
  rfl
 refine take_ (i := 1) (N := some 4) (v := ?_) (a' := ?_) #[true, true, false, true, false, false, false, false] rfl rfl (take_ofW HT_.out HW_.out (by kernel_rfl)) (fun _ _ _ h => h) (Or.inl ⟨by rfl, ?_⟩) hHeld ?_ ?_
 rotate_left
 ·
  rintro w' ⟨s0, s1⟩
  go_simp
  with_reducible rfl
 rotate_left
 ·
  simp only [Act.put, List.setIfInBounds_toArray, List.set_cons_zero, List.set_cons_succ, i64_w, i32_w]
  rfl
 refine take_ (i := 4) (N := some 7) (v := ?_) (a' := ?_) #[true, true, false, true, true, false, false, false] rfl rfl (take_ofW HT_.out HW_.out (by kernel_rfl)) (fun _ _ _ h => h) (Or.inl ⟨by rfl, ?_⟩) hHeld ?_ ?_
 rotate_left
 ·
  rintro w' ⟨s0, s1⟩
  go_simp
  with_reducible rfl
 rotate_left
 ·
  simp only [Act.put, List.setIfInBounds_toArray, List.set_cons_zero, List.set_cons_succ, i64_w, i32_w]
  rfl
 refine one_ (i := 2) (N := some 5) #[true, true, true, true, true, false, false, false] rfl rfl (one_of HT_.out (by kernel_rfl)) (by decide) (fun K hK => ?_)
 refine goes_ Try.func131 (by kernel_rfl) rfl #[.slice A0_0 l0_0.length c0_0] (by rfl) rfl rfl zs_ ?_
 with_reducible refine (slices_Clone_string_string.calls _ _ l0_0 t211 _ ?side1 ?side2 A2.out).mono ?_
 (case side1 => exact zc_ (Kd.C_below HR0_0.out HB.out))
 (case side2 => exact HC0_0.out)
 rintro e w7 ⟨v212, rfl, ho0, hb⟩
 refine ⟨_, rfl, ?_⟩
 have n0_ := zA_ (Kd.R_lower ho0 (below_size (zg2_ HB.out GE209.out GE210.out)))
 have n1_ := zA_ (blk_below (g := gb209) (o := .cells #[.slice A0_0 l0_0.length c0_0, .slice A0_1 l0_1.length c0_1] 30 (0, 0)) (zb_ BK209.out) hb)
 have n2_ := zA_ (blk_below (g := gb210) (o := .cells #[.slice none 0 0, .slice none 0 0] 30 (0, 0)) (zb_ BK210.out) hb)
 have n3_ := zA_ (below_step (zg2_ HB.out GE209.out GE210.out) hb)
 clear BK209 BK210 HB
 have HO213 := n0_
 have BK209 := n1_
 have BK210 := n2_
 have HB := n3_
 clear n0_ n1_ n2_ n3_
 (try clear hb)
 (try clear hb2)
 (try clear hk)
 (try clear hi)
 (try clear ho0)
 refine hK.out _ _ ⟨(blk_cell BK209.out 0).trans rfl, (blk_cell BK209.out 1).trans rfl⟩ (fun hHeld => ?_)
 clear hK K
 refine norm_ (a' := ?_) ?_ ?_
 rotate_left
 ·
  show Act.put _ (some 5) _ = _
  simp only [Act.put, List.setIfInBounds_toArray, List.set_cons_zero, List.set_cons_succ, i64_w, i32_w]
  rfl
 refine one_ (i := 5) (N := some 8) #[true, true, true, true, true, true, false, false] rfl rfl (one_of HT_.out (by kernel_rfl)) (by decide) (fun K hK => ?_)
 refine goes_ Try.func132 (by kernel_rfl) rfl #[.slice A0_1 l0_1.length c0_1] (by rfl) rfl rfl zs_ ?_
 with_reducible refine (slices_Clone_S92.calls _ _ l0_1 t214 _ ?side1 ?side2 A3.out).mono ?_
 (case side1 => exact zc_ (Kd.C_below HR0_1.out HB.out))
 (case side2 => exact HC0_1.out)
 rintro e w8 ⟨v215, rfl, ho0, hb⟩
 refine ⟨_, rfl, ?_⟩
 have n0_ := zA_ (Kd.R_below (zr_ HO213.out) hb)
 have n1_ := zA_ (Kd.R_lower ho0 (below_size (zg2_ HB.out GE209.out GE210.out)))
 have n2_ := zA_ (blk_below (g := gb209) (o := .cells #[.slice A0_0 l0_0.length c0_0, .slice A0_1 l0_1.length c0_1] 30 (0, 0)) (zb_ BK209.out) hb)
 have n3_ := zA_ (blk_below (g := gb210) (o := .cells #[.slice none 0 0, .slice none 0 0] 30 (0, 0)) (zb_ BK210.out) hb)
 have n4_ := zA_ (below_step (zg2_ HB.out GE209.out GE210.out) hb)
 clear HO213 BK209 BK210 HB
 have HO213 := n0_
 have HO216 := n1_
 have BK209 := n2_
 have BK210 := n3_
 have HB := n4_
 clear n0_ n1_ n2_ n3_ n4_
 (try clear hb)
 (try clear hb2)
 (try clear hk)
 (try clear hi)
 (try clear ho0)
 obtain ⟨Ao9, co9, eo9⟩ := Kd.R_slice HO216.out
 (first | subst eo9 | (injection eo9 with f1_ f2_ f3_; have f4_ := f1_.symm; have f5_ := f3_.symm; clear f1_ f2_ f3_; subst f4_; subst f5_))
 obtain ⟨Ao10, co10, eo10⟩ := Kd.R_slice HO213.out
 (first | subst eo10 | (injection eo10 with f1_ f2_ f3_; have f4_ := f1_.symm; have f5_ := f3_.symm; clear f1_ f2_ f3_; subst f4_; subst f5_))
 refine hK.out _ _ ⟨(blk_cell BK209.out 0).trans rfl, (blk_cell BK209.out 1).trans rfl⟩ (fun hHeld => ?_)
 clear hK K
 refine norm_ (a' := ?_) ?_ ?_
 rotate_left
 ·
  show Act.put _ (some 8) _ = _
  simp only [Act.put, List.setIfInBounds_toArray, List.set_cons_zero, List.set_cons_succ, i64_w, i32_w]
  rfl
 refine pure_ (i := 6) (N := some 9) (v := ?_) (a' := ?_) #[true, true, true, true, true, true, true, false] rfl rfl (any_of HT_.out (by kernel_rfl)) (fun _ _ _ h => h) (Or.inl ⟨by rfl, ?_⟩) ?_ ?_
 rotate_left
 ·
  intro w'
  go_simp
  with_reducible rfl
 rotate_left
 ·
  simp only [Act.put, List.setIfInBounds_toArray, List.set_cons_zero, List.set_cons_succ, i64_w, i32_w]
  rfl
 refine one_ (i := 7) (N := none) #[true, true, true, true, true, true, true, true] rfl rfl (one_of HT_.out (by kernel_rfl)) (by decide) (fun K hK => ?_)
 have hs11 : w8.cell? ⟨gb210, 0, none⟩ = some (.slice none 0 0) := (blk_cell BK210.out 0).trans rfl
 have hfs11 := blk_frozen BK210.out 0
 have hns11_0 := NB209_210.out
 have hms11_0 := NB210_209.out
 have hs12 : w8.cell? ⟨gb210, 1, none⟩ = some (.slice none 0 0) := (blk_cell BK210.out 1).trans rfl
 have hfs12 := blk_frozen BK210.out 1
 have hns12_0 := NB209_210.out
 have hms12_0 := NB210_209.out
 refine skip_ (w1 := ?_) (by rfl) rfl ?_ ?_
 rotate_left
 ·
  go_simp
  rfl
 refine hK.out _ _ ⟨((cell_far (p := ⟨gb210, _, none⟩) NB209_210.out _).trans (((cell_far (p := ⟨gb210, _, none⟩) NB209_210.out _).trans (hHeld.1)))), ((cell_far (p := ⟨gb210, _, none⟩) NB209_210.out _).trans (((cell_far (p := ⟨gb210, _, none⟩) NB209_210.out _).trans (hHeld.2))))⟩ (fun hHeld => ?_)
 clear hK K
 refine done_ (done_of HT_.out (by kernel_rfl)) ?_
 try go_wp2
 refine bodyPost_ret (results_cell_row rfl _ _ gb210 30 #[.slice Ao10 t211.length co10, .slice Ao9 t214.length co9] (0, 0) _ rfl (by (with_reducible repeat (first | refine blk_drewN ?_ _ | refine blk_drew ?_ | refine blk_alloc ?_ _)); refine blk_put (cs := #[.slice Ao10 t211.length co10, .slice none 0 0]) ?_ 1 _ rfl; (with_reducible repeat (first | refine blk_drewN ?_ _ | refine blk_drew ?_ | refine blk_alloc ?_ _)); refine blk_put (cs := #[.slice none 0 0, .slice none 0 0]) ?_ 0 _ rfl; (with_reducible repeat (first | refine blk_drewN ?_ _ | refine blk_drew ?_ | refine blk_alloc ?_ _)); exact BK210.out) Try.underlying30 rfl (by kernel_rfl)) rfl ?_
 exact ⟨_, _, by first | rfl | (simp [errW_none, errW_some] <;> rfl) | (simp [*, errW_none, errW_some] <;> rfl), by (with_reducible repeat (first | apply Kd.R_alloc | apply Kd.R_drewN | apply Kd.R_drew)); exact Kd.R_mono (Kd.R_far (p := ⟨gb210, 1, none⟩) (Kd.R_far (p := ⟨gb210, 0, none⟩) (Kd.R_types HO213.out BK210.out (by decide)) (fun _ hk => hk.2) (.slice Ao10 t211.length co10)) (fun _ hk => hk.2) (.slice Ao9 t214.length co9)) (fun _ hk => trivial), by (with_reducible repeat (first | apply Kd.R_alloc | apply Kd.R_drewN | apply Kd.R_drew)); exact Kd.R_mono (Kd.R_far (p := ⟨gb210, 1, none⟩) (Kd.R_far (p := ⟨gb210, 0, none⟩) (Kd.R_types HO216.out BK210.out (by decide)) (fun _ hk => hk.2) (.slice Ao10 t211.length co10)) (fun _ hk => hk.2) (.slice Ao9 t214.length co9)) (fun _ hk => trivial), by repeat (first | (with_reducible first | exact HB.out | apply below_alloc | apply pw_below_drewN | apply below_drew1 | refine below_set ?_ GE209.out | refine below_set ?_ GE210.out) | exact HB.out)⟩

-- NOT PRINTED: function 80 (impl_Flash_sync)

end Go.Proofs.Ytibnmnkembbgeaa.Q
