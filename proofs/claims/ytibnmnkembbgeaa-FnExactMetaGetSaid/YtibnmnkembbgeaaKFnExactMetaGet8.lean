/- For each Go function that the laws of this text reach: a Lean function, and the proof that the Go function returns what the Lean function tells, wherever it tells some value. Written by a program of this session. -/
import Derived.Test.YtibnmnkembbgeaaKFnExactMetaGet0
import Derived.Test.YtibnmnkembbgeaaKFnExactMetaGet1
import Derived.Test.YtibnmnkembbgeaaKFnExactMetaGet4
import Derived.Test.YtibnmnkembbgeaaKFnExactMetaGet5
import Derived.Test.YtibnmnkembbgeaaKFnExactMetaGet7
namespace Go.Proofs.Ytibnmnkembbgeaa.Q
open Go.RowKit Go.Proofs.YtibnmnkembbgeaaW.PrintWords Go.Proofs.YtibnmnkembbgeaaW.PrintLast Go.Proofs.YtibnmnkembbgeaaW.PrintMore
attribute [local go_sem] max2_int min2_int max_two min_two max_three min_three max_four min_four Instr.field asAgg   -- for this text's walks alone
set_option linter.unusedVariables false
set_option linter.unusedSimpArgs false
/-! ### laws_FnExactMetaGet: function 10 -/
def laws_FnExactMetaGet.f (k : Nat) (l0_0 : List ByteArray) (l0_1 : List (S132)) : Option (Bool) := (laws_szFlash.f k l0_0 l0_1 1048576).bind fun t972 => (if t972 < 0 then (some true) else ((laws_toFlash.f k l0_0 l0_1).bind fun bt973 => ((spec_MetaGet.f k bt973.1 bt973.2).bind fun bt979 => ((laws_toFlash.f k l0_0 l0_1).bind fun bt983 => ((impl_MetaGet.f k bt983.1 bt983.2).bind fun bt990 => ((laws_eqMetaOut.f bt990.1 bt990.2.1 bt990.2.2 bt979.1 bt979.2.1 bt979.2.2).bind fun t994 => (if t994 = true then ((laws_toFlash.f k l0_0 l0_1).bind fun bt995 => ((laws_eqFlash.f k bt983.1 bt983.2 bt995.1 bt995.2).bind fun t1001 => (if t1001 = true then (some true) else (none)))) else (none))))))))
theorem laws_FnExactMetaGet.mono : ∀ a0 a1 k, LeO (laws_FnExactMetaGet.f k a0 a1) (laws_FnExactMetaGet.f (k + 1) a0 a1) := by
 intro a0 a1 k
 unfold laws_FnExactMetaGet.f
 repeat' first
   | (with_reducible exact impl_MetaGet.mono _ _ _)
   | (with_reducible exact laws_eqFlash.mono _ _ _ _ _)
   | (with_reducible exact laws_szFlash.mono _ _ _ _)
   | (with_reducible exact laws_toFlash.mono _ _ _)
   | (with_reducible exact spec_MetaGet.mono _ _ _)
   | (with_reducible exact LeO.refl _)
   | (with_reducible exact LeO.none _)
   | (with_reducible refine LeO.ite ?_ ?_)
   | (with_reducible refine LeO.bind ?_ (fun _ => ?_))
   | exact impl_MetaGet.mono _ _ _
   | exact laws_eqFlash.mono _ _ _ _ _
   | exact laws_szFlash.mono _ _ _ _
   | exact laws_toFlash.mono _ _ _
   | exact spec_MetaGet.mono _ _ _
   | exact LeO.none _
   | refine LeO.ite ?_ ?_
   | refine LeO.bind ?_ (fun _ => ?_)
set_option maxHeartbeats 8000000 in
set_option maxRecDepth 100000 in
theorem laws_FnExactMetaGet.calls (k : Nat) (A0_0 : Option Addr) (c0_0 : Nat) (l0_0 : List ByteArray) (A0_1 : Option Addr) (c0_1 : Nat) (l0_1 : List (S132)) (r : Bool) (w : World) (hr0_0 : Kd.C Kd.string w A0_0 l0_0.length l0_0) (hc0_0 : l0_0.length ≤ c0_0) (hr0_1 : Kd.C k132 w A0_1 l0_1.length l0_1) (hc0_1 : l0_1.length ≤ c0_1) (h : laws_FnExactMetaGet.f k l0_0 l0_1 = some r) :
  Calls Try.prog 10 #[.agg #[.slice A0_0 l0_0.length c0_0, .slice A0_1 l0_1.length c0_1]] w fun e w' => e = .returned (.bool r) ∧ Below w.heap.size w w' := by
 have hu25 := Try.underlying25
 have hu41 := Try.underlying41
 have hu30 := Try.underlying30
 have HR0_0 := zA_ hr0_0
 have HC0_0 := zA_ hc0_0
 clear hr0_0 hc0_0
 have HR0_1 := zA_ hr0_1
 have HC0_1 := zA_ hc0_1
 clear hr0_1 hc0_1
 have HB := zA_ (Below.refl w.heap.size w)
 have H : ((laws_szFlash.f k l0_0 l0_1 1048576).bind fun t972 => (if t972 < 0 then (some true) else ((laws_toFlash.f k l0_0 l0_1).bind fun bt973 => ((spec_MetaGet.f k bt973.1 bt973.2).bind fun bt979 => ((laws_toFlash.f k l0_0 l0_1).bind fun bt983 => ((impl_MetaGet.f k bt983.1 bt983.2).bind fun bt990 => ((laws_eqMetaOut.f bt990.1 bt990.2.1 bt990.2.2 bt979.1 bt979.2.1 bt979.2.2).bind fun t994 => (if t994 = true then ((laws_toFlash.f k l0_0 l0_1).bind fun bt995 => ((laws_eqFlash.f k bt983.1 bt983.2 bt995.1 bt995.2).bind fun t1001 => (if t1001 = true then (some true) else (none)))) else (none))))))))) = some r := h
 clear h
 replace H := Option.bind_eq_some_iff.mp H
 obtain ⟨t972, A20, H⟩ := H
 replace H : (if t972 < 0 then (some true) else ((laws_toFlash.f k l0_0 l0_1).bind fun bt973 => ((spec_MetaGet.f k bt973.1 bt973.2).bind fun bt979 => ((laws_toFlash.f k l0_0 l0_1).bind fun bt983 => ((impl_MetaGet.f k bt983.1 bt983.2).bind fun bt990 => ((laws_eqMetaOut.f bt990.1 bt990.2.1 bt990.2.2 bt979.1 bt979.2.1 bt979.2.2).bind fun t994 => (if t994 = true then ((laws_toFlash.f k l0_0 l0_1).bind fun bt995 => ((laws_eqFlash.f k bt983.1 bt983.2 bt995.1 bt995.2).bind fun t1001 => (if t1001 = true then (some true) else (none)))) else (none)))))))) = some r := H
 have A2 := zA_ A20
 clear A20
 by_cases c3 : t972 < 0
 ·
  rw [if_pos c3] at H
  have c3b0 : decide (t972 < 0) = true := decide_eq_true c3
  clear c3
  obtain rfl := Option.some.inj H
  go_enter Try.func10, Try.ntmps10
  go_wp2_with (first | ((with_reducible refine gate_dst (N := 1) rfl ?_); refine box_event ?hg (N := 1) ?hd (cs := #[.slice A0_0 l0_0.length c0_0, .slice A0_1 l0_1.length c0_1]) (t := 25) ?hr ?_; (case hd => rfl); (case hg => rfl); (case hr => first | (go_simp; done) | (go_simp; rfl)); intro gb971 hg w4 hbox hb; have n0_ := zA_ (below_step (zh_ HB.out) hb); have n1_ := zA_ (hbox); have n2_ := zA_ ((by rw [hg]; exact (below_size (zh_ HB.out)) : w.heap.size ≤ gb971)); have n3_ := zA_ ((by rw [hg]; exact (below_size (zh_ HB.out)) : w.heap.size ≤ gb971)); clear HB; have HB := n0_; have BK971 := n1_; have GW971 := n2_; have GE971 := n3_; clear n0_ n1_ n2_ n3_; clear hb hbox hg; have hcz5_0 : w4.cell? ⟨gb971, 0, none⟩ = some (.slice A0_0 l0_0.length c0_0) := (blk_cell BK971.out 0).trans rfl; have hcz5_1 : w4.cell? ⟨gb971, 1, none⟩ = some (.slice A0_1 l0_1.length c0_1) := (blk_cell BK971.out 1).trans rfl; have hfz5_0 := blk_frozen BK971.out 0; have hfz5_1 := blk_frozen BK971.out 1) | ((with_reducible refine gate_callee (f := 14) rfl ?_); refine goesL_ (some 9) rfl rfl Try.func14 (by kernel_rfl) rfl #[.agg #[.slice A0_0 l0_0.length c0_0, .slice A0_1 l0_1.length c0_1], .int .i64 1048576] rfl zs_ ?_; (with_reducible refine (laws_szFlash.calls k _ _ l0_0 _ _ l0_1 1048576 t972 _ ?side1 ?side2 ?side3 ?side4 A2.out).mono ?_); (case side1 => exact zc_ (Kd.C_below HR0_0.out HB.out)); (case side2 => exact HC0_0.out); (case side3 => exact zc_ (Kd.C_below HR0_1.out HB.out)); (case side4 => exact HC0_1.out); rintro e w6 ⟨rfl, hb⟩; refine ⟨_, rfl, ?_⟩; have n0_ := zA_ (blk_below (g := gb971) (o := .cells #[.slice A0_0 l0_0.length c0_0, .slice A0_1 l0_1.length c0_1] 25 (0, 0)) (zb_ BK971.out) hb); have n1_ := zA_ (below_step (zg1_ HB.out GE971.out) hb); clear BK971 HB; have BK971 := n0_; have HB := n1_; clear n0_ n1_; (try clear hb); (try clear hb2); (try clear hk); (try clear hi)))
  go_ret
  exact ⟨by first | rfl | (simp [errW_none, errW_some] <;> rfl) | (simp [*, errW_none, errW_some] <;> rfl), by repeat (first | (with_reducible first | exact HB.out | apply below_alloc | apply pw_below_drewN | apply below_drew1 | refine below_set ?_ GE971.out) | exact HB.out)⟩
 ·
  rw [if_neg c3] at H
  have c3b0 : decide (t972 < 0) = false := decide_eq_false c3
  clear c3
  replace H := Option.bind_eq_some_iff.mp H
  obtain ⟨⟨t973, t976⟩, A70, H⟩ := H
  replace H : ((spec_MetaGet.f k t973 t976).bind fun bt979 => ((laws_toFlash.f k l0_0 l0_1).bind fun bt983 => ((impl_MetaGet.f k bt983.1 bt983.2).bind fun bt990 => ((laws_eqMetaOut.f bt990.1 bt990.2.1 bt990.2.2 bt979.1 bt979.2.1 bt979.2.2).bind fun t994 => (if t994 = true then ((laws_toFlash.f k l0_0 l0_1).bind fun bt995 => ((laws_eqFlash.f k bt983.1 bt983.2 bt995.1 bt995.2).bind fun t1001 => (if t1001 = true then (some true) else (none)))) else (none)))))) = some r := H
  have A7 := zA_ A70
  clear A70
  replace H := Option.bind_eq_some_iff.mp H
  obtain ⟨⟨t979, t980, t981⟩, A80, H⟩ := H
  replace H : ((laws_toFlash.f k l0_0 l0_1).bind fun bt983 => ((impl_MetaGet.f k bt983.1 bt983.2).bind fun bt990 => ((laws_eqMetaOut.f bt990.1 bt990.2.1 bt990.2.2 t979 t980 t981).bind fun t994 => (if t994 = true then ((laws_toFlash.f k l0_0 l0_1).bind fun bt995 => ((laws_eqFlash.f k bt983.1 bt983.2 bt995.1 bt995.2).bind fun t1001 => (if t1001 = true then (some true) else (none)))) else (none))))) = some r := H
  have A8 := zA_ A80
  clear A80
  replace H := Option.bind_eq_some_iff.mp H
  obtain ⟨⟨t983, t986⟩, A90, H⟩ := H
  replace H : ((impl_MetaGet.f k t983 t986).bind fun bt990 => ((laws_eqMetaOut.f bt990.1 bt990.2.1 bt990.2.2 t979 t980 t981).bind fun t994 => (if t994 = true then ((laws_toFlash.f k l0_0 l0_1).bind fun bt995 => ((laws_eqFlash.f k t983 t986 bt995.1 bt995.2).bind fun t1001 => (if t1001 = true then (some true) else (none)))) else (none)))) = some r := H
  have A9 := zA_ A90
  clear A90
  replace H := Option.bind_eq_some_iff.mp H
  obtain ⟨⟨t990, t991, t992⟩, A100, H⟩ := H
  replace H : ((laws_eqMetaOut.f t990 t991 t992 t979 t980 t981).bind fun t994 => (if t994 = true then ((laws_toFlash.f k l0_0 l0_1).bind fun bt995 => ((laws_eqFlash.f k t983 t986 bt995.1 bt995.2).bind fun t1001 => (if t1001 = true then (some true) else (none)))) else (none))) = some r := H
  have A10 := zA_ A100
  clear A100
  replace H := Option.bind_eq_some_iff.mp H
  obtain ⟨t994, A110, H⟩ := H
  replace H : (if t994 = true then ((laws_toFlash.f k l0_0 l0_1).bind fun bt995 => ((laws_eqFlash.f k t983 t986 bt995.1 bt995.2).bind fun t1001 => (if t1001 = true then (some true) else (none)))) else (none)) = some r := H
  have A11 := zA_ A110
  clear A110
  by_cases c12 : t994 = true
  ·
   subst c12
   have H1 : ((laws_toFlash.f k l0_0 l0_1).bind fun bt995 => ((laws_eqFlash.f k t983 t986 bt995.1 bt995.2).bind fun t1001 => (if t1001 = true then (some true) else (none)))) = some r := by rw [if_pos rfl] at H; exact H
   clear H
   have H := H1
   clear H1
   replace H := Option.bind_eq_some_iff.mp H
   obtain ⟨⟨t995, t998⟩, A130, H⟩ := H
   replace H : ((laws_eqFlash.f k t983 t986 t995 t998).bind fun t1001 => (if t1001 = true then (some true) else (none))) = some r := H
   have A13 := zA_ A130
   clear A130
   replace H := Option.bind_eq_some_iff.mp H
   obtain ⟨t1001, A140, H⟩ := H
   replace H : (if t1001 = true then (some true) else (none)) = some r := H
   have A14 := zA_ A140
   clear A140
   by_cases c15 : t1001 = true
   ·
    subst c15
    have H1 : (some true) = some r := by rw [if_pos rfl] at H; exact H
    clear H
    have H := H1
    clear H1
    obtain rfl := Option.some.inj H
    go_enter Try.func10, Try.ntmps10
    try go_wp2_with (first | ((with_reducible refine gate_dst (N := 1) rfl ?_); refine box_event ?hg (N := 1) ?hd (cs := #[.slice A0_0 l0_0.length c0_0, .slice A0_1 l0_1.length c0_1]) (t := 25) ?hr ?_; (case hd => rfl); (case hg => rfl); (case hr => first | (go_simp; done) | (go_simp; rfl)); intro gb971 hg w16 hbox hb; have n0_ := zA_ (below_step (zh_ HB.out) hb); have n1_ := zA_ (hbox); have n2_ := zA_ ((by rw [hg]; exact (below_size (zh_ HB.out)) : w.heap.size ≤ gb971)); have n3_ := zA_ ((by rw [hg]; exact (below_size (zh_ HB.out)) : w.heap.size ≤ gb971)); clear HB; have HB := n0_; have BK971 := n1_; have GW971 := n2_; have GE971 := n3_; clear n0_ n1_ n2_ n3_; clear hb hbox hg; have hcz17_0 : w16.cell? ⟨gb971, 0, none⟩ = some (.slice A0_0 l0_0.length c0_0) := (blk_cell BK971.out 0).trans rfl; have hcz17_1 : w16.cell? ⟨gb971, 1, none⟩ = some (.slice A0_1 l0_1.length c0_1) := (blk_cell BK971.out 1).trans rfl; have hfz17_0 := blk_frozen BK971.out 0; have hfz17_1 := blk_frozen BK971.out 1) | ((with_reducible refine gate_callee (f := 14) rfl ?_); refine goesL_ (some 9) rfl rfl Try.func14 (by kernel_rfl) rfl #[.agg #[.slice A0_0 l0_0.length c0_0, .slice A0_1 l0_1.length c0_1], .int .i64 1048576] rfl zs_ ?_; (with_reducible refine (laws_szFlash.calls k _ _ l0_0 _ _ l0_1 1048576 t972 _ ?side1 ?side2 ?side3 ?side4 A2.out).mono ?_); (case side1 => exact zc_ (Kd.C_below HR0_0.out HB.out)); (case side2 => exact HC0_0.out); (case side3 => exact zc_ (Kd.C_below HR0_1.out HB.out)); (case side4 => exact HC0_1.out); rintro e w18 ⟨rfl, hb⟩; refine ⟨_, rfl, ?_⟩; have n0_ := zA_ (blk_below (g := gb971) (o := .cells #[.slice A0_0 l0_0.length c0_0, .slice A0_1 l0_1.length c0_1] 25 (0, 0)) (zb_ BK971.out) hb); have n1_ := zA_ (below_step (zg1_ HB.out GE971.out) hb); clear BK971 HB; have BK971 := n0_; have HB := n1_; clear n0_ n1_; (try clear hb); (try clear hb2); (try clear hk); (try clear hi); have hcz19_0 : w18.cell? ⟨gb971, 0, none⟩ = some (.slice A0_0 l0_0.length c0_0) := (blk_cell BK971.out 0).trans rfl; have hcz19_1 : w18.cell? ⟨gb971, 1, none⟩ = some (.slice A0_1 l0_1.length c0_1) := (blk_cell BK971.out 1).trans rfl; have hfz19_0 := blk_frozen BK971.out 0; have hfz19_1 := blk_frozen BK971.out 1) | ((with_reducible refine gate_callee (f := 16) rfl ?_); refine goesL_ (some 13) rfl rfl Try.func16 (by kernel_rfl) rfl #[.agg #[.slice A0_0 l0_0.length c0_0, .slice A0_1 l0_1.length c0_1]] rfl zs_ ?_; (with_reducible refine (laws_toFlash.calls k _ _ l0_0 _ _ l0_1 t973 t976 _ ?side1 ?side2 ?side3 ?side4 A7.out).mono ?_); (case side1 => exact zc_ (Kd.C_below HR0_0.out HB.out)); (case side2 => exact HC0_0.out); (case side3 => exact zc_ (Kd.C_below HR0_1.out HB.out)); (case side4 => exact HC0_1.out); rintro e w20 ⟨v974, v977, rfl, ho0, ho1, hb⟩; refine ⟨_, rfl, ?_⟩; have n0_ := zA_ (Kd.R_lower ho0 (below_size (zg1_ HB.out GE971.out))); have n1_ := zA_ (Kd.R_lower ho1 (below_size (zg1_ HB.out GE971.out))); have n2_ := zA_ (blk_below (g := gb971) (o := .cells #[.slice A0_0 l0_0.length c0_0, .slice A0_1 l0_1.length c0_1] 25 (0, 0)) (zb_ BK971.out) hb); have n3_ := zA_ (below_step (zg1_ HB.out GE971.out) hb); clear BK971 HB; have HO975 := n0_; have HO978 := n1_; have BK971 := n2_; have HB := n3_; clear n0_ n1_ n2_ n3_; (try clear hb); (try clear hb2); (try clear hk); (try clear hi); (try clear ho0); (try clear ho1); obtain ⟨Ao21, co21, eo21⟩ := Kd.R_slice HO975.out; subst eo21; obtain ⟨Ao22, co22, eo22⟩ := Kd.R_slice HO978.out; subst eo22) | ((with_reducible refine gate_callee (f := 44) rfl ?_); refine goesL_ (some 14) rfl rfl Try.func44 (by kernel_rfl) rfl #[.agg #[.slice Ao21 t973.length co21, .slice Ao22 t976.length co22]] rfl zs_ ?_; (with_reducible refine (spec_MetaGet.calls k _ _ t973 _ _ t976 t979 t980 t981 _ ?side1 ?side2 ?side3 ?side4 A8.out).mono ?_); (case side1 => exact zc_ (Kd.R_reads' HO975.out).2.2); (case side2 => exact (Kd.R_reads' HO975.out).2.1); (case side3 => exact zc_ (Kd.R_reads' HO978.out).2.2); (case side4 => exact (Kd.R_reads' HO978.out).2.1); rintro e w23 ⟨rfl, hb⟩; refine ⟨_, rfl, ?_⟩; have n0_ := zA_ (Kd.R_below (zr_ HO975.out) hb); have n1_ := zA_ (Kd.R_below (zr_ HO978.out) hb); have n2_ := zA_ (blk_below (g := gb971) (o := .cells #[.slice A0_0 l0_0.length c0_0, .slice A0_1 l0_1.length c0_1] 25 (0, 0)) (zb_ BK971.out) hb); have n3_ := zA_ (below_step (zg1_ HB.out GE971.out) hb); clear HO975 HO978 BK971 HB; have HO975 := n0_; have HO978 := n1_; have BK971 := n2_; have HB := n3_; clear n0_ n1_ n2_ n3_; (try clear hb); (try clear hb2); (try clear hk); (try clear hi)) | ((with_reducible refine gate_dst (N := 4) rfl ?_); refine box_event ?hg (N := 4) ?hd (cs := #[.int .i64 0, .string (⟨#[]⟩ : ByteArray), .int .i64 0]) (t := 41) ?hr ?_; (case hd => rfl); (case hg => rfl); (case hr => first | (go_simp; done) | (go_simp; rfl)); intro gb982 hg w24 hbox hb; have n0_ := zA_ (Kd.R_below (zr_ HO975.out) hb); have n1_ := zA_ (Kd.R_below (zr_ HO978.out) hb); have n2_ := zA_ (blk_below (g := gb971) (o := .cells #[.slice A0_0 l0_0.length c0_0, .slice A0_1 l0_1.length c0_1] 25 (0, 0)) (zb_ BK971.out) hb); have n3_ := zA_ (below_step (zg1_ HB.out GE971.out) hb); have n4_ := zA_ (hbox); have n5_ := zA_ ((by rw [hg]; exact (below_size (zg1_ HB.out GE971.out)) : w.heap.size ≤ gb982)); have n6_ := zA_ ((by rw [hg]; exact (below_size (zg1_ HB.out GE971.out)) : w.heap.size ≤ gb982)); have n7_ := zA_ ((by rw [hg]; exact Nat.ne_of_lt (blk_lt (g := gb971) (o := .cells #[.slice A0_0 l0_0.length c0_0, .slice A0_1 l0_1.length c0_1] 25 (0, 0)) (zb_ BK971.out)) : gb971 ≠ gb982)); have n8_ := zA_ ((by rw [hg]; exact Nat.ne_of_gt (blk_lt (g := gb971) (o := .cells #[.slice A0_0 l0_0.length c0_0, .slice A0_1 l0_1.length c0_1] 25 (0, 0)) (zb_ BK971.out)) : gb982 ≠ gb971)); clear HO975 HO978 BK971 HB; have HO975 := n0_; have HO978 := n1_; have BK971 := n2_; have HB := n3_; have BK982 := n4_; have GW982 := n5_; have GE982 := n6_; have NB971_982 := n7_; have NB982_971 := n8_; clear n0_ n1_ n2_ n3_ n4_ n5_ n6_ n7_ n8_; clear hb hbox hg; have hnb25 := NB982_971.out; have hnc25 := NB971_982.out; have hcz26_0 : w24.cell? ⟨gb982, 0, none⟩ = some (.int .i64 0) := (blk_cell BK982.out 0).trans rfl; have hcz26_1 : w24.cell? ⟨gb982, 1, none⟩ = some (.string (⟨#[]⟩ : ByteArray)) := (blk_cell BK982.out 1).trans rfl; have hcz26_2 : w24.cell? ⟨gb982, 2, none⟩ = some (.int .i64 0) := (blk_cell BK982.out 2).trans rfl; have hfz26_0 := blk_frozen BK982.out 0; have hfz26_1 := blk_frozen BK982.out 1; have hfz26_2 := blk_frozen BK982.out 2; have hcz27_0 : w24.cell? ⟨gb971, 0, none⟩ = some (.slice A0_0 l0_0.length c0_0) := (blk_cell BK971.out 0).trans rfl; have hcz27_1 : w24.cell? ⟨gb971, 1, none⟩ = some (.slice A0_1 l0_1.length c0_1) := (blk_cell BK971.out 1).trans rfl; have hfz27_0 := blk_frozen BK971.out 0; have hfz27_1 := blk_frozen BK971.out 1) | ((with_reducible refine gate_callee (f := 16) rfl ?_); refine goesL_ (some 16) rfl rfl Try.func16 (by kernel_rfl) rfl #[.agg #[.slice A0_0 l0_0.length c0_0, .slice A0_1 l0_1.length c0_1]] rfl zs_ ?_; (with_reducible refine (laws_toFlash.calls k _ _ l0_0 _ _ l0_1 t983 t986 _ ?side1 ?side2 ?side3 ?side4 A9.out).mono ?_); (case side1 => exact Kd.C_below HR0_0.out (zg2_ HB.out GE971.out GE982.out)); (case side2 => exact HC0_0.out); (case side3 => exact Kd.C_below HR0_1.out (zg2_ HB.out GE971.out GE982.out)); (case side4 => exact HC0_1.out); rintro e w28 ⟨v984, v987, rfl, ho0, ho1, hb⟩; refine ⟨_, rfl, ?_⟩; have n0_ := zA_ (Kd.R_elder' (by (with_reducible repeat (first | apply Kd.R_alloc | apply Kd.R_drewN | apply Kd.R_drew)); exact (Kd.R_mono (Kd.R_far (p := ⟨gb982, 2, none⟩) (Kd.R_far (p := ⟨gb982, 1, none⟩) (Kd.R_far (p := ⟨gb982, 0, none⟩) (Kd.R_types HO975.out BK982.out (by decide)) (fun _ hk => hk.2) (.int .i64 t979)) (fun _ hk => hk.2) (.string t980)) (fun _ hk => hk.2) (.int .i64 t981)) (fun _ h_ => h_.1))) (Kd.R_base ho0) hb); have n1_ := zA_ (Kd.R_elder' (by (with_reducible repeat (first | apply Kd.R_alloc | apply Kd.R_drewN | apply Kd.R_drew)); exact (Kd.R_mono (Kd.R_far (p := ⟨gb982, 2, none⟩) (Kd.R_far (p := ⟨gb982, 1, none⟩) (Kd.R_far (p := ⟨gb982, 0, none⟩) (Kd.R_types HO978.out BK982.out (by decide)) (fun _ hk => hk.2) (.int .i64 t979)) (fun _ hk => hk.2) (.string t980)) (fun _ hk => hk.2) (.int .i64 t981)) (fun _ h_ => h_.1))) (Kd.R_base ho1) hb); have n2_ := zA_ (Kd.R_lower (Kd.R_new' ho0 (Kd.R_lt (by (with_reducible repeat (first | apply Kd.R_alloc | apply Kd.R_drewN | apply Kd.R_drew)); exact (Kd.R_mono (Kd.R_far (p := ⟨gb982, 2, none⟩) (Kd.R_far (p := ⟨gb982, 1, none⟩) (Kd.R_far (p := ⟨gb982, 0, none⟩) (Kd.R_types HO975.out BK982.out (by decide)) (fun _ hk => hk.2) (.int .i64 t979)) (fun _ hk => hk.2) (.string t980)) (fun _ hk => hk.2) (.int .i64 t981)) (fun _ h_ => h_.1))))) (below_size (zg2_ HB.out GE971.out GE982.out))); have n3_ := zA_ (Kd.R_lower (Kd.R_new' ho1 (Kd.R_lt (by (with_reducible repeat (first | apply Kd.R_alloc | apply Kd.R_drewN | apply Kd.R_drew)); exact (Kd.R_mono (Kd.R_far (p := ⟨gb982, 2, none⟩) (Kd.R_far (p := ⟨gb982, 1, none⟩) (Kd.R_far (p := ⟨gb982, 0, none⟩) (Kd.R_types HO978.out BK982.out (by decide)) (fun _ hk => hk.2) (.int .i64 t979)) (fun _ hk => hk.2) (.string t980)) (fun _ hk => hk.2) (.int .i64 t981)) (fun _ h_ => h_.1))))) (below_size (zg2_ HB.out GE971.out GE982.out))); have n4_ := zA_ (blk_below (g := gb971) (o := .cells #[.slice A0_0 l0_0.length c0_0, .slice A0_1 l0_1.length c0_1] 25 (0, 0)) (zf3_ NB971_982.out NB971_982.out NB971_982.out BK971.out) hb); have n5_ := zA_ (blk_below (g := gb982) (o := .cells #[.int .i64 t979, .string t980, .int .i64 t981] 41 (0, 0)) (by (with_reducible repeat (first | refine blk_drewN ?_ _ | refine blk_drew ?_ | refine blk_alloc ?_ _)); refine blk_put (cs := #[.int .i64 t979, .string t980, .int .i64 0]) ?_ 2 _ rfl; (with_reducible repeat (first | refine blk_drewN ?_ _ | refine blk_drew ?_ | refine blk_alloc ?_ _)); refine blk_put (cs := #[.int .i64 t979, .string (⟨#[]⟩ : ByteArray), .int .i64 0]) ?_ 1 _ rfl; (with_reducible repeat (first | refine blk_drewN ?_ _ | refine blk_drew ?_ | refine blk_alloc ?_ _)); refine blk_put (cs := #[.int .i64 0, .string (⟨#[]⟩ : ByteArray), .int .i64 0]) ?_ 0 _ rfl; (with_reducible repeat (first | refine blk_drewN ?_ _ | refine blk_drew ?_ | refine blk_alloc ?_ _)); exact BK982.out) hb); have n6_ := zA_ (below_step (zg2_ HB.out GE971.out GE982.out) hb); clear HO975 HO978 BK971 BK982 HB; have HO975 := n0_; have HO978 := n1_; have HO985 := n2_; have HO988 := n3_; have BK971 := n4_; have BK982 := n5_; have HB := n6_; clear n0_ n1_ n2_ n3_ n4_ n5_ n6_; (try clear hb); (try clear hb2); (try clear hk); (try clear hi); (try clear ho0); (try clear ho1)) | ((with_reducible refine gate_dst (N := 5) rfl ?_); refine box_event ?hg (N := 5) ?hd (cs := #[.slice none 0 0, .slice none 0 0]) (t := 30) ?hr ?_; (case hd => rfl); (case hg => rfl); (case hr => first | (go_simp; done) | (go_simp; rfl)); intro gb989 hg w29 hbox hb; have n0_ := zA_ (Kd.R_below (zr_ HO975.out) hb); have n1_ := zA_ (Kd.R_below (zr_ HO978.out) hb); have n2_ := zA_ (Kd.R_below (zr_ HO985.out) hb); have n3_ := zA_ (Kd.R_below (zr_ HO988.out) hb); have n4_ := zA_ (blk_below (g := gb971) (o := .cells #[.slice A0_0 l0_0.length c0_0, .slice A0_1 l0_1.length c0_1] 25 (0, 0)) (zb_ BK971.out) hb); have n5_ := zA_ (blk_below (g := gb982) (o := .cells #[.int .i64 t979, .string t980, .int .i64 t981] 41 (0, 0)) (zb_ BK982.out) hb); have n6_ := zA_ (below_step (zg2_ HB.out GE971.out GE982.out) hb); have n7_ := zA_ (hbox); have n8_ := zA_ ((by rw [hg]; exact (below_size (zg2_ HB.out GE971.out GE982.out)) : w.heap.size ≤ gb989)); have n9_ := zA_ ((by rw [hg]; exact (below_size (zg2_ HB.out GE971.out GE982.out)) : w.heap.size ≤ gb989)); have n10_ := zA_ ((by rw [hg]; exact Nat.ne_of_lt (blk_lt (g := gb971) (o := .cells #[.slice A0_0 l0_0.length c0_0, .slice A0_1 l0_1.length c0_1] 25 (0, 0)) (zb_ BK971.out)) : gb971 ≠ gb989)); have n11_ := zA_ ((by rw [hg]; exact Nat.ne_of_gt (blk_lt (g := gb971) (o := .cells #[.slice A0_0 l0_0.length c0_0, .slice A0_1 l0_1.length c0_1] 25 (0, 0)) (zb_ BK971.out)) : gb989 ≠ gb971)); have n12_ := zA_ ((by rw [hg]; exact Nat.ne_of_lt (blk_lt (g := gb982) (o := .cells #[.int .i64 t979, .string t980, .int .i64 t981] 41 (0, 0)) (zb_ BK982.out)) : gb982 ≠ gb989)); have n13_ := zA_ ((by rw [hg]; exact Nat.ne_of_gt (blk_lt (g := gb982) (o := .cells #[.int .i64 t979, .string t980, .int .i64 t981] 41 (0, 0)) (zb_ BK982.out)) : gb989 ≠ gb982)); clear HO975 HO978 HO985 HO988 BK971 BK982 HB; have HO975 := n0_; have HO978 := n1_; have HO985 := n2_; have HO988 := n3_; have BK971 := n4_; have BK982 := n5_; have HB := n6_; have BK989 := n7_; have GW989 := n8_; have GE989 := n9_; have NB971_989 := n10_; have NB989_971 := n11_; have NB982_989 := n12_; have NB989_982 := n13_; clear n0_ n1_ n2_ n3_ n4_ n5_ n6_ n7_ n8_ n9_ n10_ n11_ n12_ n13_; clear hb hbox hg; obtain ⟨Ao30, co30, eo30⟩ := Kd.R_slice HO985.out; subst eo30; have hnb31 := NB989_971.out; have hnc31 := NB971_989.out; have hnb32 := NB989_982.out; have hnc32 := NB982_989.out; have hcz33_0 : w29.cell? ⟨gb989, 0, none⟩ = some (.slice none 0 0) := (blk_cell BK989.out 0).trans rfl; have hcz33_1 : w29.cell? ⟨gb989, 1, none⟩ = some (.slice none 0 0) := (blk_cell BK989.out 1).trans rfl; have hfz33_0 := blk_frozen BK989.out 0; have hfz33_1 := blk_frozen BK989.out 1; obtain ⟨Ao34, co34, eo34⟩ := Kd.R_slice HO988.out; subst eo34) | ((with_reducible refine gate_callee (f := 45) rfl ?_); refine goesL_ (some 18) rfl rfl Try.func45 (by kernel_rfl) rfl #[.agg #[.slice Ao30 t983.length co30, .slice Ao34 t986.length co34]] rfl zs_ ?_; (with_reducible refine (impl_MetaGet.calls k _ _ t983 _ _ t986 t990 t991 t992 _ ?side1 ?side2 ?side3 ?side4 A10.out).mono ?_); (case side1 => refine (Kd.R_reads' (e := 9) (base := w.heap.size) (ok := fun k_ => (True ∧ some k_ ≠ (.slice Ao21 t973.length co21 : Value).ownBlock)) (n := t983.length) (c := co30) ?_).2.2; exact (by (with_reducible repeat (first | apply Kd.R_alloc | apply Kd.R_drewN | apply Kd.R_drew)); exact (Kd.R_mono (Kd.R_far (p := ⟨gb989, 1, none⟩) (Kd.R_far (p := ⟨gb989, 0, none⟩) (Kd.R_types HO985.out BK989.out (by decide)) (fun _ hk => hk.2) (.slice Ao30 t983.length co30)) (fun _ hk => hk.2) (.slice Ao34 t986.length co34)) (fun _ h_ => h_.1)))); (case side2 => exact (Kd.R_reads' HO985.out).2.1); (case side3 => refine (Kd.R_reads' (e := 92) (base := w.heap.size) (ok := fun k_ => (True ∧ some k_ ≠ (.slice Ao22 t976.length co22 : Value).ownBlock)) (n := t986.length) (c := co34) ?_).2.2; exact (by (with_reducible repeat (first | apply Kd.R_alloc | apply Kd.R_drewN | apply Kd.R_drew)); exact (Kd.R_mono (Kd.R_far (p := ⟨gb989, 1, none⟩) (Kd.R_far (p := ⟨gb989, 0, none⟩) (Kd.R_types HO988.out BK989.out (by decide)) (fun _ hk => hk.2) (.slice Ao30 t983.length co30)) (fun _ hk => hk.2) (.slice Ao34 t986.length co34)) (fun _ h_ => h_.1)))); (case side4 => exact (Kd.R_reads' HO988.out).2.1); rintro e w35 ⟨rfl, hb⟩; refine ⟨_, rfl, ?_⟩; have n0_ := zA_ (Kd.R_below (by (with_reducible repeat (first | apply Kd.R_alloc | apply Kd.R_drewN | apply Kd.R_drew)); exact (Kd.R_mono (Kd.R_far (p := ⟨gb989, 1, none⟩) (Kd.R_far (p := ⟨gb989, 0, none⟩) (Kd.R_types HO975.out BK989.out (by decide)) (fun _ hk => hk.2) (.slice Ao30 t983.length co30)) (fun _ hk => hk.2) (.slice Ao34 t986.length co34)) (fun _ h_ => h_.1))) hb); have n1_ := zA_ (Kd.R_below (by (with_reducible repeat (first | apply Kd.R_alloc | apply Kd.R_drewN | apply Kd.R_drew)); exact (Kd.R_mono (Kd.R_far (p := ⟨gb989, 1, none⟩) (Kd.R_far (p := ⟨gb989, 0, none⟩) (Kd.R_types HO978.out BK989.out (by decide)) (fun _ hk => hk.2) (.slice Ao30 t983.length co30)) (fun _ hk => hk.2) (.slice Ao34 t986.length co34)) (fun _ h_ => h_.1))) hb); have n2_ := zA_ (Kd.R_below (by (with_reducible repeat (first | apply Kd.R_alloc | apply Kd.R_drewN | apply Kd.R_drew)); exact (Kd.R_mono (Kd.R_far (p := ⟨gb989, 1, none⟩) (Kd.R_far (p := ⟨gb989, 0, none⟩) (Kd.R_types HO985.out BK989.out (by decide)) (fun _ hk => hk.2) (.slice Ao30 t983.length co30)) (fun _ hk => hk.2) (.slice Ao34 t986.length co34)) (fun _ h_ => h_.1))) hb); have n3_ := zA_ (Kd.R_below (by (with_reducible repeat (first | apply Kd.R_alloc | apply Kd.R_drewN | apply Kd.R_drew)); exact (Kd.R_mono (Kd.R_far (p := ⟨gb989, 1, none⟩) (Kd.R_far (p := ⟨gb989, 0, none⟩) (Kd.R_types HO988.out BK989.out (by decide)) (fun _ hk => hk.2) (.slice Ao30 t983.length co30)) (fun _ hk => hk.2) (.slice Ao34 t986.length co34)) (fun _ h_ => h_.1))) hb); have n4_ := zA_ (blk_below (g := gb971) (o := .cells #[.slice A0_0 l0_0.length c0_0, .slice A0_1 l0_1.length c0_1] 25 (0, 0)) (zf2_ NB971_989.out NB971_989.out BK971.out) hb); have n5_ := zA_ (blk_below (g := gb982) (o := .cells #[.int .i64 t979, .string t980, .int .i64 t981] 41 (0, 0)) (zf2_ NB982_989.out NB982_989.out BK982.out) hb); have n6_ := zA_ (blk_below (g := gb989) (o := .cells #[.slice Ao30 t983.length co30, .slice Ao34 t986.length co34] 30 (0, 0)) (by (with_reducible repeat (first | refine blk_drewN ?_ _ | refine blk_drew ?_ | refine blk_alloc ?_ _)); refine blk_put (cs := #[.slice Ao30 t983.length co30, .slice none 0 0]) ?_ 1 _ rfl; (with_reducible repeat (first | refine blk_drewN ?_ _ | refine blk_drew ?_ | refine blk_alloc ?_ _)); refine blk_put (cs := #[.slice none 0 0, .slice none 0 0]) ?_ 0 _ rfl; (with_reducible repeat (first | refine blk_drewN ?_ _ | refine blk_drew ?_ | refine blk_alloc ?_ _)); exact BK989.out) hb); have n7_ := zA_ (below_step (zg3_ HB.out GE971.out GE982.out GE989.out) hb); clear HO975 HO978 HO985 HO988 BK971 BK982 BK989 HB; have HO975 := n0_; have HO978 := n1_; have HO985 := n2_; have HO988 := n3_; have BK971 := n4_; have BK982 := n5_; have BK989 := n6_; have HB := n7_; clear n0_ n1_ n2_ n3_ n4_ n5_ n6_ n7_; (try clear hb); (try clear hb2); (try clear hk); (try clear hi)) | ((with_reducible refine gate_dst (N := 6) rfl ?_); refine box_event ?hg (N := 6) ?hd (cs := #[.int .i64 0, .string (⟨#[]⟩ : ByteArray), .int .i64 0]) (t := 41) ?hr ?_; (case hd => rfl); (case hg => rfl); (case hr => first | (go_simp; done) | (go_simp; rfl)); intro gb993 hg w36 hbox hb; have n0_ := zA_ (Kd.R_below (zr_ HO975.out) hb); have n1_ := zA_ (Kd.R_below (zr_ HO978.out) hb); have n2_ := zA_ (Kd.R_below (zr_ HO985.out) hb); have n3_ := zA_ (Kd.R_below (zr_ HO988.out) hb); have n4_ := zA_ (blk_below (g := gb971) (o := .cells #[.slice A0_0 l0_0.length c0_0, .slice A0_1 l0_1.length c0_1] 25 (0, 0)) (zb_ BK971.out) hb); have n5_ := zA_ (blk_below (g := gb982) (o := .cells #[.int .i64 t979, .string t980, .int .i64 t981] 41 (0, 0)) (zb_ BK982.out) hb); have n6_ := zA_ (blk_below (g := gb989) (o := .cells #[.slice Ao30 t983.length co30, .slice Ao34 t986.length co34] 30 (0, 0)) (zb_ BK989.out) hb); have n7_ := zA_ (below_step (zg3_ HB.out GE971.out GE982.out GE989.out) hb); have n8_ := zA_ (hbox); have n9_ := zA_ ((by rw [hg]; exact (below_size (zg3_ HB.out GE971.out GE982.out GE989.out)) : w.heap.size ≤ gb993)); have n10_ := zA_ ((by rw [hg]; exact (below_size (zg3_ HB.out GE971.out GE982.out GE989.out)) : w.heap.size ≤ gb993)); have n11_ := zA_ ((by rw [hg]; exact Nat.ne_of_lt (blk_lt (g := gb971) (o := .cells #[.slice A0_0 l0_0.length c0_0, .slice A0_1 l0_1.length c0_1] 25 (0, 0)) (zb_ BK971.out)) : gb971 ≠ gb993)); have n12_ := zA_ ((by rw [hg]; exact Nat.ne_of_gt (blk_lt (g := gb971) (o := .cells #[.slice A0_0 l0_0.length c0_0, .slice A0_1 l0_1.length c0_1] 25 (0, 0)) (zb_ BK971.out)) : gb993 ≠ gb971)); have n13_ := zA_ ((by rw [hg]; exact Nat.ne_of_lt (blk_lt (g := gb982) (o := .cells #[.int .i64 t979, .string t980, .int .i64 t981] 41 (0, 0)) (zb_ BK982.out)) : gb982 ≠ gb993)); have n14_ := zA_ ((by rw [hg]; exact Nat.ne_of_gt (blk_lt (g := gb982) (o := .cells #[.int .i64 t979, .string t980, .int .i64 t981] 41 (0, 0)) (zb_ BK982.out)) : gb993 ≠ gb982)); have n15_ := zA_ ((by rw [hg]; exact Nat.ne_of_lt (blk_lt (g := gb989) (o := .cells #[.slice Ao30 t983.length co30, .slice Ao34 t986.length co34] 30 (0, 0)) (zb_ BK989.out)) : gb989 ≠ gb993)); have n16_ := zA_ ((by rw [hg]; exact Nat.ne_of_gt (blk_lt (g := gb989) (o := .cells #[.slice Ao30 t983.length co30, .slice Ao34 t986.length co34] 30 (0, 0)) (zb_ BK989.out)) : gb993 ≠ gb989)); clear HO975 HO978 HO985 HO988 BK971 BK982 BK989 HB; have HO975 := n0_; have HO978 := n1_; have HO985 := n2_; have HO988 := n3_; have BK971 := n4_; have BK982 := n5_; have BK989 := n6_; have HB := n7_; have BK993 := n8_; have GW993 := n9_; have GE993 := n10_; have NB971_993 := n11_; have NB993_971 := n12_; have NB982_993 := n13_; have NB993_982 := n14_; have NB989_993 := n15_; have NB993_989 := n16_; clear n0_ n1_ n2_ n3_ n4_ n5_ n6_ n7_ n8_ n9_ n10_ n11_ n12_ n13_ n14_ n15_ n16_; clear hb hbox hg; have hnb37 := NB993_971.out; have hnc37 := NB971_993.out; have hnb38 := NB993_982.out; have hnc38 := NB982_993.out; have hnb39 := NB993_989.out; have hnc39 := NB989_993.out; have hcz40_0 : w36.cell? ⟨gb993, 0, none⟩ = some (.int .i64 0) := (blk_cell BK993.out 0).trans rfl; have hcz40_1 : w36.cell? ⟨gb993, 1, none⟩ = some (.string (⟨#[]⟩ : ByteArray)) := (blk_cell BK993.out 1).trans rfl; have hcz40_2 : w36.cell? ⟨gb993, 2, none⟩ = some (.int .i64 0) := (blk_cell BK993.out 2).trans rfl; have hfz40_0 := blk_frozen BK993.out 0; have hfz40_1 := blk_frozen BK993.out 1; have hfz40_2 := blk_frozen BK993.out 2; have hcz41_0 : w36.cell? ⟨gb982, 0, none⟩ = some (.int .i64 t979) := (blk_cell BK982.out 0).trans rfl; have hcz41_1 : w36.cell? ⟨gb982, 1, none⟩ = some (.string t980) := (blk_cell BK982.out 1).trans rfl; have hcz41_2 : w36.cell? ⟨gb982, 2, none⟩ = some (.int .i64 t981) := (blk_cell BK982.out 2).trans rfl; have hfz41_0 := blk_frozen BK982.out 0; have hfz41_1 := blk_frozen BK982.out 1; have hfz41_2 := blk_frozen BK982.out 2) | ((with_reducible refine gate_callee (f := 27) rfl ?_); refine goesL_ (some 21) rfl rfl Try.func27 (by kernel_rfl) rfl #[.agg #[.int .i64 t990, .string t991, .int .i64 t992], .agg #[.int .i64 t979, .string t980, .int .i64 t981]] rfl zs_ ?_; (with_reducible refine (laws_eqMetaOut.calls t990 t991 t992 t979 t980 t981 true _ A11.out).mono ?_); rintro e w42 ⟨rfl, hb⟩; refine ⟨_, rfl, ?_⟩; have n0_ := zA_ (Kd.R_below (by (with_reducible repeat (first | apply Kd.R_alloc | apply Kd.R_drewN | apply Kd.R_drew)); exact (Kd.R_mono (Kd.R_far (p := ⟨gb993, 2, none⟩) (Kd.R_far (p := ⟨gb993, 1, none⟩) (Kd.R_far (p := ⟨gb993, 0, none⟩) (Kd.R_types HO975.out BK993.out (by decide)) (fun _ hk => hk.2) (.int .i64 t990)) (fun _ hk => hk.2) (.string t991)) (fun _ hk => hk.2) (.int .i64 t992)) (fun _ h_ => h_.1))) hb); have n1_ := zA_ (Kd.R_below (by (with_reducible repeat (first | apply Kd.R_alloc | apply Kd.R_drewN | apply Kd.R_drew)); exact (Kd.R_mono (Kd.R_far (p := ⟨gb993, 2, none⟩) (Kd.R_far (p := ⟨gb993, 1, none⟩) (Kd.R_far (p := ⟨gb993, 0, none⟩) (Kd.R_types HO978.out BK993.out (by decide)) (fun _ hk => hk.2) (.int .i64 t990)) (fun _ hk => hk.2) (.string t991)) (fun _ hk => hk.2) (.int .i64 t992)) (fun _ h_ => h_.1))) hb); have n2_ := zA_ (Kd.R_below (by (with_reducible repeat (first | apply Kd.R_alloc | apply Kd.R_drewN | apply Kd.R_drew)); exact (Kd.R_mono (Kd.R_far (p := ⟨gb993, 2, none⟩) (Kd.R_far (p := ⟨gb993, 1, none⟩) (Kd.R_far (p := ⟨gb993, 0, none⟩) (Kd.R_types HO985.out BK993.out (by decide)) (fun _ hk => hk.2) (.int .i64 t990)) (fun _ hk => hk.2) (.string t991)) (fun _ hk => hk.2) (.int .i64 t992)) (fun _ h_ => h_.1))) hb); have n3_ := zA_ (Kd.R_below (by (with_reducible repeat (first | apply Kd.R_alloc | apply Kd.R_drewN | apply Kd.R_drew)); exact (Kd.R_mono (Kd.R_far (p := ⟨gb993, 2, none⟩) (Kd.R_far (p := ⟨gb993, 1, none⟩) (Kd.R_far (p := ⟨gb993, 0, none⟩) (Kd.R_types HO988.out BK993.out (by decide)) (fun _ hk => hk.2) (.int .i64 t990)) (fun _ hk => hk.2) (.string t991)) (fun _ hk => hk.2) (.int .i64 t992)) (fun _ h_ => h_.1))) hb); have n4_ := zA_ (blk_below (g := gb971) (o := .cells #[.slice A0_0 l0_0.length c0_0, .slice A0_1 l0_1.length c0_1] 25 (0, 0)) (zf3_ NB971_993.out NB971_993.out NB971_993.out BK971.out) hb); have n5_ := zA_ (blk_below (g := gb982) (o := .cells #[.int .i64 t979, .string t980, .int .i64 t981] 41 (0, 0)) (zf3_ NB982_993.out NB982_993.out NB982_993.out BK982.out) hb); have n6_ := zA_ (blk_below (g := gb989) (o := .cells #[.slice Ao30 t983.length co30, .slice Ao34 t986.length co34] 30 (0, 0)) (zf3_ NB989_993.out NB989_993.out NB989_993.out BK989.out) hb); have n7_ := zA_ (blk_below (g := gb993) (o := .cells #[.int .i64 t990, .string t991, .int .i64 t992] 41 (0, 0)) (by (with_reducible repeat (first | refine blk_drewN ?_ _ | refine blk_drew ?_ | refine blk_alloc ?_ _)); refine blk_put (cs := #[.int .i64 t990, .string t991, .int .i64 0]) ?_ 2 _ rfl; (with_reducible repeat (first | refine blk_drewN ?_ _ | refine blk_drew ?_ | refine blk_alloc ?_ _)); refine blk_put (cs := #[.int .i64 t990, .string (⟨#[]⟩ : ByteArray), .int .i64 0]) ?_ 1 _ rfl; (with_reducible repeat (first | refine blk_drewN ?_ _ | refine blk_drew ?_ | refine blk_alloc ?_ _)); refine blk_put (cs := #[.int .i64 0, .string (⟨#[]⟩ : ByteArray), .int .i64 0]) ?_ 0 _ rfl; (with_reducible repeat (first | refine blk_drewN ?_ _ | refine blk_drew ?_ | refine blk_alloc ?_ _)); exact BK993.out) hb); have n8_ := zA_ (below_step (zg4_ HB.out GE971.out GE982.out GE989.out GE993.out) hb); clear HO975 HO978 HO985 HO988 BK971 BK982 BK989 BK993 HB; have HO975 := n0_; have HO978 := n1_; have HO985 := n2_; have HO988 := n3_; have BK971 := n4_; have BK982 := n5_; have BK989 := n6_; have BK993 := n7_; have HB := n8_; clear n0_ n1_ n2_ n3_ n4_ n5_ n6_ n7_ n8_; (try clear hb); (try clear hb2); (try clear hk); (try clear hi)))
    have n0_ := zA_ (Kd.R_drew HO975.out)
    have n1_ := zA_ (Kd.R_drew HO978.out)
    have n2_ := zA_ (Kd.R_drew HO985.out)
    have n3_ := zA_ (Kd.R_drew HO988.out)
    have n4_ := zA_ (blk_drew BK971.out)
    have n5_ := zA_ (blk_drew BK982.out)
    have n6_ := zA_ (blk_drew BK989.out)
    have n7_ := zA_ (blk_drew BK993.out)
    have n8_ := zA_ (below_drew1 HB.out)
    clear HO975 HO978 HO985 HO988 BK971 BK982 BK989 BK993 HB
    have HO975 := n0_
    have HO978 := n1_
    have HO985 := n2_
    have HO988 := n3_
    have BK971 := n4_
    have BK982 := n5_
    have BK989 := n6_
    have BK993 := n7_
    have HB := n8_
    clear n0_ n1_ n2_ n3_ n4_ n5_ n6_ n7_ n8_
    refine start_ (n := 5) (S := fun w' => w'.cell? ⟨gb989, 0, none⟩ = some (.slice Ao30 t983.length co30) ∧ w'.cell? ⟨gb989, 1, none⟩ = some (.slice Ao34 t986.length co34) ∧ w'.cell? ⟨gb971, 0, none⟩ = some (.slice A0_0 l0_0.length c0_0) ∧ w'.cell? ⟨gb971, 1, none⟩ = some (.slice A0_1 l0_1.length c0_1)) (ds := []) #[false, false, false, false, false] (by kernel_rfl) rfl rfl ⟨(blk_cell BK989.out 0).trans rfl, (blk_cell BK989.out 1).trans rfl, (blk_cell BK971.out 0).trans rfl, (blk_cell BK971.out 1).trans rfl⟩ (fun hHeld => ?_)
    generalize w42.drew = w43 at HO975 HO978 HO985 HO988 BK971 BK982 BK989 BK993 HB hHeld ⊢
    refine take_ (i := 0) (N := some 23) (v := ?_) (a' := ?_) #[true, false, false, false, false] rfl rfl (by kernel_rfl) (fun _ _ _ h => h) (Or.inl ⟨by rfl, ?_⟩) hHeld ?_ ?_
    rotate_left
    ·
     rintro w' ⟨s0, s1, s2, s3⟩
     go_simp
     with_reducible rfl
    rotate_left
    ·
     simp only [Act.put, List.setIfInBounds_toArray, List.set_cons_zero, List.set_cons_succ, i64_w, i32_w]
     rfl
    refine take_ (i := 1) (N := some 24) (v := ?_) (a' := ?_) #[true, true, false, false, false] rfl rfl (by kernel_rfl) (fun _ _ _ h => h) (Or.inl ⟨by rfl, ?_⟩) hHeld ?_ ?_
    rotate_left
    ·
     rintro w' ⟨s0, s1, s2, s3⟩
     go_simp
     with_reducible rfl
    rotate_left
    ·
     simp only [Act.put, List.setIfInBounds_toArray, List.set_cons_zero, List.set_cons_succ, i64_w, i32_w]
     rfl
    refine one_ (i := 2) (N := some 25) #[true, true, true, false, false] rfl rfl (by kernel_rfl) (by decide) (fun K hK => ?_)
    refine goes_ Try.func16 (by kernel_rfl) rfl #[.agg #[.slice A0_0 l0_0.length c0_0, .slice A0_1 l0_1.length c0_1]] (by rfl) rfl rfl zs_ ?_
    with_reducible refine (laws_toFlash.calls k _ _ l0_0 _ _ l0_1 t995 t998 _ ?side1 ?side2 ?side3 ?side4 A13.out).mono ?_
    (case side1 => exact zc_ (Kd.C_below HR0_0.out HB.out))
    (case side2 => exact HC0_0.out)
    (case side3 => exact zc_ (Kd.C_below HR0_1.out HB.out))
    (case side4 => exact HC0_1.out)
    rintro e w44 ⟨v996, v999, rfl, ho0, ho1, hb⟩
    refine ⟨_, rfl, ?_⟩
    have n0_ := zA_ (Kd.R_elder' (zr_ HO975.out) (Kd.R_base ho0) hb)
    have n1_ := zA_ (Kd.R_elder' (zr_ HO978.out) (Kd.R_base ho1) hb)
    have n2_ := zA_ (Kd.R_elder' (zr_ HO985.out) (Kd.R_base ho0) hb)
    have n3_ := zA_ (Kd.R_elder' (zr_ HO988.out) (Kd.R_base ho1) hb)
    have n4_ := zA_ (Kd.R_lower (Kd.R_new' (Kd.R_new' ho0 (Kd.R_lt (zr_ HO975.out))) (Kd.R_lt (zr_ HO985.out))) (below_size (zg4_ HB.out GE971.out GE982.out GE989.out GE993.out)))
    have n5_ := zA_ (Kd.R_lower (Kd.R_new' (Kd.R_new' ho1 (Kd.R_lt (zr_ HO978.out))) (Kd.R_lt (zr_ HO988.out))) (below_size (zg4_ HB.out GE971.out GE982.out GE989.out GE993.out)))
    have n6_ := zA_ (blk_below (g := gb971) (o := .cells #[.slice A0_0 l0_0.length c0_0, .slice A0_1 l0_1.length c0_1] 25 (0, 0)) (zb_ BK971.out) hb)
    have n7_ := zA_ (blk_below (g := gb982) (o := .cells #[.int .i64 t979, .string t980, .int .i64 t981] 41 (0, 0)) (zb_ BK982.out) hb)
    have n8_ := zA_ (blk_below (g := gb989) (o := .cells #[.slice Ao30 t983.length co30, .slice Ao34 t986.length co34] 30 (0, 0)) (zb_ BK989.out) hb)
    have n9_ := zA_ (blk_below (g := gb993) (o := .cells #[.int .i64 t990, .string t991, .int .i64 t992] 41 (0, 0)) (zb_ BK993.out) hb)
    have n10_ := zA_ (below_step (zg4_ HB.out GE971.out GE982.out GE989.out GE993.out) hb)
    clear HO975 HO978 HO985 HO988 BK971 BK982 BK989 BK993 HB
    have HO975 := n0_
    have HO978 := n1_
    have HO985 := n2_
    have HO988 := n3_
    have HO997 := n4_
    have HO1000 := n5_
    have BK971 := n6_
    have BK982 := n7_
    have BK989 := n8_
    have BK993 := n9_
    have HB := n10_
    clear n0_ n1_ n2_ n3_ n4_ n5_ n6_ n7_ n8_ n9_ n10_
    (try clear hb)
    (try clear hb2)
    (try clear hk)
    (try clear hi)
    (try clear ho0)
    (try clear ho1)
    obtain ⟨Ao45, co45, eo45⟩ := Kd.R_slice HO997.out
    (first | subst eo45 | (injection eo45 with f1_ f2_ f3_; have f4_ := f1_.symm; have f5_ := f3_.symm; clear f1_ f2_ f3_; subst f4_; subst f5_))
    obtain ⟨Ao46, co46, eo46⟩ := Kd.R_slice HO1000.out
    (first | subst eo46 | (injection eo46 with f1_ f2_ f3_; have f4_ := f1_.symm; have f5_ := f3_.symm; clear f1_ f2_ f3_; subst f4_; subst f5_))
    refine hK.out _ _ ⟨(blk_cell BK989.out 0).trans rfl, (blk_cell BK989.out 1).trans rfl, (blk_cell BK971.out 0).trans rfl, (blk_cell BK971.out 1).trans rfl⟩ (fun hHeld => ?_)
    clear hK K
    refine norm_ (a' := ?_) ?_ ?_
    rotate_left
    ·
     show Act.put _ (some 25) _ = _
     simp only [Act.put, List.setIfInBounds_toArray, List.set_cons_zero, List.set_cons_succ, i64_w, i32_w]
     rfl
    refine one_ (i := 3) (N := some 26) #[true, true, true, true, false] rfl rfl (by kernel_rfl) (by decide) (fun K hK => ?_)
    refine goes_ Try.func18 (by kernel_rfl) rfl #[.agg #[.slice Ao30 t983.length co30, .slice Ao34 t986.length co34], .agg #[.slice Ao45 t995.length co45, .slice Ao46 t998.length co46]] (by rfl) rfl rfl zs_ ?_
    with_reducible refine (laws_eqFlash.calls k _ _ t983 _ _ t986 _ _ t995 _ _ t998 true _ ?side1 ?side2 ?side3 ?side4 ?side5 ?side6 ?side7 ?side8 A14.out).mono ?_
    (case side1 => exact zc_ (Kd.R_reads' HO985.out).2.2)
    (case side2 => exact (Kd.R_reads' HO985.out).2.1)
    (case side3 => exact zc_ (Kd.R_reads' HO988.out).2.2)
    (case side4 => exact (Kd.R_reads' HO988.out).2.1)
    (case side5 => exact zc_ (Kd.R_reads' HO997.out).2.2)
    (case side6 => exact (Kd.R_reads' HO997.out).2.1)
    (case side7 => exact zc_ (Kd.R_reads' HO1000.out).2.2)
    (case side8 => exact (Kd.R_reads' HO1000.out).2.1)
    rintro e w47 ⟨rfl, hb⟩
    refine ⟨_, rfl, ?_⟩
    have n0_ := zA_ (Kd.R_below (zr_ HO975.out) hb)
    have n1_ := zA_ (Kd.R_below (zr_ HO978.out) hb)
    have n2_ := zA_ (Kd.R_below (zr_ HO985.out) hb)
    have n3_ := zA_ (Kd.R_below (zr_ HO988.out) hb)
    have n4_ := zA_ (Kd.R_below (zr_ HO997.out) hb)
    have n5_ := zA_ (Kd.R_below (zr_ HO1000.out) hb)
    have n6_ := zA_ (blk_below (g := gb971) (o := .cells #[.slice A0_0 l0_0.length c0_0, .slice A0_1 l0_1.length c0_1] 25 (0, 0)) (zb_ BK971.out) hb)
    have n7_ := zA_ (blk_below (g := gb982) (o := .cells #[.int .i64 t979, .string t980, .int .i64 t981] 41 (0, 0)) (zb_ BK982.out) hb)
    have n8_ := zA_ (blk_below (g := gb989) (o := .cells #[.slice Ao30 t983.length co30, .slice Ao34 t986.length co34] 30 (0, 0)) (zb_ BK989.out) hb)
    have n9_ := zA_ (blk_below (g := gb993) (o := .cells #[.int .i64 t990, .string t991, .int .i64 t992] 41 (0, 0)) (zb_ BK993.out) hb)
    have n10_ := zA_ (below_step (zg4_ HB.out GE971.out GE982.out GE989.out GE993.out) hb)
    clear HO975 HO978 HO985 HO988 HO997 HO1000 BK971 BK982 BK989 BK993 HB
    have HO975 := n0_
    have HO978 := n1_
    have HO985 := n2_
    have HO988 := n3_
    have HO997 := n4_
    have HO1000 := n5_
    have BK971 := n6_
    have BK982 := n7_
    have BK989 := n8_
    have BK993 := n9_
    have HB := n10_
    clear n0_ n1_ n2_ n3_ n4_ n5_ n6_ n7_ n8_ n9_ n10_
    (try clear hb)
    (try clear hb2)
    (try clear hk)
    (try clear hi)
    refine hK.out _ _ ⟨(blk_cell BK989.out 0).trans rfl, (blk_cell BK989.out 1).trans rfl, (blk_cell BK971.out 0).trans rfl, (blk_cell BK971.out 1).trans rfl⟩ (fun hHeld => ?_)
    clear hK K
    refine norm_ (a' := ?_) ?_ ?_
    rotate_left
    ·
     show Act.put _ (some 26) _ = _
     simp only [Act.put, List.setIfInBounds_toArray, List.set_cons_zero, List.set_cons_succ, i64_w, i32_w]
     rfl
    refine pure_ (i := 4) (N := some 27) (v := ?_) (a' := ?_) #[true, true, true, true, true] rfl rfl (by kernel_rfl) (fun _ _ _ h => h) (Or.inl ⟨by rfl, ?_⟩) ?_ ?_
    rotate_left
    ·
     intro w'
     go_simp
     with_reducible rfl
    rotate_left
    ·
     simp only [Act.put, List.setIfInBounds_toArray, List.set_cons_zero, List.set_cons_succ, i64_w, i32_w]
     rfl
    refine done_ (by kernel_rfl) ?_
    try go_wp2
    go_ret
    exact ⟨by first | rfl | (simp [errW_none, errW_some] <;> rfl) | (simp [*, errW_none, errW_some] <;> rfl), by repeat (first | (with_reducible first | exact HB.out | apply below_alloc | apply pw_below_drewN | apply below_drew1 | refine below_set ?_ GE971.out | refine below_set ?_ GE982.out | refine below_set ?_ GE989.out | refine below_set ?_ GE993.out) | exact HB.out)⟩
   ·
    replace c15 := Bool.eq_false_iff.mpr c15
    subst c15
    have H1 : (none) = some r := by rw [if_neg (show ¬ (false = true) by decide)] at H; exact H
    clear H
    have H := H1
    clear H1
    exact absurd H (by simp)
  ·
   replace c12 := Bool.eq_false_iff.mpr c12
   subst c12
   have H1 : (none) = some r := by rw [if_neg (show ¬ (false = true) by decide)] at H; exact H
   clear H
   have H := H1
   clear H1
   exact absurd H (by simp)


/-- A state of type 151 at block g of W; what its slices lead to came in by w0. -/
def IsS151 (w0 W : World) (g : Nat) (f0 : List Int) (f1 : Int) (f2 : Int) (f3 : Int) : Prop := ∃ A0 c0, W.heap[g]? = some (.cells #[.slice A0 f0.length c0, .int .i64 f1, .int .u64 f2, .int .i64 f3] 151 (0, 0)) ∧ w0.heap.size ≤ g ∧ Kd.C (Kd.int .u8) w0 A0 f0.length f0
theorem IsS151.grown {w0 W : World} {g : Nat} {f0 : List Int} {f1 : Int} {f2 : Int} {f3 : Int} {W1 : World} {row : Option Nat} (h : IsS151 w0 W g f0 f1 f2 f3) (hw : W.grownBy W1 row) (hne : some g ≠ row) : IsS151 w0 W1 g f0 f1 f2 f3 := by
 obtain ⟨A0, c0, hb, hg, hr0⟩ := h
 exact ⟨A0, c0, blk_grown hb hw hne, hg, hr0⟩
theorem IsS151.own_neN {w0 W : World} {g : Nat} {f0 : List Int} {f1 : Int} {f2 : Int} {f3 : Int} {α : Type} {d : Kd α} {e : Nat} {base : Nat} {ok : Nat → Prop} {v : Value} {xs : List α} (h : IsS151 w0 W g f0 f1 f2 f3) (ho : Kd.N d e W base ok v xs) (ht : e ≠ 151) : some g ≠ v.ownBlock := by
 obtain ⟨A0, c0, hb, hg, hr0⟩ := h
 exact Kd.N_ne ho hb ht
theorem IsS151.fresh {w0 W : World} {g : Nat} {f0 : List Int} {f1 : Int} {f2 : Int} {f3 : Int} (h : IsS151 w0 W g f0 f1 f2 f3) : ∀ k, W.heap.size ≤ k → k ≠ g := by
 obtain ⟨A0, c0, hb, hg, hr0⟩ := h
 exact Kd.freshB hb
theorem IsS151.kept {w0 W : World} {g : Nat} {f0 : List Int} {f1 : Int} {f2 : Int} {f3 : Int} {W1 : World} {S : Nat → Prop} (h : IsS151 w0 W g f0 f1 f2 f3) (hk : Kept W W1 S) (hne : ¬ S g) : IsS151 w0 W1 g f0 f1 f2 f3 := by
 obtain ⟨A0, c0, hb, hg, hr0⟩ := h
 exact ⟨A0, c0, blk_kept hb hk hne, hg, hr0⟩
theorem IsS151.below {w0 W : World} {g : Nat} {f0 : List Int} {f1 : Int} {f2 : Int} {f3 : Int} {W1 : World} (h : IsS151 w0 W g f0 f1 f2 f3) (hw : Below W.heap.size W W1) : IsS151 w0 W1 g f0 f1 f2 f3 := h.grown (grown_of_below hw none) (by simp)
theorem IsS151.alloc {w0 W : World} {g : Nat} {f0 : List Int} {f1 : Int} {f2 : Int} {f3 : Int} (h : IsS151 w0 W g f0 f1 f2 f3) (o : Obj) : IsS151 w0 (W.alloc o) g f0 f1 f2 f3 := h.below (below_alloc (Below.refl _ _) o)
theorem IsS151.drewN {w0 W : World} {g : Nat} {f0 : List Int} {f1 : Int} {f2 : Int} {f3 : Int} (h : IsS151 w0 W g f0 f1 f2 f3) (m : Nat) : IsS151 w0 (W.drewN m) g f0 f1 f2 f3 := h
theorem IsS151.drew {w0 W : World} {g : Nat} {f0 : List Int} {f1 : Int} {f2 : Int} {f3 : Int} (h : IsS151 w0 W g f0 f1 f2 f3) : IsS151 w0 W.drew g f0 f1 f2 f3 := h
theorem IsS151.at_ {w0 W : World} {g : Nat} {f0 : List Int} {f1 : Int} {f2 : Int} {f3 : Int} {w' : World} {m : Nat} (hq : W.drewN m = w') (h : IsS151 w0 W g f0 f1 f2 f3) : IsS151 w0 w' g f0 f1 f2 f3 := by subst hq; exact IsS151.drewN h m
theorem IsS151.apart {w0 W : World} {g : Nat} {f0 : List Int} {f1 : Int} {f2 : Int} {f3 : Int} {α : Type} {d : Kd α} {e : Nat} {base : Nat} {ok : Nat → Prop} {v : Value} {xs : List α} (h : IsS151 w0 W g f0 f1 f2 f3) (ho : d.R e W base ok v xs) (ht : ∀ q, q ∈ e :: d.E → q ≠ 151) : d.R e W base (fun k => ok k ∧ k ≠ g) v xs := by
 obtain ⟨A0, c0, hb, hg, hr0⟩ := h
 exact Kd.R_types ho hb ht
theorem IsS151.own_ne {w0 W : World} {g : Nat} {f0 : List Int} {f1 : Int} {f2 : Int} {f3 : Int} {α : Type} {d : Kd α} {e : Nat} {base : Nat} {ok : Nat → Prop} {v : Value} {xs : List α} (h : IsS151 w0 W g f0 f1 f2 f3) (ho : d.R e W base ok v xs) (ht : e ≠ 151) : some g ≠ v.ownBlock := by
 obtain ⟨A0, c0, hb, hg, hr0⟩ := h
 exact Kd.R_ne ho hb ht
theorem IsS151.apartQ {w0 W : World} {g : Nat} {f0 : List Int} {f1 : Int} {f2 : Int} {f3 : Int} {α : Type} {d : Kd α} {e : Nat} {base : Nat} {ok : Nat → Prop} {v : Value} {xs : List α} (h : IsS151 w0 W g f0 f1 f2 f3) (ho : d.Q e W base ok v xs) (ht : ∀ q, q ∈ e :: d.E → q ≠ 151) : d.Q e W base (fun k => ok k ∧ k ≠ g) v xs := by
 obtain ⟨A0, c0, hb, hg, hr0⟩ := h
 exact Kd.Q_types ho hb ht
theorem IsS151.own_neQ {w0 W : World} {g : Nat} {f0 : List Int} {f1 : Int} {f2 : Int} {f3 : Int} {α : Type} {d : Kd α} {e : Nat} {base : Nat} {ok : Nat → Prop} {v : Value} {xs : List α} (h : IsS151 w0 W g f0 f1 f2 f3) (ho : d.Q e W base ok v xs) (ht : e ≠ 151) : some g ≠ v.ownBlock := by
 obtain ⟨A0, c0, hb, hg, hr0⟩ := h
 exact Kd.Q_ne ho hb ht
theorem IsS151.apartS {w0 W : World} {g : Nat} {f0 : List Int} {f1 : Int} {f2 : Int} {f3 : Int} {α : Type} {d : Kd α} {e : Nat} {base : Nat} {ok : Nat → Prop} {v : Value} {xs : List α} (h : IsS151 w0 W g f0 f1 f2 f3) (ho : d.S e W base ok v xs) (ht : ∀ q, q ∈ e :: d.E → q ≠ 151) : d.S e W base (fun k => ok k ∧ k ≠ g) v xs := by
 obtain ⟨A0, c0, hb, hg, hr0⟩ := h
 exact Kd.S_types ho hb ht
theorem IsS151.own_neS {w0 W : World} {g : Nat} {f0 : List Int} {f1 : Int} {f2 : Int} {f3 : Int} {α : Type} {d : Kd α} {e : Nat} {base : Nat} {ok : Nat → Prop} {v : Value} {xs : List α} (h : IsS151 w0 W g f0 f1 f2 f3) (ho : d.S e W base ok v xs) (ht : e ≠ 151) : some g ≠ v.ownBlock := by
 obtain ⟨A0, c0, hb, hg, hr0⟩ := h
 exact Kd.S_ne ho hb ht
theorem IsS151.lt {w0 W : World} {g : Nat} {f0 : List Int} {f1 : Int} {f2 : Int} {f3 : Int} (h : IsS151 w0 W g f0 f1 f2 f3) : g < W.heap.size := by
 obtain ⟨A0, c0, hb, hg, hr0⟩ := h
 exact blk_lt hb
theorem IsS151.ge {w0 W : World} {g : Nat} {f0 : List Int} {f1 : Int} {f2 : Int} {f3 : Int} (h : IsS151 w0 W g f0 f1 f2 f3) : w0.heap.size ≤ g := by
 obtain ⟨A0, c0, hb, hg, hr0⟩ := h
 exact hg
theorem IsS151.ne_blk {w0 W : World} {g : Nat} {f0 : List Int} {f1 : Int} {f2 : Int} {f3 : Int} {a : Nat} {cs : Array Value} {t : TypeId} {fr : Nat × Nat} (h : IsS151 w0 W g f0 f1 f2 f3) (hb2 : W.heap[a]? = some (.cells cs t fr)) (ht : t ≠ 151) : g ≠ a := by
 obtain ⟨A0, c0, hb, hg, hr0⟩ := h
 rintro rfl
 rw [hb] at hb2
 injection hb2 with hb2
 injection hb2 with _ ht2
 exact ht ht2.symm
theorem IsS151.far {w0 W : World} {g : Nat} {f0 : List Int} {f1 : Int} {f2 : Int} {f3 : Int} {p : Addr} (h : IsS151 w0 W g f0 f1 f2 f3) (hne : g ≠ p.block) (u : Value) : IsS151 w0 (W.setCell p u) g f0 f1 f2 f3 := by
 obtain ⟨A0, c0, hb, hg, hr0⟩ := h
 exact ⟨A0, c0, blk_far hb hne u, hg, hr0⟩
theorem cellS151_0 {W : World} {g : Nat} {A0 : Option Addr} {c0 : Nat} {f0 : List Int} {f1 : Int} {f2 : Int} {f3 : Int} (h : W.heap[g]? = some (.cells #[.slice A0 f0.length c0, .int .i64 f1, .int .u64 f2, .int .i64 f3] 151 (0, 0))) : W.cell? ⟨g, 0, none⟩ = some (.slice A0 f0.length c0) := (blk_cell h 0).trans rfl
theorem cellS151_1 {W : World} {g : Nat} {A0 : Option Addr} {c0 : Nat} {f0 : List Int} {f1 : Int} {f2 : Int} {f3 : Int} (h : W.heap[g]? = some (.cells #[.slice A0 f0.length c0, .int .i64 f1, .int .u64 f2, .int .i64 f3] 151 (0, 0))) : W.cell? ⟨g, 1, none⟩ = some (.int .i64 f1) := (blk_cell h 1).trans rfl
theorem IsS151.set_1 {w0 W : World} {g : Nat} {f0 : List Int} {f1 : Int} {f2 : Int} {f3 : Int} (h : IsS151 w0 W g f0 f1 f2 f3) (x : Int) : IsS151 w0 (W.setCell ⟨g, 1, none⟩ (.int .i64 x)) g f0 x f2 f3 := by
 obtain ⟨A0, c0, hb, hg, hr0⟩ := h
 exact ⟨A0, c0, by simpa using blk_set hb 1 (.int .i64 x), hg, hr0⟩
theorem cellS151_2 {W : World} {g : Nat} {A0 : Option Addr} {c0 : Nat} {f0 : List Int} {f1 : Int} {f2 : Int} {f3 : Int} (h : W.heap[g]? = some (.cells #[.slice A0 f0.length c0, .int .i64 f1, .int .u64 f2, .int .i64 f3] 151 (0, 0))) : W.cell? ⟨g, 2, none⟩ = some (.int .u64 f2) := (blk_cell h 2).trans rfl
theorem IsS151.set_2 {w0 W : World} {g : Nat} {f0 : List Int} {f1 : Int} {f2 : Int} {f3 : Int} (h : IsS151 w0 W g f0 f1 f2 f3) (x : Int) : IsS151 w0 (W.setCell ⟨g, 2, none⟩ (.int .u64 x)) g f0 f1 x f3 := by
 obtain ⟨A0, c0, hb, hg, hr0⟩ := h
 exact ⟨A0, c0, by simpa using blk_set hb 2 (.int .u64 x), hg, hr0⟩
theorem cellS151_3 {W : World} {g : Nat} {A0 : Option Addr} {c0 : Nat} {f0 : List Int} {f1 : Int} {f2 : Int} {f3 : Int} (h : W.heap[g]? = some (.cells #[.slice A0 f0.length c0, .int .i64 f1, .int .u64 f2, .int .i64 f3] 151 (0, 0))) : W.cell? ⟨g, 3, none⟩ = some (.int .i64 f3) := (blk_cell h 3).trans rfl
theorem IsS151.set_3 {w0 W : World} {g : Nat} {f0 : List Int} {f1 : Int} {f2 : Int} {f3 : Int} (h : IsS151 w0 W g f0 f1 f2 f3) (x : Int) : IsS151 w0 (W.setCell ⟨g, 3, none⟩ (.int .i64 x)) g f0 f1 f2 x := by
 obtain ⟨A0, c0, hb, hg, hr0⟩ := h
 exact ⟨A0, c0, by simpa using blk_set hb 3 (.int .i64 x), hg, hr0⟩
theorem IsS151.new (w0 W : World) (A0 : Option Addr) (c0 : Nat) (f0 : List Int) (f1 : Int) (f2 : Int) (f3 : Int) (hB : Below w0.heap.size w0 W) (hr0 : Kd.C (Kd.int .u8) w0 A0 f0.length f0) : IsS151 w0 (W.alloc (.cells #[.slice A0 f0.length c0, .int .i64 f1, .int .u64 f2, .int .i64 f3] 151)) W.heap.size f0 f1 f2 f3 := ⟨A0, c0, by simpa using heap_alloc_new W _, hB.size, hr0⟩

/-! ### slices_Clone_string_string: function 131 -/
def slices_Clone_string_string.f (l0 : List ByteArray) : Option (List ByteArray) := if l0.length * 16 ≤ 140737488355328 then some l0 else none
set_option maxHeartbeats 8000000 in
set_option maxRecDepth 100000 in
theorem slices_Clone_string_string.some_ (ad : Addr) (c0 : Nat) (l0 : List ByteArray) (w : World) (hr0 : Kd.C Kd.string w (some ad) l0.length l0) (hc0 : l0.length ≤ c0) (hb : l0.length * 16 ≤ 140737488355328) :
  Calls Try.prog 131 #[.slice (some ad) l0.length c0] w fun e w' => ∃ v0_ : Value, e = .returned (v0_) ∧ Kd.R Kd.string 9 w' w.heap.size (fun _ => True) v0_ l0 ∧ Below w.heap.size w w' := by
 have HR0 := zA_ hr0
 have HC0 := zA_ hc0
 have HL := zA_ hb
 clear hr0 hc0 hb
 have HB := zA_ (Below.refl w.heap.size w)
 obtain ⟨y1, hy1⟩ : ∃ y_ : List ByteArray, y_ = ([] : List ByteArray) := ⟨_, rfl⟩
 have Ny1 := zA_ hy1
 clear hy1
 have hq : ∀ W : World, (binOp .eql 22 (.slice (some ad) l0.length c0) (.slice none 0 0)).run Try.prog W = .ok (.bool false) W := fun W => Lib.run_eql_slice_nil W _ _ (some ad) _ _ _ _ Try.underlying22
 go_enter Try.func131, Try.ntmps131
 go_wp2_with (first | ((with_reducible refine gate_dst (N := 5) rfl ?_); refine Kd.R_lit Kd.string _ 9 ?hg (N := 5) ?hd (xs := ([] : List ByteArray)) (inner := []) (ok := fun _ => True) (okp := fun _ => True) ?hr ?hp (fun _ hk => hk) trivial (Below.refl _ _) (Nat.le_refl _) (by simp) ?_; (case hd => rfl); (case hg => rfl); (case hr => first | (go_simp; done) | (go_simp; rfl)); (case hp => exact (Reps.none _ _)); intro v2 w2 ho3 hb hg_ hnew_; clear hg_ hnew_; (first | rw [← Ny1.out] at ho3 | (simp only [Int.reduceToNat] at ho3; rw [← Ny1.out] at ho3)); have n0_ := zA_ (Kd.R_lower ho3 (below_size (zh_ HB.out))); have n1_ := zA_ (below_step (zh_ HB.out) hb); clear HB; have HO3 := n0_; have HB := n1_; clear n0_ n1_; clear hb ho3) | ((with_reducible refine gate_builtin (b := .append) (xs := #[.tmp 5, .tmp 6]) rfl ?_); at_builtin; refine Kd.R_append_rows Kd.string (w0 := w) w.heap.size rfl (.tmp 5) (.tmp 6) 22 9 (.string ⟨#[]⟩) 16 rfl Try.underlying22 info9 rfl (by decide) (by omega) v2 y1 l0 _ _ _ (fun _ => True) (fun _ => False) rfl rfl ?aO ?aR (fun _ _ h => h) (fun _ h => h.elim) ?aF ?aB ?aS ?aL ?_; (case aR => repeat (first | exact (Kd.C_below HR0.out HB.out) | (with_reducible refine Kd.C_alloc ?_ _) | (with_reducible refine Kd.C_drewN ?_ _) | (with_reducible refine Kd.C_drew ?_))); (case aB => exact (zh_ HB.out)); (case aF => exact (fun _ _ => trivial)); (case aO => exact (zr_ HO3.out)); (case aS => exact (below_size (zh_ HB.out))); (case aL => have h1 := HL.out; have h2 := Ny1.out; subst h2; simpa using h1); intro v4 w4 ho hb hg hat; have n0_ := zA_ (hb); have n1_ := zA_ (ho); clear HB HO3; have HB := n0_; have HO4 := n1_; clear n0_ n1_; clear ho hb hg hat))
 go_ret
 have e1 : y1 ++ l0 = l0 := by rw [Ny1.out, List.nil_append]
 rw [e1] at HO4
 exact ⟨_, rfl, HO4.out, HB.out⟩
set_option maxHeartbeats 8000000 in
set_option maxRecDepth 100000 in
theorem slices_Clone_string_string.calls (A0 : Option Addr) (c0 : Nat) (l0 : List ByteArray) (r : List ByteArray) (w : World) (hr0 : Kd.C Kd.string w A0 l0.length l0) (hc0 : l0.length ≤ c0) (h : slices_Clone_string_string.f l0 = some r) :
  Calls Try.prog 131 #[.slice A0 l0.length c0] w fun e w' => ∃ v0_ : Value, e = .returned (v0_) ∧ Kd.R Kd.string 9 w' w.heap.size (fun _ => True) v0_ r ∧ Below w.heap.size w w' := by
 unfold slices_Clone_string_string.f at h
 by_cases hb : l0.length * 16 ≤ 140737488355328
 ·
  rw [if_pos hb] at h
  obtain rfl := Option.some.inj h
  cases A0 with
  | some ad => exact slices_Clone_string_string.some_ ad c0 l0 w hr0 hc0 hb
  | none =>
   have hl : l0.length = 0 := by
    rcases Nat.eq_zero_or_pos l0.length with h0 | h0
    ·
     exact h0
    ·
     obtain ⟨ad, _, e, _⟩ := Kd.C_get hr0 ByteArray.empty 0 (by omega) (by omega)
     cases e
   obtain rfl : l0 = [] := List.eq_nil_of_length_eq_zero hl
   clear hr0 h hb hl
   have hq : ∀ W : World, (binOp .eql 22 (.slice none 0 c0) (.slice none 0 0)).run Try.prog W = .ok (.bool true) W := fun W => Lib.run_eql_slice_nil W _ _ none _ _ _ _ Try.underlying22
   go_enter Try.func131, Try.ntmps131

   go_wp2
   all_goals (try go_ret)
   all_goals exact ⟨_, rfl, Kd.R_nil _ _ _ _ _, by repeat (first | exact Below.refl _ _ | apply below_alloc | apply pw_below_drewN | apply below_drew1)⟩
 ·
  rw [if_neg hb] at h; cases h


/-! ### impl_Dirty_132: function 132 -/
def slices_Clone_S92.f (l0 : List S92) : Option (List S92) := if l0.length * 24 ≤ 140737488355328 then some l0 else none
set_option maxHeartbeats 8000000 in
set_option maxRecDepth 100000 in
theorem slices_Clone_S92.some_ (ad : Addr) (c0 : Nat) (l0 : List S92) (w : World) (hr0 : Kd.C k92 w (some ad) l0.length l0) (hc0 : l0.length ≤ c0) (hb : l0.length * 24 ≤ 140737488355328) :
  Calls Try.prog 132 #[.slice (some ad) l0.length c0] w fun e w' => ∃ v0_ : Value, e = .returned (v0_) ∧ Kd.R k92 92 w' w.heap.size (fun _ => True) v0_ l0 ∧ Below w.heap.size w w' := by
 have HR0 := zA_ hr0
 have HC0 := zA_ hc0
 have HL := zA_ hb
 clear hr0 hc0 hb
 have HB := zA_ (Below.refl w.heap.size w)
 obtain ⟨y1, hy1⟩ : ∃ y_ : List S92, y_ = ([] : List S92) := ⟨_, rfl⟩
 have Ny1 := zA_ hy1
 clear hy1
 have hq : ∀ W : World, (binOp .eql 28 (.slice (some ad) l0.length c0) (.slice none 0 0)).run Try.prog W = .ok (.bool false) W := fun W => Lib.run_eql_slice_nil W _ _ (some ad) _ _ _ _ Try.underlying28
 go_enter Try.func132, Try.ntmps132
 go_wp2_with (first | ((with_reducible refine gate_dst (N := 5) rfl ?_); refine Kd.R_lit k92 _ 92 ?hg (N := 5) ?hd (xs := ([] : List S92)) (inner := []) (ok := fun _ => True) (okp := fun _ => True) ?hr ?hp (fun _ hk => hk) trivial (Below.refl _ _) (Nat.le_refl _) (by simp) ?_; (case hd => rfl); (case hg => rfl); (case hr => first | (go_simp; done) | (go_simp; rfl)); (case hp => exact (Reps.none _ _)); intro v2 w2 ho3 hb hg_ hnew_; clear hg_ hnew_; (first | rw [← Ny1.out] at ho3 | (simp only [Int.reduceToNat] at ho3; rw [← Ny1.out] at ho3)); have n0_ := zA_ (Kd.R_lower ho3 (below_size (zh_ HB.out))); have n1_ := zA_ (below_step (zh_ HB.out) hb); clear HB; have HO3 := n0_; have HB := n1_; clear n0_ n1_; clear hb ho3) | ((with_reducible refine gate_builtin (b := .append) (xs := #[.tmp 5, .tmp 6]) rfl ?_); at_builtin; refine Kd.R_append_rows k92 (w0 := w) w.heap.size rfl (.tmp 5) (.tmp 6) 28 92 (.agg #[(.int .i64 0), (.string ⟨#[]⟩)]) 24 rfl Try.underlying28 info92 rfl (by decide) (by omega) v2 y1 l0 _ _ _ (fun _ => True) (fun _ => False) rfl rfl ?aO ?aR (fun _ _ h => h) (fun _ h => h.elim) ?aF ?aB ?aS ?aL ?_; (case aR => repeat (first | exact (Kd.C_below HR0.out HB.out) | (with_reducible refine Kd.C_alloc ?_ _) | (with_reducible refine Kd.C_drewN ?_ _) | (with_reducible refine Kd.C_drew ?_))); (case aB => exact (zh_ HB.out)); (case aF => exact (fun _ _ => trivial)); (case aO => exact (zr_ HO3.out)); (case aS => exact (below_size (zh_ HB.out))); (case aL => have h1 := HL.out; have h2 := Ny1.out; subst h2; simpa using h1); intro v4 w4 ho hb hg hat; have n0_ := zA_ (hb); have n1_ := zA_ (ho); clear HB HO3; have HB := n0_; have HO4 := n1_; clear n0_ n1_; clear ho hb hg hat))
 go_ret
 have e1 : y1 ++ l0 = l0 := by rw [Ny1.out, List.nil_append]
 rw [e1] at HO4
 exact ⟨_, rfl, HO4.out, HB.out⟩
set_option maxHeartbeats 8000000 in
set_option maxRecDepth 100000 in
theorem slices_Clone_S92.calls (A0 : Option Addr) (c0 : Nat) (l0 : List S92) (r : List S92) (w : World) (hr0 : Kd.C k92 w A0 l0.length l0) (hc0 : l0.length ≤ c0) (h : slices_Clone_S92.f l0 = some r) :
  Calls Try.prog 132 #[.slice A0 l0.length c0] w fun e w' => ∃ v0_ : Value, e = .returned (v0_) ∧ Kd.R k92 92 w' w.heap.size (fun _ => True) v0_ r ∧ Below w.heap.size w w' := by
 unfold slices_Clone_S92.f at h
 by_cases hb : l0.length * 24 ≤ 140737488355328
 ·
  rw [if_pos hb] at h
  obtain rfl := Option.some.inj h
  cases A0 with
  | some ad => exact slices_Clone_S92.some_ ad c0 l0 w hr0 hc0 hb
  | none =>
   have hl : l0.length = 0 := by
    rcases Nat.eq_zero_or_pos l0.length with h0 | h0
    ·
     exact h0
    ·
     obtain ⟨ad, _, e, _⟩ := Kd.C_get hr0 z92 0 (by omega) (by omega)
     cases e
   obtain rfl : l0 = [] := List.eq_nil_of_length_eq_zero hl
   clear hr0 h hb hl
   have hq : ∀ W : World, (binOp .eql 28 (.slice none 0 c0) (.slice none 0 0)).run Try.prog W = .ok (.bool true) W := fun W => Lib.run_eql_slice_nil W _ _ none _ _ _ _ Try.underlying28
   go_enter Try.func132, Try.ntmps132

   go_wp2
   all_goals (try go_ret)
   all_goals exact ⟨_, rfl, Kd.R_nil _ _ _ _ _, by repeat (first | exact Below.refl _ _ | apply below_alloc | apply pw_below_drewN | apply below_drew1)⟩
 ·
  rw [if_neg hb] at h; cases h


/-! ### impl_cloneFlash: function 79 -/
def impl_cloneFlash.f (l0_0 : List ByteArray) (l0_1 : List (S92)) : Option (List ByteArray × (List (S92))) := (slices_Clone_string_string.f l0_0).bind fun t211 => ((slices_Clone_S92.f l0_1).bind fun t214 => (some (t211, t214)))
def impl_cloneFlash.T1 : Bool × List (List Nat × List Nat) := (true, [([], []), ([0], [0]), ([1], [1]), ([], []), ([3], [3]), ([4, 2], [4]), ([2, 5], [2, 5]), ([6, 5, 0, 1, 2, 3, 4, 5, 6], [6])])
def impl_cloneFlash.B1 : List Nat := [0, 1, 3, 0, 8, 31, 63, 127]
theorem impl_cloneFlash.tab1 : rtab .any (opsOf Try.f79 1) = impl_cloneFlash.T1 := by kernel_rfl
theorem impl_cloneFlash.bits1 : waitsOk impl_cloneFlash.T1.2 impl_cloneFlash.B1 = true := by kernel_rfl
set_option maxHeartbeats 8000000 in
set_option maxRecDepth 100000 in
theorem impl_cloneFlash.calls (A0_0 : Option Addr) (c0_0 : Nat) (l0_0 : List ByteArray) (A0_1 : Option Addr) (c0_1 : Nat) (l0_1 : List (S92)) (r1 : List ByteArray) (r2 : List (S92)) (w : World) (hr0_0 : Kd.C Kd.string w A0_0 l0_0.length l0_0) (hc0_0 : l0_0.length ≤ c0_0) (hr0_1 : Kd.C k92 w A0_1 l0_1.length l0_1) (hc0_1 : l0_1.length ≤ c0_1) (h : impl_cloneFlash.f l0_0 l0_1 = some (r1, r2)) :
  Calls Try.prog 79 #[.agg #[.slice A0_0 l0_0.length c0_0, .slice A0_1 l0_1.length c0_1]] w fun e w' => ∃ v0_ v1_ : Value, e = .returned (.agg #[v0_, v1_]) ∧ Kd.R Kd.string 9 w' w.heap.size (fun _ => True) v0_ r1 ∧ Kd.R k92 92 w' w.heap.size (fun _ => True) v1_ r2 ∧ Below w.heap.size w w' := by
 have hu30 := Try.underlying30
 have HR0_0 := zA_ hr0_0
 have HC0_0 := zA_ hc0_0
 clear hr0_0 hc0_0
 have HR0_1 := zA_ hr0_1
 have HC0_1 := zA_ hc0_1
 clear hr0_1 hc0_1
 have HB := zA_ (Below.refl w.heap.size w)
 have H : ((slices_Clone_string_string.f l0_0).bind fun t211 => ((slices_Clone_S92.f l0_1).bind fun t214 => (some (t211, t214)))) = some (r1, r2) := h
 clear h
 replace H := Option.bind_eq_some_iff.mp H
 obtain ⟨t211, A20, H⟩ := H
 replace H : ((slices_Clone_S92.f l0_1).bind fun t214 => (some (t211, t214))) = some (r1, r2) := H
 have A2 := zA_ A20
 clear A20
 replace H := Option.bind_eq_some_iff.mp H
 obtain ⟨t214, A30, H⟩ := H
 replace H : (some (t211, t214)) = some (r1, r2) := H
 have A3 := zA_ A30
 clear A30
 simp only [Option.some.injEq, Prod.mk.injEq] at H
 obtain ⟨rfl, rfl⟩ := H
 go_enter Try.func79, Try.ntmps79
 try go_wp2_with (first | ((with_reducible refine gate_dst (N := 1) rfl ?_); refine box_event ?hg (N := 1) ?hd (cs := #[.slice A0_0 l0_0.length c0_0, .slice A0_1 l0_1.length c0_1]) (t := 30) ?hr ?_; (case hd => rfl); (case hg => rfl); (case hr => first | (go_simp; done) | (go_simp; rfl)); intro gb209 hg w4 hbox hb; have n0_ := zA_ (below_step (zh_ HB.out) hb); have n1_ := zA_ (hbox); have n2_ := zA_ ((by rw [hg]; exact (below_size (zh_ HB.out)) : w.heap.size ≤ gb209)); have n3_ := zA_ ((by rw [hg]; exact (below_size (zh_ HB.out)) : w.heap.size ≤ gb209)); clear HB; have HB := n0_; have BK209 := n1_; have GW209 := n2_; have GE209 := n3_; clear n0_ n1_ n2_ n3_; clear hb hbox hg) | ((with_reducible refine gate_dst (N := 2) rfl ?_); refine box_event ?hg (N := 2) ?hd (cs := #[.slice none 0 0, .slice none 0 0]) (t := 30) ?hr ?_; (case hd => rfl); (case hg => rfl); (case hr => first | (go_simp; done) | (go_simp; rfl)); intro gb210 hg w5 hbox hb; have n0_ := zA_ (blk_below (g := gb209) (o := .cells #[.slice A0_0 l0_0.length c0_0, .slice A0_1 l0_1.length c0_1] 30 (0, 0)) (zb_ BK209.out) hb); have n1_ := zA_ (below_step (zg1_ HB.out GE209.out) hb); have n2_ := zA_ (hbox); have n3_ := zA_ ((by rw [hg]; exact (below_size (zg1_ HB.out GE209.out)) : w.heap.size ≤ gb210)); have n4_ := zA_ ((by rw [hg]; exact (below_size (zg1_ HB.out GE209.out)) : w.heap.size ≤ gb210)); have n5_ := zA_ ((by rw [hg]; exact Nat.ne_of_lt (blk_lt (g := gb209) (o := .cells #[.slice A0_0 l0_0.length c0_0, .slice A0_1 l0_1.length c0_1] 30 (0, 0)) (zb_ BK209.out)) : gb209 ≠ gb210)); have n6_ := zA_ ((by rw [hg]; exact Nat.ne_of_gt (blk_lt (g := gb209) (o := .cells #[.slice A0_0 l0_0.length c0_0, .slice A0_1 l0_1.length c0_1] 30 (0, 0)) (zb_ BK209.out)) : gb210 ≠ gb209)); clear BK209 HB; have BK209 := n0_; have HB := n1_; have BK210 := n2_; have GW210 := n3_; have GE210 := n4_; have NB209_210 := n5_; have NB210_209 := n6_; clear n0_ n1_ n2_ n3_ n4_ n5_ n6_; clear hb hbox hg))
 have n0_ := zA_ (blk_drew BK209.out)
 have n1_ := zA_ (blk_drew BK210.out)
 have n2_ := zA_ (below_drew1 HB.out)
 clear BK209 BK210 HB
 have BK209 := n0_
 have BK210 := n1_
 have HB := n2_
 clear n0_ n1_ n2_
 refine start_ (n := 8) (S := fun w' => w'.cell? ⟨gb209, 0, none⟩ = some (.slice A0_0 l0_0.length c0_0) ∧ w'.cell? ⟨gb209, 1, none⟩ = some (.slice A0_1 l0_1.length c0_1)) (ds := []) #[false, false, false, false, false, false, false, false] (by kernel_rfl) rfl rfl ⟨(blk_cell BK209.out 0).trans rfl, (blk_cell BK209.out 1).trans rfl⟩ (fun hHeld => ?_); refine with_tabW impl_cloneFlash.tab1 impl_cloneFlash.bits1 (fun HT_ HW_ => ?_)
 generalize w5.drew = w6 at BK209 BK210 HB hHeld ⊢
 refine pure_ (i := 0) (N := some 3) (v := ?_) (a' := ?_) #[true, false, false, false, false, false, false, false] rfl rfl (any_of HT_.out (by kernel_rfl)) (fun _ _ _ h => h) (Or.inl ⟨by rfl, ?_⟩) ?_ ?_
 rotate_left
 ·
  intro w'
  go_simp
  with_reducible rfl
 rotate_left
 ·
  simp only [Act.put, List.setIfInBounds_toArray, List.set_cons_zero, List.set_cons_succ, i64_w, i32_w]
  rfl
 refine pure_ (i := 3) (N := some 6) (v := ?_) (a' := ?_) #[true, false, false, true, false, false, false, false] rfl rfl (any_of HT_.out (by kernel_rfl)) (fun _ _ _ h => h) (Or.inl ⟨by rfl, ?_⟩) ?_ ?_
 rotate_left
 ·
  intro w'
  go_simp
  with_reducible rfl
 rotate_left
 ·
  simp only [Act.put, List.setIfInBounds_toArray, List.set_cons_zero, List.set_cons_succ, i64_w, i32_w]
  rfl
 refine take_ (i := 1) (N := some 4) (v := ?_) (a' := ?_) #[true, true, false, true, false, false, false, false] rfl rfl (take_ofW HT_.out HW_.out (by kernel_rfl)) (fun _ _ _ h => h) (Or.inl ⟨by rfl, ?_⟩) hHeld ?_ ?_
 rotate_left
 ·
  rintro w' ⟨s0, s1⟩
  go_simp
  with_reducible rfl
 rotate_left
 ·
  simp only [Act.put, List.setIfInBounds_toArray, List.set_cons_zero, List.set_cons_succ, i64_w, i32_w]
  rfl
 refine take_ (i := 4) (N := some 7) (v := ?_) (a' := ?_) #[true, true, false, true, true, false, false, false] rfl rfl (take_ofW HT_.out HW_.out (by kernel_rfl)) (fun _ _ _ h => h) (Or.inl ⟨by rfl, ?_⟩) hHeld ?_ ?_
 rotate_left
 ·
  rintro w' ⟨s0, s1⟩
  go_simp
  with_reducible rfl
 rotate_left
 ·
  simp only [Act.put, List.setIfInBounds_toArray, List.set_cons_zero, List.set_cons_succ, i64_w, i32_w]
  rfl
 refine one_ (i := 2) (N := some 5) #[true, true, true, true, true, false, false, false] rfl rfl (one_of HT_.out (by kernel_rfl)) (by decide) (fun K hK => ?_)
 refine goes_ Try.func131 (by kernel_rfl) rfl #[.slice A0_0 l0_0.length c0_0] (by rfl) rfl rfl zs_ ?_
 with_reducible refine (slices_Clone_string_string.calls _ _ l0_0 t211 _ ?side1 ?side2 A2.out).mono ?_
 (case side1 => exact zc_ (Kd.C_below HR0_0.out HB.out))
 (case side2 => exact HC0_0.out)
 rintro e w7 ⟨v212, rfl, ho0, hb⟩
 refine ⟨_, rfl, ?_⟩
 have n0_ := zA_ (Kd.R_lower ho0 (below_size (zg2_ HB.out GE209.out GE210.out)))
 have n1_ := zA_ (blk_below (g := gb209) (o := .cells #[.slice A0_0 l0_0.length c0_0, .slice A0_1 l0_1.length c0_1] 30 (0, 0)) (zb_ BK209.out) hb)
 have n2_ := zA_ (blk_below (g := gb210) (o := .cells #[.slice none 0 0, .slice none 0 0] 30 (0, 0)) (zb_ BK210.out) hb)
 have n3_ := zA_ (below_step (zg2_ HB.out GE209.out GE210.out) hb)
 clear BK209 BK210 HB
 have HO213 := n0_
 have BK209 := n1_
 have BK210 := n2_
 have HB := n3_
 clear n0_ n1_ n2_ n3_
 (try clear hb)
 (try clear hb2)
 (try clear hk)
 (try clear hi)
 (try clear ho0)
 refine hK.out _ _ ⟨(blk_cell BK209.out 0).trans rfl, (blk_cell BK209.out 1).trans rfl⟩ (fun hHeld => ?_)
 clear hK K
 refine norm_ (a' := ?_) ?_ ?_
 rotate_left
 ·
  show Act.put _ (some 5) _ = _
  simp only [Act.put, List.setIfInBounds_toArray, List.set_cons_zero, List.set_cons_succ, i64_w, i32_w]
  rfl
 refine one_ (i := 5) (N := some 8) #[true, true, true, true, true, true, false, false] rfl rfl (one_of HT_.out (by kernel_rfl)) (by decide) (fun K hK => ?_)
 refine goes_ Try.func132 (by kernel_rfl) rfl #[.slice A0_1 l0_1.length c0_1] (by rfl) rfl rfl zs_ ?_
 with_reducible refine (slices_Clone_S92.calls _ _ l0_1 t214 _ ?side1 ?side2 A3.out).mono ?_
 (case side1 => exact zc_ (Kd.C_below HR0_1.out HB.out))
 (case side2 => exact HC0_1.out)
 rintro e w8 ⟨v215, rfl, ho0, hb⟩
 refine ⟨_, rfl, ?_⟩
 have n0_ := zA_ (Kd.R_below (zr_ HO213.out) hb)
 have n1_ := zA_ (Kd.R_lower ho0 (below_size (zg2_ HB.out GE209.out GE210.out)))
 have n2_ := zA_ (blk_below (g := gb209) (o := .cells #[.slice A0_0 l0_0.length c0_0, .slice A0_1 l0_1.length c0_1] 30 (0, 0)) (zb_ BK209.out) hb)
 have n3_ := zA_ (blk_below (g := gb210) (o := .cells #[.slice none 0 0, .slice none 0 0] 30 (0, 0)) (zb_ BK210.out) hb)
 have n4_ := zA_ (below_step (zg2_ HB.out GE209.out GE210.out) hb)
 clear HO213 BK209 BK210 HB
 have HO213 := n0_
 have HO216 := n1_
 have BK209 := n2_
 have BK210 := n3_
 have HB := n4_
 clear n0_ n1_ n2_ n3_ n4_
 (try clear hb)
 (try clear hb2)
 (try clear hk)
 (try clear hi)
 (try clear ho0)
 obtain ⟨Ao9, co9, eo9⟩ := Kd.R_slice HO216.out
 (first | subst eo9 | (injection eo9 with f1_ f2_ f3_; have f4_ := f1_.symm; have f5_ := f3_.symm; clear f1_ f2_ f3_; subst f4_; subst f5_))
 obtain ⟨Ao10, co10, eo10⟩ := Kd.R_slice HO213.out
 (first | subst eo10 | (injection eo10 with f1_ f2_ f3_; have f4_ := f1_.symm; have f5_ := f3_.symm; clear f1_ f2_ f3_; subst f4_; subst f5_))
 refine hK.out _ _ ⟨(blk_cell BK209.out 0).trans rfl, (blk_cell BK209.out 1).trans rfl⟩ (fun hHeld => ?_)
 clear hK K
 refine norm_ (a' := ?_) ?_ ?_
 rotate_left
 ·
  show Act.put _ (some 8) _ = _
  simp only [Act.put, List.setIfInBounds_toArray, List.set_cons_zero, List.set_cons_succ, i64_w, i32_w]
  rfl
 refine pure_ (i := 6) (N := some 9) (v := ?_) (a' := ?_) #[true, true, true, true, true, true, true, false] rfl rfl (any_of HT_.out (by kernel_rfl)) (fun _ _ _ h => h) (Or.inl ⟨by rfl, ?_⟩) ?_ ?_
 rotate_left
 ·
  intro w'
  go_simp
  with_reducible rfl
 rotate_left
 ·
  simp only [Act.put, List.setIfInBounds_toArray, List.set_cons_zero, List.set_cons_succ, i64_w, i32_w]
  rfl
 refine one_ (i := 7) (N := none) #[true, true, true, true, true, true, true, true] rfl rfl (one_of HT_.out (by kernel_rfl)) (by decide) (fun K hK => ?_)
 have hs11 : w8.cell? ⟨gb210, 0, none⟩ = some (.slice none 0 0) := (blk_cell BK210.out 0).trans rfl
 have hfs11 := blk_frozen BK210.out 0
 have hns11_0 := NB209_210.out
 have hms11_0 := NB210_209.out
 have hs12 : w8.cell? ⟨gb210, 1, none⟩ = some (.slice none 0 0) := (blk_cell BK210.out 1).trans rfl
 have hfs12 := blk_frozen BK210.out 1
 have hns12_0 := NB209_210.out
 have hms12_0 := NB210_209.out
 refine skip_ (w1 := ?_) (by rfl) rfl ?_ ?_
 rotate_left
 ·
  go_simp
  rfl
 refine hK.out _ _ ⟨((cell_far (p := ⟨gb210, _, none⟩) NB209_210.out _).trans (((cell_far (p := ⟨gb210, _, none⟩) NB209_210.out _).trans (hHeld.1)))), ((cell_far (p := ⟨gb210, _, none⟩) NB209_210.out _).trans (((cell_far (p := ⟨gb210, _, none⟩) NB209_210.out _).trans (hHeld.2))))⟩ (fun hHeld => ?_)
 clear hK K
 refine done_ (done_of HT_.out (by kernel_rfl)) ?_
 try go_wp2
 refine bodyPost_ret (results_cell_row rfl _ _ gb210 30 #[.slice Ao10 t211.length co10, .slice Ao9 t214.length co9] (0, 0) _ rfl (by (with_reducible repeat (first | refine blk_drewN ?_ _ | refine blk_drew ?_ | refine blk_alloc ?_ _)); refine blk_put (cs := #[.slice Ao10 t211.length co10, .slice none 0 0]) ?_ 1 _ rfl; (with_reducible repeat (first | refine blk_drewN ?_ _ | refine blk_drew ?_ | refine blk_alloc ?_ _)); refine blk_put (cs := #[.slice none 0 0, .slice none 0 0]) ?_ 0 _ rfl; (with_reducible repeat (first | refine blk_drewN ?_ _ | refine blk_drew ?_ | refine blk_alloc ?_ _)); exact BK210.out) Try.underlying30 rfl (by kernel_rfl)) rfl ?_
 exact ⟨_, _, by first | rfl | (simp [errW_none, errW_some] <;> rfl) | (simp [*, errW_none, errW_some] <;> rfl), by (with_reducible repeat (first | apply Kd.R_alloc | apply Kd.R_drewN | apply Kd.R_drew)); exact Kd.R_mono (Kd.R_far (p := ⟨gb210, 1, none⟩) (Kd.R_far (p := ⟨gb210, 0, none⟩) (Kd.R_types HO213.out BK210.out (by decide)) (fun _ hk => hk.2) (.slice Ao10 t211.length co10)) (fun _ hk => hk.2) (.slice Ao9 t214.length co9)) (fun _ hk => trivial), by (with_reducible repeat (first | apply Kd.R_alloc | apply Kd.R_drewN | apply Kd.R_drew)); exact Kd.R_mono (Kd.R_far (p := ⟨gb210, 1, none⟩) (Kd.R_far (p := ⟨gb210, 0, none⟩) (Kd.R_types HO216.out BK210.out (by decide)) (fun _ hk => hk.2) (.slice Ao10 t211.length co10)) (fun _ hk => hk.2) (.slice Ao9 t214.length co9)) (fun _ hk => trivial), by repeat (first | (with_reducible first | exact HB.out | apply below_alloc | apply pw_below_drewN | apply below_drew1 | refine below_set ?_ GE209.out | refine below_set ?_ GE210.out) | exact HB.out)⟩

-- NOT PRINTED: function 80 (impl_Flash_sync)

/-! ### impl_FlashSync: function 20 -/
/-- A flash in memory of its own: at block g; both its rows are its own. -/
def FB (W : World) (base g : Nat) (S : List ByteArray) (D : List S92) : Prop :=
 ∃ v0 v1, W.heap[g]? = some (.cells #[v0, v1] 30 (0, 0)) ∧ base ≤ g ∧ Kd.R Kd.string 9 W base (fun _ => True) v0 S ∧ Kd.R k92 92 W base (fun _ => True) v1 D
theorem FB.below {W W1 : World} {base g : Nat} {S : List ByteArray} {D : List S92} (h : FB W base g S D) (hb : Below W.heap.size W W1) : FB W1 base g S D := by
 obtain ⟨v0, v1, h1, h2, h3, h4⟩ := h
 exact ⟨v0, v1, blk_below h1 hb, h2, Kd.R_below h3 hb, Kd.R_below h4 hb⟩
def impl_Flash_put (S : List ByteArray) (D : List S92) (at_ : Int) (d : ByteArray) : List S92 :=
 if 0 ≤ idxFrom (impl_Flash_dirty.is at_) D 0 then D.set (idxFrom (impl_Flash_dirty.is at_) D 0).toNat ⟨(rd_T92 D (idxFrom (impl_Flash_dirty.is at_) D 0)).f0, d⟩ else D ++ [⟨at_, d⟩]
theorem idxFrom_lt {α : Type} (p : α → Bool) : ∀ (l : List α) (i : Int), idxFrom p l i < i + l.length ∨ idxFrom p l i = -1 := by
 intro l
 induction l with
 | nil => intro i; exact .inr rfl
 | cons x r ih =>
  intro i
  rw [idxFrom]
  split
  ·
   left; simp only [List.length_cons]; omega
  ·
   rcases ih (i + 1) with h | h
   ·
    left; simp only [List.length_cons]; omega
   ·
    exact .inr h
set_option maxHeartbeats 8000000 in
set_option maxRecDepth 100000 in
theorem impl_Flash_write.calls (w0 : World) (base g : Nat) (S : List ByteArray) (D : List S92) (at_ : Int) (d : ByteArray) (w : World) (hF : FB w base g S D) (hB : Below base w0 w) (hbase : base ≤ w.heap.size) (hbig : D.length ≤ 1000000) :
  Calls Try.prog 92 #[.pointer (some ⟨g, 0, none⟩), .int .i64 at_, .string d] w fun e w' => e = .returned (.tuple #[]) ∧ FB w' base g S (impl_Flash_put S D at_ d) ∧ Below base w0 w' ∧ w.heap.size ≤ w'.heap.size := by
 have hu30 := Try.underlying30
 have hu92 := Try.underlying92
 obtain ⟨v0, v1, hblk, hge, hS, hD⟩ := hF
 obtain ⟨A0, c0, rfl, hc0, hC0⟩ := Kd.R_reads hS
 obtain ⟨A1, c1, rfl, hc1, hC1⟩ := Kd.R_reads hD
 have htch : impl_Flash_dirty.f S D at_ = some (idxFrom (impl_Flash_dirty.is at_) D 0) := by unfold impl_Flash_dirty.f; rw [if_pos (by omega)]
 unfold impl_Flash_put
 have hlt := idxFrom_lt (impl_Flash_dirty.is at_) D 0
 generalize idxFrom (impl_Flash_dirty.is at_) D 0 = ix at htch hlt ⊢
 have HT := zA_ htch
 have b0 := (blk_cell hblk 0).trans (rfl : _ = some (Value.slice A0 S.length c0))
 have b1 := (blk_cell hblk 1).trans (rfl : _ = some (Value.slice A1 D.length c1))
 have HBLK := zA_ hblk
 have HGE := zA_ hge
 have HS := zA_ hS
 have HD := zA_ hD
 have HB := zA_ hB
 have HBASE := zA_ hbase
 have HC0 := zA_ hc0
 have HC1 := zA_ hc1
 have HR0 := zA_ hC0
 have HR1 := zA_ hC1
 have HBIG := zA_ hbig
 clear hblk hge hS hD hB hbase hc0 hc1 hC0 hC1 htch hbig
 by_cases hix : 0 ≤ ix
 ·
  rw [if_pos hix]
  have hixb : decide (0 ≤ ix) = true := decide_eq_true hix
  have hixl : ix < (D.length : Int) := by omega
  have HIX := zA_ (And.intro hix hixl)
  clear hix hixl hlt
  go_enter Try.func92, Try.ntmps92
  go_wp2_with (fail)
  go_at_call 129
  refine (impl_Flash_dirty.calls A0 c0 S A1 c1 D at_ ix _ (by exact HR0.out) HC0.out (by exact HR1.out) HC1.out HT.out).mono ?_
  rintro e w2 ⟨rfl, hb2⟩
  have HB2 := zA_ (below_then HB.out HBASE.out hb2)
  have HSZ := zA_ hb2.size
  have hblk2 := blk_below HBLK.out hb2
  have HBLK2 := zA_ hblk2
  have HS2 := zA_ (Kd.R_below HS.out hb2)
  have hD2 := Kd.R_below HD.out hb2
  have b0 := (blk_cell hblk2 0).trans (rfl : _ = some (Value.slice A0 S.length c0))
  have b1 := (blk_cell hblk2 1).trans (rfl : _ = some (Value.slice A1 D.length c1))
  obtain ⟨gd, cp, ef, hged, hgdl, cells, hcells⟩ := Kd.R_form hD2 (by have := HIX.out; omega)
  cases ef
  obtain ⟨ce, hcl, hM, hcc, hfr⟩ := Kd.R_elem hD2 z92 ix HIX.out.1 HIX.out.2
  obtain rfl := k92_openM hM
  have HP := zA_ (Kd.R_seg hD2 ix HIX.out.1 HIX.out.2 (seg := [.string d]) (j := 1) hcl hcc (show 2 ≤ 2 from by decide) (x' := (⟨(rd_T92 D ix).f0, d⟩ : S92)) (k92_mkM _ _ _ (⟨(rd_T92 D ix).f0, d⟩ : S92)) (fun _ hk => hk))
  have i1 : w2.cell? ⟨gd, ix.toNat * 2 + 1, none⟩ = some _ := hcc 1 _ rfl
  have f1 : w2.frozen? ⟨gd, ix.toNat * 2 + 1, none⟩ = false := hfr 1
  have HNE := zA_ (Kd.R_ne hD2 hblk2 (by decide))
  have HD2 := zA_ hD2
  have HGD := zA_ hged
  have p0 : (0 : Int) ≤ ix := HIX.out.1
  have p1 : ix < (D.length : Int) := HIX.out.2
  clear hb2 hblk2 hcl hM hcc hfr hcells hgdl hged hD2
  go_wp2
  (first | go_end0 | ((try simp only [Exit.inBlock, Exit.then]); refine bodyPost_ret (results_none rfl _ _ _) rfl ?_))
  have hg : w2.grownBy (w2.setCell ⟨gd, ix.toNat * 2 + 1, none⟩ (.string d)) (some gd) := HP.out.2
  refine ⟨rfl, ⟨_, _, blk_grown HBLK2.out hg (by have := HNE.out; simpa [Value.ownBlock] using this), HGE.out, Kd.R_over HS2.out HD2.out (by decide) hg, HP.out.1⟩, HB2.out.setCell HGD.out _, ?_⟩
  have h1 := hg.size
  have h2 := HSZ.out
  omega
 ·
  rw [if_neg hix]
  have hixb : decide (0 ≤ ix) = false := decide_eq_false hix
  clear hix hlt
  go_enter Try.func92, Try.ntmps92
  go_wp2_with (fail)
  go_at_call 129
  refine (impl_Flash_dirty.calls A0 c0 S A1 c1 D at_ ix _ (by exact HR0.out) HC0.out (by exact HR1.out) HC1.out HT.out).mono ?_
  rintro e w2 ⟨rfl, hb2⟩
  have HB2 := zA_ (below_then HB.out HBASE.out hb2)
  have HBASE2 := zA_ (Nat.le_trans HBASE.out hb2.size)
  have HSZ := zA_ hb2.size
  have hblk2 := blk_below HBLK.out hb2
  have HBLK2 := zA_ hblk2
  have HS2 := zA_ (Kd.R_below HS.out hb2)
  have hD2 := Kd.R_below HD.out hb2
  have b0 := (blk_cell hblk2 0).trans (rfl : _ = some (Value.slice A0 S.length c0))
  have b1 := (blk_cell hblk2 1).trans (rfl : _ = some (Value.slice A1 D.length c1))
  have HNE := zA_ (Kd.R_ne hD2 hblk2 (by decide))
  have HD2 := zA_ hD2
  clear hb2 hD2 hblk2
  go_wp2_with ((with_reducible refine gate_builtin (b := .append) (xs := #[.tmp 26, .tmp 30]) rfl ?_); at_builtin; refine Kd.R_append k92 (w0 := w0) base rfl (.tmp 26) (.tmp 30) 28 92 (.agg #[.int .i64 0, .string ⟨#[]⟩]) 24 rfl Try.underlying28 info92 rfl (by decide) (by omega) (.slice A1 D.length c1) D (⟨at_, d⟩ : S92) [.int .i64 at_, .string d] (fun _ => True) (fun _ => False) rfl rfl ?aP (fun _ hk => hk.elim) ?aF ?aO ?aB ?aS ?aL ?_; (case aP => exact k92_mkM _ _ _ (⟨at_, d⟩ : S92)); (case aB => exact HB2.out); (case aF => exact (fun _ _ => trivial)); (case aO => exact HD2.out); (case aS => exact HBASE2.out); (case aL => have := HBIG.out; omega); intro v3 w3 ho hb hg hat; obtain ⟨A3, c3, rfl⟩ := Kd.R_slice ho; have HO3 := zA_ ho; have HB3 := zA_ hb; have HG3 := zA_ hg; have hblk3 := blk_grown HBLK2.out hg HNE.out; have HBLK3 := zA_ hblk3; have s1 := blk_cell hblk3 1; have s2 := blk_frozen hblk3 1; clear ho hb hg hat hblk3)
  (first | go_end0 | ((try simp only [Exit.inBlock, Exit.then]); refine bodyPost_ret (results_none rfl _ _ _) rfl ?_))
  refine ⟨rfl, ⟨_, _, by have := blk_set HBLK3.out 1 (.slice A3 (D ++ [(⟨at_, d⟩ : S92)]).length c3); simpa using this, HGE.out, Kd.R_set (Kd.R_over HS2.out HD2.out (by decide) HG3.out) HBLK3.out (by decide) 1 _, Kd.R_set HO3.out HBLK3.out (by decide) 1 _⟩, HB3.out.setCell HGE.out _, ?_⟩
  have h1 := HG3.out.size
  have h2 := HSZ.out
  simp
  omega

theorem FB.still {P : Program} {id : Nat} {Q : Exit → Act → World → Prop} {a : Act} {w : World} {l : List Oper} (n : Nat) (hm : P.follows .mixedOrders = true) (hB : Region.lexTailB .any l.toArray n = true)
  (h : wpStill P l.toArray w.drew (fun a' => wpList P l.toArray Q (l.drop n) a' w.drew) (l.take n) a) : (Code.region id l.toArray true).wp P Q a w := wp_region_still_tail n hm hB h
def impl_Flash_synced (S : List ByteArray) : List S92 → List ByteArray
 | [] => S
 | x :: r => impl_Flash_synced (S.set x.f0.toNat x.f1) r
set_option maxHeartbeats 8000000 in
set_option maxRecDepth 100000 in
theorem impl_Flash_sync.calls (w0 : World) (base g : Nat) (S : List ByteArray) (D : List S92) (w : World) (hF : FB w base g S D) (hB : Below base w0 w) (hbase : base ≤ w.heap.size) (hbig : D.length ≤ 1000000) (hat : ∀ x ∈ D, 0 ≤ x.f0 ∧ x.f0 < (S.length : Int)) :
  Calls Try.prog 80 #[.pointer (some ⟨g, 0, none⟩)] w fun e w' => e = .returned (.tuple #[]) ∧ FB w' base g (impl_Flash_synced S D) [] ∧ Below base w0 w' ∧ w.heap.size ≤ w'.heap.size := by
 have hu30 := Try.underlying30
 have hu92 := Try.underlying92
 obtain ⟨v0, v1, hblk, hge, hS, hD⟩ := hF
 obtain ⟨A0, c0, rfl, hc0, hC0⟩ := Kd.R_reads hS
 obtain ⟨A1, c1, rfl, hc1, hC1⟩ := Kd.R_reads hD
 have b0 := (blk_cell hblk 0).trans (rfl : _ = some (Value.slice A0 S.length c0))
 have b1 := (blk_cell hblk 1).trans (rfl : _ = some (Value.slice A1 D.length c1))
 have HBLK := zA_ hblk
 have HGE := zA_ hge
 have HS := zA_ hS
 have HD := zA_ hD
 have HB := zA_ hB
 have HBASE := zA_ hbase
 have HBIG := zA_ hbig
 have HAT := zA_ hat
 clear hblk hge hS hD hB hbase hc0 hc1 hC0 hC1 hbig hat
 go_enter Try.func80, Try.ntmps80
 go_wp2_with (fail)
 clear b0 b1
 go_loopg [3, 9] D.length (fun gg _ v9 wr => ∃ (kk : Nat) (S' : List ByteArray), v9 = .int .i64 kk ∧ Aside0 (kk ≤ D.length ∧ D.length - kk ≤ gg ∧ S'.length = S.length ∧ w.heap.size ≤ wr.heap.size) ∧ Aside0 (wr.heap[g]? = some (.cells #[.slice A0 S.length c0, .slice A1 D.length c1] 30 (0, 0))) ∧ Aside0 (Kd.R Kd.string 9 wr base (fun _ => True) (.slice A0 S.length c0) S') ∧ Aside0 (Kd.R k92 92 wr base (fun _ => True) (.slice A1 D.length c1) D) ∧ Aside0 (Below base w0 wr) ∧ Aside0 (impl_Flash_synced S D = impl_Flash_synced S' (D.drop kk)))
 case atStart => exact ⟨0, S, rfl, ⟨by omega⟩, HBLK, HS, HD, HB, ⟨rfl⟩⟩
 case round =>
  clear HBLK HS HD HB
  obtain ⟨kk, S', rfl, HN, HBLK, HS, HD, HB, HX⟩ := hrel
  by_cases hlt : kk < D.length
  ·
   have hltz : decide ((kk : Int) < (D.length : Int)) = true := decide_eq_true (by omega)
   have pk : (0 : Int) ≤ (kk : Int) := by omega
   have qk : (kk : Int) < (D.length : Int) := by omega
   have hC1 := (Kd.R_reads' HD.out).2.2
   obtain ⟨ad, rfl, hx0, hx1⟩ := at_T92 hC1 (kk : Int) pk qk
   have hy : rd_T92 D (kk : Int) = D[kk] := by simp [rd_T92, hlt]
   rw [hy] at hx0 hx1
   simp only [Int.toNat_natCast] at hx0 hx1
   have hax := HAT.out D[kk] (List.getElem_mem hlt)
   have HX2 := HX.out
   rw [idxFrom_drop D kk hlt, impl_Flash_synced] at HX2
   clear HX hy hC1
   generalize D[kk] = x at hx0 hx1 hax HX2
   have HX := zA_ HX2
   clear HX2
   obtain ⟨gs, cp, ef, hgs, hgsl, cells, hcells⟩ := Kd.R_form HS.out (by have := HN.out; omega)
   have hS'l := HN.out.2.2.1
   rw [hS'l] at ef
   cases ef
   have hSA := Kd.R_alloc HS.out (.cells #[.int .i64 x.f0, .string x.f1] 92)
   obtain ⟨ce, hcl, hM, hcc, hfr⟩ := Kd.R_elem hSA ByteArray.empty x.f0 hax.1 (by omega)
   have HP := zA_ (Kd.R_seg hSA x.f0 hax.1 (by omega) (seg := [.string x.f1]) (j := 0) (okp := fun _ => False) hcl hcc (Nat.le_refl 1) (x' := x.f1) (by obtain rfl := (show ce = [_] from hM); exact rfl) (fun _ hk => hk.elim))
   have HP1 := HP.out
   simp only [show Kd.string.sz = 1 from rfl, Nat.mul_one, Nat.add_zero] at hcc hfr HP1
   have HPP := zA_ HP1
   obtain rfl := (show ce = [_] from hM)
   have i0 := hcc 0 _ rfl
   have f0 := hfr 0
   simp only [Nat.add_zero] at i0 f0
   have hb0 : ∀ o, (wr.alloc o).cell? ⟨g, 0, none⟩ = some (.slice (some ⟨gs, 0, none⟩) S.length c0) := fun o => (blk_cell (blk_alloc HBLK.out o) 0).trans rfl
   have hb1 : ∀ o, (wr.alloc o).cell? ⟨g, 1, none⟩ = some (.slice (some ad) D.length c1) := fun o => (blk_cell (blk_alloc HBLK.out o) 1).trans rfl
   have px : (0 : Int) ≤ x.f0 := hax.1
   have qx : x.f0 < (S.length : Int) := hax.2
   have HGS := zA_ hgs
   have ek : wrap64 ((kk : Int) + 1) = ((kk + 1 : Nat) : Int) := by have := HBIG.out; unfold wrap64; omega
   have HBA := zA_ (HB.out.alloc (show base ≤ wr.heap.size by have := HN.out; have := HBASE.out; omega) (.cells #[.int .i64 x.f0, .string x.f1] 92))
   have HDA := zA_ (Kd.R_alloc HD.out (.cells #[.int .i64 x.f0, .string x.f1] 92))
   have HBLKA := zA_ (blk_alloc HBLK.out (.cells #[.int .i64 x.f0, .string x.f1] 92))
   have HSA := zA_ hSA
   have HNE := zA_ (Kd.R_ne hSA HBLKA.out (by decide))
   clear hSA hcl hM hcc hfr HP HP1 hgs hgsl hcells hax
   go_wp2
   refine FB.still 8 (by kernel_rfl) (by kernel_rfl) ?_
   simp only [List.take_succ_cons, List.take_zero, List.drop_succ_cons, List.drop_zero]
   repeat still_step
   refine wpStill_nil ?_
   go_wp2
   go_roundg (D.length - (kk + 1))
   case measure => have := HN.out; omega
   case rel =>
    have hg := HPP.out.2
    refine ⟨kk + 1, S'.set x.f0.toNat x.f1, by rw [ek], ⟨by omega, Nat.le_refl _, by rw [List.length_set]; exact HN.out.2.2.1, ?_⟩, ⟨blk_drew (blk_grown HBLKA.out hg (by have := HNE.out; simpa [Value.ownBlock] using this))⟩, ⟨Kd.R_drew HPP.out.1⟩, ⟨Kd.R_drew (Kd.R_over HDA.out HSA.out (by decide) hg)⟩, ⟨below_drew (HBA.out.setCell HGS.out _)⟩, ⟨by rw [HX.out]⟩⟩
    have h1 : (wr.alloc (.cells #[.int .i64 x.f0, .string x.f1] 92)).heap.size ≤ _ := hg.size
    have h2 := HN.out
    simp only [World.alloc, Array.size_push] at h1
    exact Nat.le_trans (show w.heap.size ≤ wr.heap.size + 1 by omega) h1
  ·
   obtain rfl : kk = D.length := by have := HN.out; omega
   have hltz : decide ((D.length : Int) < (D.length : Int)) = false := decide_eq_false (by omega)
   have s1 := blk_cell HBLK.out 1
   have s2 := blk_frozen HBLK.out 1
   have HX2 := HX.out
   rw [List.drop_length, impl_Flash_synced] at HX2
   go_wp2
   (first | go_end0 | ((try simp only [Exit.inBlock, Exit.then]); refine bodyPost_ret (results_none rfl _ _ _) rfl ?_))
   (try rw [HX2])
   refine ⟨rfl, ⟨_, _, by have := blk_set HBLK.out 1 (.slice none 0 0); simpa using this, HGE.out, Kd.R_set HS.out HBLK.out (by decide) 1 _, Kd.R_nil _ _ _ _ _⟩, HB.out.setCell HGE.out _, ?_⟩
   have h2 := HN.out
   simp
   omega

theorem FB.out4 {α : Type} {d : Kd α} {e : Nat} {W : World} {base g : Nat} {cs : Array Value} {v : Value} {xs : List α} (h : d.R e W base (fun _ => True) v xs) (hb : W.heap[g]? = some (.cells cs 35 (0, 0))) (ht : ∀ q, q ∈ e :: d.E → q ≠ 35) (a b c f : Value) :
  d.R e ((((W.setCell ⟨g, 0, none⟩ a).setCell ⟨g, 1, none⟩ b).setCell ⟨g, 2, none⟩ c).setCell ⟨g, 3, none⟩ f) base (fun _ => True) v xs :=
 Kd.R_mono (Kd.R_far (p := ⟨g, 3, none⟩) (Kd.R_far (p := ⟨g, 2, none⟩) (Kd.R_far (p := ⟨g, 1, none⟩) (Kd.R_far (p := ⟨g, 0, none⟩) (Kd.R_types h hb ht) (fun _ hk => hk.2) a) (fun _ hk => hk.2) b) (fun _ hk => hk.2) c) (fun _ hk => hk.2) f) (fun _ _ => trivial)

def impl_FlashSync.okD (S : List ByteArray) (D : List S92) : Bool := decide (D.length ≤ 1000000) && D.all (fun x => decide (0 ≤ x.f0 ∧ x.f0 < (S.length : Int)))
def impl_FlashSync.f (l0_0 : List ByteArray) (l0_1 : List S92) : Option (List ByteArray × List S92 × ByteArray × Int) :=
 (impl_isFlash.f l0_0 l0_1).bind fun t => (if t = true then ((impl_cloneFlash.f l0_0 l0_1).bind fun c => (if impl_FlashSync.okD c.1 c.2 = true then some (impl_Flash_synced c.1 c.2, ([] : List S92), (⟨#[]⟩ : ByteArray), (0 : Int)) else none)) else some (([] : List ByteArray), ([] : List S92), (⟨#[]⟩ : ByteArray), (1 : Int)))
set_option maxHeartbeats 8000000 in
set_option maxRecDepth 100000 in
theorem impl_FlashSync.calls (A0_0 : Option Addr) (c0_0 : Nat) (l0_0 : List ByteArray) (A0_1 : Option Addr) (c0_1 : Nat) (l0_1 : List S92) (r1 : List ByteArray) (r2 : List S92) (r3 : ByteArray) (r4 : Int) (w : World) (hr0_0 : Kd.C Kd.string w A0_0 l0_0.length l0_0) (hc0_0 : l0_0.length ≤ c0_0) (hr0_1 : Kd.C k92 w A0_1 l0_1.length l0_1) (hc0_1 : l0_1.length ≤ c0_1) (h : impl_FlashSync.f l0_0 l0_1 = some (r1, r2, r3, r4)) :
  Calls Try.prog 20 #[.agg #[.slice A0_0 l0_0.length c0_0, .slice A0_1 l0_1.length c0_1]] w fun e w' => ∃ v0_ v1_ : Value, e = .returned (.agg #[v0_, v1_, .string r3, .int .i64 r4]) ∧ Kd.R Kd.string 9 w' w.heap.size (fun _ => True) v0_ r1 ∧ Kd.R k92 92 w' w.heap.size (fun _ => True) v1_ r2 ∧ Below w.heap.size w w' := by
 unfold impl_FlashSync.f at h
 have hu30 := Try.underlying30
 have hu35 := Try.underlying35
 obtain ⟨t, ht, h⟩ := Option.bind_eq_some_iff.1 h
 have HF := zA_ ht
 clear ht
 have HR0 := zA_ hr0_0
 have HC0 := zA_ hc0_0
 have HR1 := zA_ hr0_1
 have HC1 := zA_ hc0_1
 clear hr0_0 hc0_0 hr0_1 hc0_1
 have HX0 := zA_ (blk_alloc (blk_new w (.cells #[.slice A0_0 l0_0.length c0_0, .slice A0_1 l0_1.length c0_1] 30)) (.cells #[.slice none 0 0, .slice none 0 0, .string ⟨#[]⟩, .int .i64 0] 35))
 have hx1_ := blk_new (w.alloc (.cells #[.slice A0_0 l0_0.length c0_0, .slice A0_1 l0_1.length c0_1] 30)) (.cells #[.slice none 0 0, .slice none 0 0, .string ⟨#[]⟩, .int .i64 0] 35)
 rw [show (w.alloc (.cells #[.slice A0_0 l0_0.length c0_0, .slice A0_1 l0_1.length c0_1] 30)).heap.size = w.heap.size + 1 from by simp] at hx1_
 have HX1 := zA_ hx1_
 clear hx1_
 have HW0 := zA_ (show Below w.heap.size w ((w.alloc (.cells #[.slice A0_0 l0_0.length c0_0, .slice A0_1 l0_1.length c0_1] 30)).alloc (.cells #[.slice none 0 0, .slice none 0 0, .string ⟨#[]⟩, .int .i64 0] 35)) from below_alloc (below_alloc (Below.refl _ _) _) _)
 cases t with
 | true =>
  simp only [if_true] at h
  obtain ⟨c, hc, h⟩ := Option.bind_eq_some_iff.1 h
  obtain ⟨cS, cD⟩ := c
  by_cases hok : impl_FlashSync.okD cS cD = true
  ·
   simp only [hok, if_true, Option.some.injEq, Prod.mk.injEq] at h
   obtain ⟨rfl, rfl, rfl, rfl⟩ := h
   unfold impl_FlashSync.okD at hok
   simp only [Bool.and_eq_true, decide_eq_true_eq, List.all_eq_true] at hok
   have HOK := zA_ hok
   have HCL := zA_ hc
   clear hok hc
   go_enter Try.func20, Try.ntmps20
   go_wp2_with (fail)
   go_at_call 74
   refine (impl_isFlash.calls A0_0 c0_0 l0_0 A0_1 c0_1 l0_1 true _ (Kd.C_below HR0.out HW0.out) HC0.out (Kd.C_below HR1.out HW0.out) HC1.out HF.out).mono ?_
   rintro e w1 ⟨rfl, hb1⟩
   have HB1 := zA_ (below_step HW0.out hb1)
   have hx0 := blk_below (by exact HX0.out) hb1
   have hx1 := blk_below (by exact HX1.out) hb1
   have HX01 := zA_ hx0
   have HX11 := zA_ hx1
   clear hb1
   have b0 := (blk_cell HX01.out 0).trans (rfl : _ = some (Value.slice A0_0 l0_0.length c0_0))
   have b1 := (blk_cell HX01.out 1).trans (rfl : _ = some (Value.slice A0_1 l0_1.length c0_1))
   clear hx0 hx1
   go_wp2_with (fail)
   go_at_call 79
   refine (impl_cloneFlash.calls A0_0 c0_0 l0_0 A0_1 c0_1 l0_1 cS cD _ (by repeat (first | exact (Kd.C_below HR0.out HB1.out) | (with_reducible refine Kd.C_drewN ?_ _))) HC0.out (by repeat (first | exact (Kd.C_below HR1.out HB1.out) | (with_reducible refine Kd.C_drewN ?_ _))) HC1.out HCL.out).mono ?_
   rintro e w2 ⟨v0, v1, rfl, hS, hD, hb2⟩
   obtain ⟨As, cs, rfl⟩ := Kd.R_slice hS
   obtain ⟨Ad, cd, rfl⟩ := Kd.R_slice hD
   have HFB := zA_ (show FB (w2.alloc (.cells #[.slice As cS.length cs, .slice Ad cD.length cd] 30)) w1.heap.size w2.heap.size cS cD from ⟨_, _, blk_new _ _, hb2.size, Kd.R_alloc hS _, Kd.R_alloc hD _⟩)
   have HB2 := zA_ (show Below w1.heap.size w1 (w2.alloc (.cells #[.slice As cS.length cs, .slice Ad cD.length cd] 30)) from below_alloc hb2 _)
   clear hS hD hb2
   go_wp2_with (fail)
   go_at_call 80
   refine (impl_Flash_sync.calls w1 w1.heap.size _ cS cD _ (by exact HFB.out) (by exact HB2.out) HB2.out.size HOK.out.1 HOK.out.2).mono ?_
   rintro e w3 ⟨rfl, hF3, hb3, _⟩
   obtain ⟨u0, u1, hk3, hg3, hS3, hD3⟩ := hF3
   obtain ⟨Au, cu, rfl⟩ := Kd.R_slice hS3
   obtain ⟨Av, cv, rfl⟩ := Kd.R_slice hD3
   have e0 := (blk_cell hk3 0).trans (rfl : _ = some (Value.slice Au _ cu))
   have e1 := (blk_cell hk3 1).trans (rfl : _ = some (Value.slice Av _ cv))
   have hx3 := (hb3.block (w.heap.size + 1) (blk_lt HX11.out)).trans HX11.out
   have HX3 := zA_ hx3
   have HS3 := zA_ hS3
   have HD3 := zA_ hD3
   have HB3 := zA_ (below_step HB1.out hb3)
   have oc0 := blk_cell hx3 0
   have of0 := blk_frozen hx3 0
   have oc1 := blk_cell hx3 1
   have of1 := blk_frozen hx3 1
   have oc2 := blk_cell hx3 2
   have of2 := blk_frozen hx3 2
   have oc3 := blk_cell hx3 3
   have of3 := blk_frozen hx3 3
   clear hk3 hg3 hS3 hD3 hb3 hx3
   go_wp2
   refine bodyPost_ret (results_cell_row rfl _ _ (w.heap.size + 1) 35 #[.slice Au (impl_Flash_synced cS cD).length cu, .slice Av ([] : List S92).length cv, .string ⟨#[]⟩, .int .i64 0] (0, 0) _ rfl (by refine blk_put (cs := #[.slice Au (impl_Flash_synced cS cD).length cu, .slice Av ([] : List S92).length cv, .string ⟨#[]⟩, .int .i64 0]) ?_ 3 _ rfl; refine blk_put (cs := #[.slice Au (impl_Flash_synced cS cD).length cu, .slice Av ([] : List S92).length cv, .string ⟨#[]⟩, .int .i64 0]) ?_ 2 _ rfl; refine blk_put (cs := #[.slice Au (impl_Flash_synced cS cD).length cu, .slice none 0 0, .string ⟨#[]⟩, .int .i64 0]) ?_ 1 _ rfl; refine blk_put (cs := #[.slice none 0 0, .slice none 0 0, .string ⟨#[]⟩, .int .i64 0]) ?_ 0 _ rfl; (repeat (first | exact HX3.out | refine blk_drewN ?_ _ | refine blk_drew ?_))) Try.underlying35 rfl (by kernel_rfl)) rfl ?_
   exact ⟨_, _, rfl, Kd.R_lower (FB.out4 HS3.out HX3.out (by decide) _ _ _ _) HB1.out.size, Kd.R_lower (FB.out4 HD3.out HX3.out (by decide) _ _ _ _) HB1.out.size, ((((show Below w.heap.size w _ from by first | exact HB3.out | exact pw_below_drewN HB3.out _).setCell (Nat.le_succ _) _).setCell (Nat.le_succ _) _).setCell (Nat.le_succ _) _).setCell (Nat.le_succ _) _⟩
  ·
   simp only [hok] at h; cases h
 | false =>
  simp only [Bool.false_eq_true, if_false, Option.some.injEq, Prod.mk.injEq] at h
  obtain ⟨rfl, rfl, rfl, rfl⟩ := h
  go_enter Try.func20, Try.ntmps20
  go_wp2_with (fail)
  go_at_call 74
  refine (impl_isFlash.calls A0_0 c0_0 l0_0 A0_1 c0_1 l0_1 false _ (Kd.C_below HR0.out HW0.out) HC0.out (Kd.C_below HR1.out HW0.out) HC1.out HF.out).mono ?_
  rintro e w1 ⟨rfl, hb1⟩
  have HB1 := zA_ (below_step HW0.out hb1)
  have hx0 := blk_below (by exact HX0.out) hb1
  have hx1 := blk_below (by exact HX1.out) hb1
  have HX01 := zA_ hx0
  have HX11 := zA_ hx1
  clear hb1
  have oc0 := blk_cell hx1 0
  have of0 := blk_frozen hx1 0
  have oc1 := blk_cell hx1 1
  have of1 := blk_frozen hx1 1
  have oc2 := blk_cell hx1 2
  have of2 := blk_frozen hx1 2
  have oc3 := blk_cell hx1 3
  have of3 := blk_frozen hx1 3
  clear hx0 hx1
  go_wp2
  refine bodyPost_ret (results_cell_row rfl _ _ (w.heap.size + 1) 35 #[.slice none 0 0, .slice none 0 0, .string ⟨#[]⟩, .int .i64 1] (0, 0) _ rfl (by refine blk_put (cs := #[.slice none 0 0, .slice none 0 0, .string ⟨#[]⟩, .int .i64 0]) ?_ 3 _ rfl; refine blk_put (cs := #[.slice none 0 0, .slice none 0 0, .string ⟨#[]⟩, .int .i64 0]) ?_ 2 _ rfl; refine blk_put (cs := #[.slice none 0 0, .slice none 0 0, .string ⟨#[]⟩, .int .i64 0]) ?_ 1 _ rfl; refine blk_put (cs := #[.slice none 0 0, .slice none 0 0, .string ⟨#[]⟩, .int .i64 0]) ?_ 0 _ rfl; (repeat (first | exact HX11.out | refine blk_drewN ?_ _ | refine blk_drew ?_))) Try.underlying35 rfl (by kernel_rfl)) rfl ?_
  exact ⟨_, _, rfl, Kd.R_nil _ _ _ _ _, Kd.R_nil _ _ _ _ _, ((((show Below w.heap.size w _ from by first | exact HB1.out | exact pw_below_drewN HB1.out _).setCell (Nat.le_succ _) _).setCell (Nat.le_succ _) _).setCell (Nat.le_succ _) _).setCell (Nat.le_succ _) _⟩


end Go.Proofs.Ytibnmnkembbgeaa.Q
