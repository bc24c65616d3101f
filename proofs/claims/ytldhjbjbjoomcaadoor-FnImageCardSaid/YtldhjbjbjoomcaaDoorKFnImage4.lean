/- An image's update keeps the number of blocks, leaves what no step writes and makes the rest of the old image; a block exclusive-ored twice comes back; for every draw. Part 4. -/
import Derived.Test.YtldhjbjbjoomcaaDoorKFnImage3
namespace Go.Proofs.YtldhjbjbjoomcaaDoor.Q
open Go.RowKit Go.Proofs.YtldhjbjbjoomcaaDoorW.PrintWords Go.Proofs.YtldhjbjbjoomcaaDoorW.PrintLast Go.Proofs.YtldhjbjbjoomcaaDoorW.PrintMore
attribute [local go_sem] max2_int min2_int max_two min_two max_three min_three max_four min_four Instr.field asAgg
set_option linter.unusedVariables false
set_option linter.unusedSimpArgs false
set_option maxHeartbeats 8000000
set_option maxRecDepth 100000
def spec_DrawXored.f (k : Nat) (l0 : List Int) : Option (ByteArray × ByteArray) := (spec_l01Source.f k l0).bind fun bt483 => ((spec_l01Src_l06Data.f bt483.1 bt483.2.1 bt483.2.2.1 bt483.2.2.2).bind fun bt488 => ((spec_l01Src_one.f bt483.1 bt488.2.1 bt488.2.2.1 bt488.2.2.2 6).bind fun bt492 => (if bt492.1 = true then ((spec_l01Src_n.f bt483.1 bt492.2.1 bt492.2.2.1 bt492.2.2.2 3).bind fun bt496 => ((spec_l01Src_bytes.f k bt483.1 bt496.2.1 bt496.2.2.1 bt496.2.2.2 (wrap64 (7 + bt496.1))).bind fun bt500 => (some (bt488.1, bt500.1)))) else ((spec_l01Src_l06Data.f bt483.1 bt492.2.1 bt492.2.2.1 bt492.2.2.2).bind fun bt504 => (some (bt488.1, bt504.1))))))
theorem spec_DrawXored.calls (k : Nat) (A0 : Option Addr) (c0 : Nat) (l0 : List Int) (r1 : ByteArray) (r2 : ByteArray) (w : World) (hr0 : Kd.C (Kd.int .u8) w A0 l0.length l0) (hc0 : l0.length ≤ c0) (h : spec_DrawXored.f k l0 = some (r1, r2)) :
 Calls Tryd.prog 17 #[.slice A0 l0.length c0] w fun e w' => e = .returned (.tuple #[.string r1, .string r2]) ∧ Below w.heap.size w w' := by
 have HR0 := zA_ hr0
 have HC0 := zA_ hc0
 clear hr0 hc0
 have HB := zA_ (Below.refl w.heap.size w)
 have H : ((spec_l01Source.f k l0).bind fun bt483 => ((spec_l01Src_l06Data.f bt483.1 bt483.2.1 bt483.2.2.1 bt483.2.2.2).bind fun bt488 => ((spec_l01Src_one.f bt483.1 bt488.2.1 bt488.2.2.1 bt488.2.2.2 6).bind fun bt492 => (if bt492.1 = true then ((spec_l01Src_n.f bt483.1 bt492.2.1 bt492.2.2.1 bt492.2.2.2 3).bind fun bt496 => ((spec_l01Src_bytes.f k bt483.1 bt496.2.1 bt496.2.2.1 bt496.2.2.2 (wrap64 (7 + bt496.1))).bind fun bt500 => (some (bt488.1, bt500.1)))) else ((spec_l01Src_l06Data.f bt483.1 bt492.2.1 bt492.2.2.1 bt492.2.2.2).bind fun bt504 => (some (bt488.1, bt504.1))))))) = some (r1, r2) := h
 clear h
 replace H := Option.bind_eq_some_iff.mp H
 obtain ⟨⟨t483, t484, t485, t486⟩, A20, H⟩ := H
 replace H : ((spec_l01Src_l06Data.f t483 t484 t485 t486).bind fun bt488 => ((spec_l01Src_one.f t483 bt488.2.1 bt488.2.2.1 bt488.2.2.2 6).bind fun bt492 => (if bt492.1 = true then ((spec_l01Src_n.f t483 bt492.2.1 bt492.2.2.1 bt492.2.2.2 3).bind fun bt496 => ((spec_l01Src_bytes.f k t483 bt496.2.1 bt496.2.2.1 bt496.2.2.2 (wrap64 (7 + bt496.1))).bind fun bt500 => (some (bt488.1, bt500.1)))) else ((spec_l01Src_l06Data.f t483 bt492.2.1 bt492.2.2.1 bt492.2.2.2).bind fun bt504 => (some (bt488.1, bt504.1)))))) = some (r1, r2) := H
 have A2 := zA_ A20
 clear A20
 replace H := Option.bind_eq_some_iff.mp H
 obtain ⟨⟨t488, t489, t490, t491⟩, A30, H⟩ := H
 replace H : ((spec_l01Src_one.f t483 t489 t490 t491 6).bind fun bt492 => (if bt492.1 = true then ((spec_l01Src_n.f t483 bt492.2.1 bt492.2.2.1 bt492.2.2.2 3).bind fun bt496 => ((spec_l01Src_bytes.f k t483 bt496.2.1 bt496.2.2.1 bt496.2.2.2 (wrap64 (7 + bt496.1))).bind fun bt500 => (some (t488, bt500.1)))) else ((spec_l01Src_l06Data.f t483 bt492.2.1 bt492.2.2.1 bt492.2.2.2).bind fun bt504 => (some (t488, bt504.1))))) = some (r1, r2) := H
 have A3 := zA_ A30
 clear A30
 replace H := Option.bind_eq_some_iff.mp H
 obtain ⟨⟨t492, t493, t494, t495⟩, A40, H⟩ := H
 replace H : (if t492 = true then ((spec_l01Src_n.f t483 t493 t494 t495 3).bind fun bt496 => ((spec_l01Src_bytes.f k t483 bt496.2.1 bt496.2.2.1 bt496.2.2.2 (wrap64 (7 + bt496.1))).bind fun bt500 => (some (t488, bt500.1)))) else ((spec_l01Src_l06Data.f t483 t493 t494 t495).bind fun bt504 => (some (t488, bt504.1)))) = some (r1, r2) := H
 have A4 := zA_ A40
 clear A40
 by_cases c5 : t492 = true
 · subst c5
   have H1 : ((spec_l01Src_n.f t483 t493 t494 t495 3).bind fun bt496 => ((spec_l01Src_bytes.f k t483 bt496.2.1 bt496.2.2.1 bt496.2.2.2 (wrap64 (7 + bt496.1))).bind fun bt500 => (some (t488, bt500.1)))) = some (r1, r2) := by rw [if_pos rfl] at H; exact H
   clear H
   have H := H1
   clear H1
   replace H := Option.bind_eq_some_iff.mp H
   obtain ⟨⟨t496, t497, t498, t499⟩, A60, H⟩ := H
   replace H : ((spec_l01Src_bytes.f k t483 t497 t498 t499 (wrap64 (7 + t496))).bind fun bt500 => (some (t488, bt500.1))) = some (r1, r2) := H
   have A6 := zA_ A60
   clear A60
   replace H := Option.bind_eq_some_iff.mp H
   obtain ⟨⟨t500, t501, t502, t503⟩, A70, H⟩ := H
   replace H : (some (t488, t500)) = some (r1, r2) := H
   have A7 := zA_ A70
   clear A70
   simp only [Option.some.injEq, Prod.mk.injEq] at H
   obtain ⟨rfl, rfl⟩ := H
   go_enter Tryd.func17, Tryd.ntmps17
   go_wp2_with (first | ((with_reducible refine gate_callee (f := 30) rfl ?_); refine goesL_ (some 7) rfl rfl Tryd.func30 βDa rfl #[.slice A0 l0.length c0] rfl zs_ ?_; (with_reducible refine (spec_l01Source.calls k _ _ l0 t483 t484 t485 t486 w _ ?side1 ?side2 ?side3 A2.out).mono ?_); (case side1 => exact βoa); (case side2 => exact HR0.out); (case side3 => exact HC0.out); rintro e w8 ⟨g487, rfl, hi, hb, hb2⟩; refine ⟨_, rfl, ?_⟩; have n0_ := zA_ (hb); have n1_ := zA_ (hi); clear HB; have HB := n0_; have HI487 := n1_; clear n0_ n1_; (try clear hb); (try clear hb2); (try clear hk); (try clear hi)) | ((with_reducible refine gate_callee (f := 41) rfl ?_); refine goesL_ (some 9) rfl rfl Tryd.func41 βDa rfl #[.pointer (some ⟨g487, 0, none⟩)] rfl zs_ ?_; (with_reducible refine (spec_l01Src_l06Data.calls g487 t483 t484 t485 t486 t488 t489 t490 t491 w _ ?side1 ?side2 A3.out).mono ?_); (case side1 => exact βz); (case side2 => exact βF); rintro e w9 ⟨rfl, hi, hb, hk⟩; refine ⟨_, rfl, ?_⟩; have n0_ := zA_ (hb); have n1_ := zA_ (hi); clear HB HI487; have HB := n0_; have HI487 := n1_; clear n0_ n1_; (try clear hb); (try clear hb2); (try clear hk); (try clear hi)) | ((with_reducible refine gate_callee (f := 42) rfl ?_); refine goesL_ (some 11) rfl rfl Tryd.func42 βDa rfl #[.pointer (some ⟨g487, 0, none⟩), .int .i64 6] rfl zs_ ?_; (with_reducible refine (spec_l01Src_one.calls g487 t483 t489 t490 t491 6 true t493 t494 t495 w _ ?side1 ?side2 A4.out).mono ?_); (case side1 => exact βz); (case side2 => exact βF); rintro e w10 ⟨rfl, hi, hb, hk⟩; refine ⟨_, rfl, ?_⟩; have n0_ := zA_ (hb); have n1_ := zA_ (hi); clear HB HI487; have HB := n0_; have HI487 := n1_; clear n0_ n1_; (try clear hb); (try clear hb2); (try clear hk); (try clear hi)) | ((with_reducible refine gate_callee (f := 32) rfl ?_); refine goesL_ (some 15) rfl rfl Tryd.func32 βDa rfl #[.pointer (some ⟨g487, 0, none⟩), .int .i64 3] rfl zs_ ?_; (with_reducible refine (spec_l01Src_n.calls g487 t483 t493 t494 t495 3 t496 t497 t498 t499 w _ ?side1 ?side2 A6.out).mono ?_); (case side1 => exact βz); (case side2 => exact βF); rintro e w11 ⟨rfl, hi, hb, hk⟩; refine ⟨_, rfl, ?_⟩; have n0_ := zA_ (hb); have n1_ := zA_ (hi); clear HB HI487; have HB := n0_; have HI487 := n1_; clear n0_ n1_; (try clear hb); (try clear hb2); (try clear hk); (try clear hi)) | ((with_reducible refine gate_callee (f := 31) rfl ?_); refine goesL_ (some 17) rfl rfl Tryd.func31 βDa rfl #[.pointer (some ⟨g487, 0, none⟩), .int .i64 (wrap64 (7 + t496))] rfl zs_ ?_; (with_reducible refine (spec_l01Src_bytes.calls k g487 t483 t497 t498 t499 (wrap64 (7 + t496)) t500 t501 t502 t503 w _ ?side1 ?side2 A7.out).mono ?_); (case side1 => exact βz); (case side2 => exact βF); rintro e w12 ⟨rfl, hi, hb, hk⟩; refine ⟨_, rfl, ?_⟩; have n0_ := zA_ (hb); have n1_ := zA_ (hi); clear HB HI487; have HB := n0_; have HI487 := n1_; clear n0_ n1_; (try clear hb); (try clear hb2); (try clear hk); (try clear hi)))
   go_ret2
   exact ⟨βsa, βF⟩
 · replace c5 := Bool.eq_false_iff.mpr c5
   subst c5
   have H1 : ((spec_l01Src_l06Data.f t483 t493 t494 t495).bind fun bt504 => (some (t488, bt504.1))) = some (r1, r2) := by rw [if_neg (show ¬ (false = true) by decide)] at H; exact H
   clear H
   have H := H1
   clear H1
   replace H := Option.bind_eq_some_iff.mp H
   obtain ⟨⟨t504, t505, t506, t507⟩, A130, H⟩ := H
   replace H : (some (t488, t504)) = some (r1, r2) := H
   have A13 := zA_ A130
   clear A130
   simp only [Option.some.injEq, Prod.mk.injEq] at H
   obtain ⟨rfl, rfl⟩ := H
   go_enter Tryd.func17, Tryd.ntmps17
   go_wp2_with (first | ((with_reducible refine gate_callee (f := 30) rfl ?_); refine goesL_ (some 7) rfl rfl Tryd.func30 βDa rfl #[.slice A0 l0.length c0] rfl zs_ ?_; (with_reducible refine (spec_l01Source.calls k _ _ l0 t483 t484 t485 t486 w _ ?side1 ?side2 ?side3 A2.out).mono ?_); (case side1 => exact βoa); (case side2 => exact HR0.out); (case side3 => exact HC0.out); rintro e w14 ⟨g487, rfl, hi, hb, hb2⟩; refine ⟨_, rfl, ?_⟩; have n0_ := zA_ (hb); have n1_ := zA_ (hi); clear HB; have HB := n0_; have HI487 := n1_; clear n0_ n1_; (try clear hb); (try clear hb2); (try clear hk); (try clear hi)) | ((with_reducible refine gate_callee (f := 41) rfl ?_); refine goesL_ (some 9) rfl rfl Tryd.func41 βDa rfl #[.pointer (some ⟨g487, 0, none⟩)] rfl zs_ ?_; (with_reducible refine (spec_l01Src_l06Data.calls g487 t483 t484 t485 t486 t488 t489 t490 t491 w _ ?side1 ?side2 A3.out).mono ?_); (case side1 => exact βz); (case side2 => exact βF); rintro e w15 ⟨rfl, hi, hb, hk⟩; refine ⟨_, rfl, ?_⟩; have n0_ := zA_ (hb); have n1_ := zA_ (hi); clear HB HI487; have HB := n0_; have HI487 := n1_; clear n0_ n1_; (try clear hb); (try clear hb2); (try clear hk); (try clear hi)) | ((with_reducible refine gate_callee (f := 42) rfl ?_); refine goesL_ (some 11) rfl rfl Tryd.func42 βDa rfl #[.pointer (some ⟨g487, 0, none⟩), .int .i64 6] rfl zs_ ?_; (with_reducible refine (spec_l01Src_one.calls g487 t483 t489 t490 t491 6 false t493 t494 t495 w _ ?side1 ?side2 A4.out).mono ?_); (case side1 => exact βz); (case side2 => exact βF); rintro e w16 ⟨rfl, hi, hb, hk⟩; refine ⟨_, rfl, ?_⟩; have n0_ := zA_ (hb); have n1_ := zA_ (hi); clear HB HI487; have HB := n0_; have HI487 := n1_; clear n0_ n1_; (try clear hb); (try clear hb2); (try clear hk); (try clear hi)) | ((with_reducible refine gate_callee (f := 41) rfl ?_); refine goesL_ (some 20) rfl rfl Tryd.func41 βDa rfl #[.pointer (some ⟨g487, 0, none⟩)] rfl zs_ ?_; (with_reducible refine (spec_l01Src_l06Data.calls g487 t483 t493 t494 t495 t504 t505 t506 t507 w _ ?side1 ?side2 A13.out).mono ?_); (case side1 => exact βz); (case side2 => exact βF); rintro e w17 ⟨rfl, hi, hb, hk⟩; refine ⟨_, rfl, ?_⟩; have n0_ := zA_ (hb); have n1_ := zA_ (hi); clear HB HI487; have HB := n0_; have HI487 := n1_; clear n0_ n1_; (try clear hb); (try clear hb2); (try clear hk); (try clear hi)))
   go_ret2
   exact ⟨βsa, βF⟩
def spec_DrawMadeBy.j0 : Nat → List ByteArray → Bool → List Int → Int → Int → Int → Option (List ByteArray × Int × Int × Int × ByteArray)
 | 0, _, _, _, _, _, _ => none
 | k + 1, x5, x16, x514000, x514001, x514002, x514003 => if x16 = true then ((spec_l01Src_l06Any.f k x514000 x514001 x514002 x514003).bind fun bt524 => (some (x5, bt524.1, bt524.2.1, bt524.2.2.1, bt524.2.2.2.1))) else ((spec_l01Src_l06Step.f k x514000 x514001 x514002 x514003 (x5.length : Int)).bind fun bt531 => (some (x5, bt531.1, bt531.2.1, bt531.2.2.1, bt531.2.2.2.1)))
def spec_DrawMadeBy.f (k : Nat) (l0 : List Int) : Option (List ByteArray × Int × Int × Int × ByteArray) := (spec_l01Source.f k l0).bind fun bt509 => ((spec_l01Src_l07Odd.f k bt509.1 bt509.2.1 bt509.2.2.1 bt509.2.2.2).bind fun bt514 => (if (bt514.1.length : Int) = 0 then (spec_DrawMadeBy.j0 k bt514.1 true bt509.1 bt514.2.1 bt514.2.2.1 bt514.2.2.2) else ((spec_l01Src_one.f bt509.1 bt514.2.1 bt514.2.2.1 bt514.2.2.2 8).bind fun bt520 => (spec_DrawMadeBy.j0 k bt514.1 bt520.1 bt509.1 bt520.2.1 bt520.2.2.1 bt520.2.2.2))))
theorem spec_DrawMadeBy.calls (k : Nat) (A0 : Option Addr) (c0 : Nat) (l0 : List Int) (r1 : List ByteArray) (r2 : Int) (r3 : Int) (r4 : Int) (r5 : ByteArray) (w : World) (hr0 : Kd.C (Kd.int .u8) w A0 l0.length l0) (hc0 : l0.length ≤ c0) (h : spec_DrawMadeBy.f k l0 = some (r1, r2, r3, r4, r5)) :
 Calls Tryd.prog 18 #[.slice A0 l0.length c0] w fun e w' => ∃ v0_ : Value, e = .returned (.tuple #[v0_, .agg #[.int .i64 r2, .int .i64 r3, .int .i64 r4, .string r5]]) ∧ Kd.R Kd.string 9 w' w.heap.size (fun _ => True) v0_ r1 ∧ Below w.heap.size w w' := by
 have hu42 := Tryd.underlying42
 have HR0 := zA_ hr0
 have HC0 := zA_ hc0
 clear hr0 hc0
 have HB := zA_ (Below.refl w.heap.size w)
 have H : ((spec_l01Source.f k l0).bind fun bt509 => ((spec_l01Src_l07Odd.f k bt509.1 bt509.2.1 bt509.2.2.1 bt509.2.2.2).bind fun bt514 => (if (bt514.1.length : Int) = 0 then (spec_DrawMadeBy.j0 k bt514.1 true bt509.1 bt514.2.1 bt514.2.2.1 bt514.2.2.2) else ((spec_l01Src_one.f bt509.1 bt514.2.1 bt514.2.2.1 bt514.2.2.2 8).bind fun bt520 => (spec_DrawMadeBy.j0 k bt514.1 bt520.1 bt509.1 bt520.2.1 bt520.2.2.1 bt520.2.2.2))))) = some (r1, r2, r3, r4, r5) := h
 clear h
 replace H := Option.bind_eq_some_iff.mp H
 obtain ⟨⟨t509, t510, t511, t512⟩, A20, H⟩ := H
 replace H : ((spec_l01Src_l07Odd.f k t509 t510 t511 t512).bind fun bt514 => (if (bt514.1.length : Int) = 0 then (spec_DrawMadeBy.j0 k bt514.1 true t509 bt514.2.1 bt514.2.2.1 bt514.2.2.2) else ((spec_l01Src_one.f t509 bt514.2.1 bt514.2.2.1 bt514.2.2.2 8).bind fun bt520 => (spec_DrawMadeBy.j0 k bt514.1 bt520.1 t509 bt520.2.1 bt520.2.2.1 bt520.2.2.2)))) = some (r1, r2, r3, r4, r5) := H
 have A2 := zA_ A20
 clear A20
 replace H := Option.bind_eq_some_iff.mp H
 obtain ⟨⟨t514, t517, t518, t519⟩, A30, H⟩ := H
 replace H : (if (t514.length : Int) = 0 then (spec_DrawMadeBy.j0 k t514 true t509 t517 t518 t519) else ((spec_l01Src_one.f t509 t517 t518 t519 8).bind fun bt520 => (spec_DrawMadeBy.j0 k t514 bt520.1 t509 bt520.2.1 bt520.2.2.1 bt520.2.2.2))) = some (r1, r2, r3, r4, r5) := H
 have A3 := zA_ A30
 clear A30
 have HC4 := zA_ H
 clear H
 go_enter Tryd.func18, Tryd.ntmps18
 go_upto_region 3 with (first | ((with_reducible refine gate_dst (N := 3) rfl ?_); refine box_event ?hg (N := 3) ?hd (cs := #[.int .i64 0, .int .i64 0, .int .i64 0, .string (⟨#[]⟩ : ByteArray)]) (t := 42) ?hr ?_; (case hd => exact (by rfl)); (case hg => exact (by rfl)); (case hr => exact βAa); intro gb508 hg w5 hbox hb; have n0_ := zA_ (below_step (zh_ HB.out) hb); have n1_ := zA_ (hbox); have n2_ := zA_ ((by rw [hg]; exact (below_size (zh_ HB.out)) : w.heap.size ≤ gb508)); have n3_ := zA_ ((by rw [hg]; exact (below_size (zh_ HB.out)) : w.heap.size ≤ gb508)); clear HB; have HB := n0_; have BK508 := n1_; have GW508 := n2_; have GE508 := n3_; clear n0_ n1_ n2_ n3_; clear hb hbox hg) | ((with_reducible refine gate_callee (f := 30) rfl ?_); refine goesL_ (some 7) rfl rfl Tryd.func30 βDa rfl #[.slice A0 l0.length c0] rfl zs_ ?_; (with_reducible refine (spec_l01Source.calls k _ _ l0 t509 t510 t511 t512 w _ ?side1 ?side2 ?side3 A2.out).mono ?_); (case side1 => exact (by repeat (first | (with_reducible first | exact HB.out | apply below_alloc | apply pw_below_drewN | apply below_drew1 | refine below_set ?_ GE508.out) | exact HB.out))); (case side2 => exact HR0.out); (case side3 => exact HC0.out); rintro e w6 ⟨g513, rfl, hi, hb, hb2⟩; refine ⟨_, rfl, ?_⟩; have n0_ := zA_ (blk_below (g := gb508) (o := .cells #[.int .i64 0, .int .i64 0, .int .i64 0, .string (⟨#[]⟩ : ByteArray)] 42 (0, 0)) (zb_ BK508.out) hb2); have n1_ := zA_ (hb); have n2_ := zA_ (hi); have n3_ := zA_ (IsS78.ne_blk hi (blk_below (g := gb508) (o := .cells #[.int .i64 0, .int .i64 0, .int .i64 0, .string (⟨#[]⟩ : ByteArray)] 42 (0, 0)) (zb_ BK508.out) hb2) (by decide)); have n4_ := zA_ (Ne.symm (IsS78.ne_blk hi (blk_below (g := gb508) (o := .cells #[.int .i64 0, .int .i64 0, .int .i64 0, .string (⟨#[]⟩ : ByteArray)] 42 (0, 0)) (zb_ BK508.out) hb2) (by decide))); clear BK508 HB; have BK508 := n0_; have HB := n1_; have HI513 := n2_; have NB513_508 := n3_; have NB508_513 := n4_; clear n0_ n1_ n2_ n3_ n4_; (try clear hb); (try clear hb2); (try clear hk); (try clear hi)) | ((with_reducible refine gate_callee (f := 36) rfl ?_); refine goesL_ (some 9) rfl rfl Tryd.func36 βDa rfl #[.pointer (some ⟨g513, 0, none⟩)] rfl zs_ ?_; (with_reducible refine (spec_l01Src_l07Odd.calls k g513 t509 t510 t511 t512 t514 t517 t518 t519 w _ ?side1 ?side2 A3.out).mono ?_); (case side1 => exact βm); (case side2 => exact βs); rintro e w7 ⟨v515, rfl, ho0, hi, hb, hk⟩; refine ⟨_, rfl, ?_⟩; have n0_ := zA_ (KeepBut.blk hk (g' := gb508) (o := .cells #[.int .i64 0, .int .i64 0, .int .i64 0, .string (⟨#[]⟩ : ByteArray)] 42 (0, 0)) (zb_ BK508.out) NB508_513.out (by simp)); have n1_ := zA_ (Kd.R_lower ho0 (below_size βs)); have n2_ := zA_ (hb); have n3_ := zA_ (hi); clear BK508 HB HI513; have BK508 := n0_; have HO516 := n1_; have HB := n2_; have HI513 := n3_; clear n0_ n1_ n2_ n3_; (try clear hb); (try clear hb2); (try clear hk); (try clear hi); (try clear ho0)))
 (try simp only [Act.put, List.setIfInBounds_toArray, List.set_cons_zero, List.set_cons_succ])
 go_cut [16] (fun v16 wc => ∃ (kq : Nat) (x16_3 : Bool) (x514001_3 : Int) (x514002_3 : Int) (x514003_3 : Int), v16 = .bool x16_3 ∧ Aside0 (spec_DrawMadeBy.j0 kq t514 x16_3 t509 x514001_3 x514002_3 x514003_3 = some (r1, r2, r3, r4, r5)) ∧ Aside0 (kq ≤ k) ∧ Aside0 (Kd.R Kd.string 9 wc w.heap.size (fun _ => True) v515 t514) ∧ Aside0 (wc.heap[gb508]? = some (.cells #[.int .i64 0, .int .i64 0, .int .i64 0, .string (⟨#[]⟩ : ByteArray)] 42 (0, 0))) ∧ Aside0 (IsS78 w wc g513 t509 x514001_3 x514002_3 x514003_3) ∧ Aside0 (Below w.heap.size w wc))
 case first =>
  have H := HC4.out
  clear HC4
  by_cases c8 : (t514.length : Int) = 0
  · rw [if_pos c8] at H
    have c8b0 : ((t514.length : Int) == 0) = true := beq_iff_eq.mpr c8
    have c8b1 : ((t514.length : Int) != 0) = false := bne_eq_false_iff_eq.mpr c8
    clear c8
    (first | rw [c8b0] | (simp only [i64_w, i32_w]; rw [c8b0]) | skip)
    have H' := zA_ H
    clear H
    obtain ⟨Ao9, co9, eo9⟩ := Kd.R_slice HO516.out
    subst eo9
    go_wp2
    go_meet
    case rel => exact ⟨_, (true), (t517), (t518), (t519), βya, H', ⟨βBa⟩, ⟨zr_ HO516.out⟩, ⟨zb_ BK508.out⟩, ⟨βm⟩, ⟨βs⟩⟩
  · rw [if_neg c8] at H
    have c8b0 : ((t514.length : Int) == 0) = false := beq_eq_false_iff_ne.mpr c8
    have c8b1 : ((t514.length : Int) != 0) = true := bne_iff_ne.mpr c8
    have c8b2 : ¬ (t514 = []) := fun h_ => c8 (by rw [h_]; rfl)
    (first | rw [c8b0] | (simp only [i64_w, i32_w]; rw [c8b0]) | skip)
    replace H := Option.bind_eq_some_iff.mp H
    obtain ⟨⟨t520, t521, t522, t523⟩, A100, H⟩ := H
    replace H : (spec_DrawMadeBy.j0 k t514 t520 t509 t521 t522 t523) = some (r1, r2, r3, r4, r5) := H
    have A10 := zA_ A100
    clear A100
    have H' := zA_ H
    clear H
    obtain ⟨Ao11, co11, eo11⟩ := Kd.R_slice HO516.out
    subst eo11
    go_wp2_with (first | (go_at_call 42; (with_reducible refine (spec_l01Src_one.calls g513 t509 t517 t518 t519 8 t520 t521 t522 t523 w _ ?side1 ?side2 A10.out).mono ?_); (case side1 => exact βm); (case side2 => exact βs); rintro e w12 ⟨rfl, hi, hb, hk⟩; have n0_ := zA_ (KeepBut.blk hk (g' := gb508) (o := .cells #[.int .i64 0, .int .i64 0, .int .i64 0, .string (⟨#[]⟩ : ByteArray)] 42 (0, 0)) (zb_ BK508.out) NB508_513.out (by simp)); have n1_ := zA_ (Kd.R_mono (Kd.R_keep (IsS78.apart (show IsS78 w _ g513 t509 t517 t518 t519 from by repeat (first | (with_reducible first | exact HI513.out | apply IsS78.alloc | apply IsS78.drewN | apply IsS78.drew | apply IsS78.set_1 | apply IsS78.set_2 | apply IsS78.set_3 | refine IsS78.far ?_ NB513_508.out _) | exact HI513.out)) (zr_ HO516.out) (by decide)) hk (fun _ h => h.2)) (fun _ h => h.1)); have n2_ := zA_ (hb); have n3_ := zA_ (hi); clear BK508 HO516 HB HI513; have BK508 := n0_; have HO516 := n1_; have HB := n2_; have HI513 := n3_; clear n0_ n1_ n2_ n3_; (try clear hb); (try clear hb2); (try clear hk); (try clear hi)))
    go_meet
    case rel => exact ⟨_, (t520), (t521), (t522), (t523), βya, H', ⟨βBa⟩, ⟨zr_ HO516.out⟩, ⟨zb_ BK508.out⟩, ⟨βm⟩, ⟨βs⟩⟩
 case rest =>
  clear HC4
  try clear c1
  try clear p2
  try clear c3
  try clear c8
  try clear c8b0
  try clear c8b1
  try clear c8b2
  obtain ⟨kq, x16_3, x514001_3, x514002_3, x514003_3, rfl, HA, HJ3, HO_5, BK508, HI513, HB⟩ := hcut
  cases kq with
  | zero => exact absurd HA.out (by simp [spec_DrawMadeBy.j0])
  | succ kj3 =>
   have H := HA.out
   clear HA
   simp only [spec_DrawMadeBy.j0] at H
   by_cases c13 : x16_3 = true
   · subst c13
     have H1 : ((spec_l01Src_l06Any.f kj3 t509 x514001_3 x514002_3 x514003_3).bind fun bt524 => (some (t514, bt524.1, bt524.2.1, bt524.2.2.1, bt524.2.2.2.1))) = some (r1, r2, r3, r4, r5) := by rw [if_pos rfl] at H; exact H
     clear H
     have H := H1
     clear H1
     replace H := Option.bind_eq_some_iff.mp H
     obtain ⟨⟨t524, t525, t526, t527, t528, t529, t530⟩, A140, H⟩ := H
     replace H : (some (t514, t524, t525, t526, t527)) = some (r1, r2, r3, r4, r5) := H
     have A14 := zA_ A140
     clear A140
     simp only [Option.some.injEq, Prod.mk.injEq] at H
     obtain ⟨rfl, rfl, rfl, rfl, rfl⟩ := H
     go_wp2_with (first | ((with_reducible refine gate_callee (f := 43) rfl ?_); refine goesL_ (some 19) rfl rfl Tryd.func43 βDa rfl #[.pointer (some ⟨g513, 0, none⟩)] rfl zs_ ?_; (with_reducible refine (spec_l01Src_l06Any.calls kj3 g513 t509 x514001_3 x514002_3 x514003_3 t524 t525 t526 t527 t528 t529 t530 w _ ?side1 ?side2 A14.out).mono ?_); (case side1 => exact βm); (case side2 => exact βs); rintro e w15 ⟨rfl, hi, hb, hk⟩; refine ⟨_, rfl, ?_⟩; have n0_ := zA_ (Kd.R_mono (Kd.R_keep (IsS78.apart (show IsS78 w _ g513 t509 x514001_3 x514002_3 x514003_3 from by repeat (first | (with_reducible first | exact HI513.out | apply IsS78.alloc | apply IsS78.drewN | apply IsS78.drew | apply IsS78.set_1 | apply IsS78.set_2 | apply IsS78.set_3 | refine IsS78.far ?_ NB513_508.out _) | exact HI513.out)) (zr_ HO_5.out) (by decide)) hk (fun _ h => h.2)) (fun _ h => h.1)); have n1_ := zA_ (KeepBut.blk hk (g' := gb508) (o := .cells #[.int .i64 0, .int .i64 0, .int .i64 0, .string (⟨#[]⟩ : ByteArray)] 42 (0, 0)) (zb_ BK508.out) NB508_513.out (by simp)); have n2_ := zA_ (hb); have n3_ := zA_ (hi); clear HO_5 BK508 HB HI513; have HO_5 := n0_; have BK508 := n1_; have HB := n2_; have HI513 := n3_; clear n0_ n1_ n2_ n3_; (try clear hb); (try clear hb2); (try clear hk); (try clear hi); have hnb16 := NB508_513.out; have hnc16 := NB513_508.out; have hcz17_0 := cz_ BK508.out 0 (.int .i64 0) rfl; have hcz17_1 := cz_ BK508.out 1 (.int .i64 0) rfl; have hcz17_2 := cz_ BK508.out 2 (.int .i64 0) rfl; have hcz17_3 := cz_ BK508.out 3 (.string (⟨#[]⟩ : ByteArray)) rfl; have hfz17_0 := blk_frozen BK508.out 0; have hfz17_1 := blk_frozen BK508.out 1; have hfz17_2 := blk_frozen BK508.out 2; have hfz17_3 := blk_frozen BK508.out 3))
     refine bodyPost_ret (results_tc rfl _ _ gb508 42 #[.int .i64 t524, .int .i64 t525, .int .i64 t526, .string t527] (0, 0) _ rfl (by (with_reducible repeat (first | refine blk_drewN ?_ _ | refine blk_drew ?_ | refine blk_alloc ?_ _)); refine blk_put (cs := #[.int .i64 t524, .int .i64 t525, .int .i64 t526, .string (⟨#[]⟩ : ByteArray)]) ?_ 3 _ rfl; (with_reducible repeat (first | refine blk_drewN ?_ _ | refine blk_drew ?_ | refine blk_alloc ?_ _)); refine blk_put (cs := #[.int .i64 t524, .int .i64 t525, .int .i64 0, .string (⟨#[]⟩ : ByteArray)]) ?_ 2 _ rfl; (with_reducible repeat (first | refine blk_drewN ?_ _ | refine blk_drew ?_ | refine blk_alloc ?_ _)); refine blk_put (cs := #[.int .i64 t524, .int .i64 0, .int .i64 0, .string (⟨#[]⟩ : ByteArray)]) ?_ 1 _ rfl; (with_reducible repeat (first | refine blk_drewN ?_ _ | refine blk_drew ?_ | refine blk_alloc ?_ _)); refine blk_put (cs := #[.int .i64 0, .int .i64 0, .int .i64 0, .string (⟨#[]⟩ : ByteArray)]) ?_ 0 _ rfl; (with_reducible repeat (first | refine blk_drewN ?_ _ | refine blk_drew ?_ | refine blk_alloc ?_ _)); exact BK508.out) Tryd.underlying42 rfl βDa) rfl ?_
     exact ⟨_, βsa, (by (with_reducible repeat (first | apply Kd.R_alloc | apply Kd.R_drewN | apply Kd.R_drew)); exact Kd.R_mono (Kd.R_far (p := ⟨gb508, 3, none⟩) (Kd.R_far (p := ⟨gb508, 2, none⟩) (Kd.R_far (p := ⟨gb508, 1, none⟩) (Kd.R_far (p := ⟨gb508, 0, none⟩) (Kd.R_types HO_5.out BK508.out (by decide)) (fun _ hk => hk.2) (.int .i64 t524)) (fun _ hk => hk.2) (.int .i64 t525)) (fun _ hk => hk.2) (.int .i64 t526)) (fun _ hk => hk.2) (.string t527)) (fun _ hk => trivial)), βs⟩
   · replace c13 := Bool.eq_false_iff.mpr c13
     subst c13
     have H1 : ((spec_l01Src_l06Step.f kj3 t509 x514001_3 x514002_3 x514003_3 (t514.length : Int)).bind fun bt531 => (some (t514, bt531.1, bt531.2.1, bt531.2.2.1, bt531.2.2.2.1))) = some (r1, r2, r3, r4, r5) := by rw [if_neg (show ¬ (false = true) by decide)] at H; exact H
     clear H
     have H := H1
     clear H1
     replace H := Option.bind_eq_some_iff.mp H
     obtain ⟨⟨t531, t532, t533, t534, t535, t536, t537⟩, A180, H⟩ := H
     replace H : (some (t514, t531, t532, t533, t534)) = some (r1, r2, r3, r4, r5) := H
     have A18 := zA_ A180
     clear A180
     simp only [Option.some.injEq, Prod.mk.injEq] at H
     obtain ⟨rfl, rfl, rfl, rfl, rfl⟩ := H
     obtain ⟨Ao19, co19, eo19⟩ := Kd.R_slice HO_5.out
     subst eo19
     go_wp2_with (first | ((with_reducible refine gate_callee (f := 44) rfl ?_); refine goesL_ (some 24) rfl rfl Tryd.func44 βDa rfl #[.pointer (some ⟨g513, 0, none⟩), .int .i64 (t514.length : Int)] rfl zs_ ?_; (with_reducible refine (spec_l01Src_l06Step.calls kj3 g513 t509 x514001_3 x514002_3 x514003_3 (t514.length : Int) t531 t532 t533 t534 t535 t536 t537 w _ ?side1 ?side2 A18.out).mono ?_); (case side1 => exact βm); (case side2 => exact βs); rintro e w20 ⟨rfl, hi, hb, hk⟩; refine ⟨_, rfl, ?_⟩; have n0_ := zA_ (Kd.R_mono (Kd.R_keep (IsS78.apart (show IsS78 w _ g513 t509 x514001_3 x514002_3 x514003_3 from by repeat (first | (with_reducible first | exact HI513.out | apply IsS78.alloc | apply IsS78.drewN | apply IsS78.drew | apply IsS78.set_1 | apply IsS78.set_2 | apply IsS78.set_3 | refine IsS78.far ?_ NB513_508.out _) | exact HI513.out)) (zr_ HO_5.out) (by decide)) hk (fun _ h => h.2)) (fun _ h => h.1)); have n1_ := zA_ (KeepBut.blk hk (g' := gb508) (o := .cells #[.int .i64 0, .int .i64 0, .int .i64 0, .string (⟨#[]⟩ : ByteArray)] 42 (0, 0)) (zb_ BK508.out) NB508_513.out (by simp)); have n2_ := zA_ (hb); have n3_ := zA_ (hi); clear HO_5 BK508 HB HI513; have HO_5 := n0_; have BK508 := n1_; have HB := n2_; have HI513 := n3_; clear n0_ n1_ n2_ n3_; (try clear hb); (try clear hb2); (try clear hk); (try clear hi); have hnb21 := NB508_513.out; have hnc21 := NB513_508.out; have hcz22_0 := cz_ BK508.out 0 (.int .i64 0) rfl; have hcz22_1 := cz_ BK508.out 1 (.int .i64 0) rfl; have hcz22_2 := cz_ BK508.out 2 (.int .i64 0) rfl; have hcz22_3 := cz_ BK508.out 3 (.string (⟨#[]⟩ : ByteArray)) rfl; have hfz22_0 := blk_frozen BK508.out 0; have hfz22_1 := blk_frozen BK508.out 1; have hfz22_2 := blk_frozen BK508.out 2; have hfz22_3 := blk_frozen BK508.out 3))
     refine bodyPost_ret (results_tc rfl _ _ gb508 42 #[.int .i64 t531, .int .i64 t532, .int .i64 t533, .string t534] (0, 0) _ rfl (by (with_reducible repeat (first | refine blk_drewN ?_ _ | refine blk_drew ?_ | refine blk_alloc ?_ _)); refine blk_put (cs := #[.int .i64 t531, .int .i64 t532, .int .i64 t533, .string (⟨#[]⟩ : ByteArray)]) ?_ 3 _ rfl; (with_reducible repeat (first | refine blk_drewN ?_ _ | refine blk_drew ?_ | refine blk_alloc ?_ _)); refine blk_put (cs := #[.int .i64 t531, .int .i64 t532, .int .i64 0, .string (⟨#[]⟩ : ByteArray)]) ?_ 2 _ rfl; (with_reducible repeat (first | refine blk_drewN ?_ _ | refine blk_drew ?_ | refine blk_alloc ?_ _)); refine blk_put (cs := #[.int .i64 t531, .int .i64 0, .int .i64 0, .string (⟨#[]⟩ : ByteArray)]) ?_ 1 _ rfl; (with_reducible repeat (first | refine blk_drewN ?_ _ | refine blk_drew ?_ | refine blk_alloc ?_ _)); refine blk_put (cs := #[.int .i64 0, .int .i64 0, .int .i64 0, .string (⟨#[]⟩ : ByteArray)]) ?_ 0 _ rfl; (with_reducible repeat (first | refine blk_drewN ?_ _ | refine blk_drew ?_ | refine blk_alloc ?_ _)); exact BK508.out) Tryd.underlying42 rfl βDa) rfl ?_
     exact ⟨_, βsa, (by (with_reducible repeat (first | apply Kd.R_alloc | apply Kd.R_drewN | apply Kd.R_drew)); exact Kd.R_mono (Kd.R_far (p := ⟨gb508, 3, none⟩) (Kd.R_far (p := ⟨gb508, 2, none⟩) (Kd.R_far (p := ⟨gb508, 1, none⟩) (Kd.R_far (p := ⟨gb508, 0, none⟩) (Kd.R_types HO_5.out BK508.out (by decide)) (fun _ hk => hk.2) (.int .i64 t531)) (fun _ hk => hk.2) (.int .i64 t532)) (fun _ hk => hk.2) (.int .i64 t533)) (fun _ hk => hk.2) (.string t534)) (fun _ hk => trivial)), βs⟩
def spec_DrawImageDigest.f (k : Nat) (l0 : List Int) : Option (List ByteArray) := (spec_l01Source.f k l0).bind fun bt538 => ((spec_l01Src_l07Odd.f k bt538.1 bt538.2.1 bt538.2.2.1 bt538.2.2.2).bind fun bt543 => (some bt543.1))
theorem spec_DrawImageDigest.calls (k : Nat) (A0 : Option Addr) (c0 : Nat) (l0 : List Int) (r : List ByteArray) (w : World) (hr0 : Kd.C (Kd.int .u8) w A0 l0.length l0) (hc0 : l0.length ≤ c0) (h : spec_DrawImageDigest.f k l0 = some r) :
 Calls Tryd.prog 19 #[.slice A0 l0.length c0] w fun e w' => ∃ v0_ : Value, e = .returned (v0_) ∧ Kd.R Kd.string 9 w' w.heap.size (fun _ => True) v0_ r ∧ Below w.heap.size w w' := by
 have HR0 := zA_ hr0
 have HC0 := zA_ hc0
 clear hr0 hc0
 have HB := zA_ (Below.refl w.heap.size w)
 have H : ((spec_l01Source.f k l0).bind fun bt538 => ((spec_l01Src_l07Odd.f k bt538.1 bt538.2.1 bt538.2.2.1 bt538.2.2.2).bind fun bt543 => (some bt543.1))) = some r := h
 clear h
 replace H := Option.bind_eq_some_iff.mp H
 obtain ⟨⟨t538, t539, t540, t541⟩, A20, H⟩ := H
 replace H : ((spec_l01Src_l07Odd.f k t538 t539 t540 t541).bind fun bt543 => (some bt543.1)) = some r := H
 have A2 := zA_ A20
 clear A20
 replace H := Option.bind_eq_some_iff.mp H
 obtain ⟨⟨t543, t546, t547, t548⟩, A30, H⟩ := H
 replace H : (some t543) = some r := H
 have A3 := zA_ A30
 clear A30
 obtain rfl := Option.some.inj H
 go_enter Tryd.func19, Tryd.ntmps19
 go_wp2_with (first | ((with_reducible refine gate_callee (f := 30) rfl ?_); refine goesL_ (some 4) rfl rfl Tryd.func30 βDa rfl #[.slice A0 l0.length c0] rfl zs_ ?_; (with_reducible refine (spec_l01Source.calls k _ _ l0 t538 t539 t540 t541 w _ ?side1 ?side2 ?side3 A2.out).mono ?_); (case side1 => exact βoa); (case side2 => exact HR0.out); (case side3 => exact HC0.out); rintro e w4 ⟨g542, rfl, hi, hb, hb2⟩; refine ⟨_, rfl, ?_⟩; have n0_ := zA_ (hb); have n1_ := zA_ (hi); clear HB; have HB := n0_; have HI542 := n1_; clear n0_ n1_; (try clear hb); (try clear hb2); (try clear hk); (try clear hi)) | ((with_reducible refine gate_callee (f := 36) rfl ?_); refine goesL_ (some 5) rfl rfl Tryd.func36 βDa rfl #[.pointer (some ⟨g542, 0, none⟩)] rfl zs_ ?_; (with_reducible refine (spec_l01Src_l07Odd.calls k g542 t538 t539 t540 t541 t543 t546 t547 t548 w _ ?side1 ?side2 A3.out).mono ?_); (case side1 => exact (by repeat (first | (with_reducible first | exact HI542.out | apply IsS78.alloc | apply IsS78.drewN | apply IsS78.drew | apply IsS78.set_1 | apply IsS78.set_2 | apply IsS78.set_3) | exact HI542.out))); (case side2 => exact βG); rintro e w5 ⟨v544, rfl, ho0, hi, hb, hk⟩; refine ⟨_, rfl, ?_⟩; have n0_ := zA_ (Kd.R_lower ho0 (below_size βG)); have n1_ := zA_ (hb); have n2_ := zA_ (hi); clear HB HI542; have HO545 := n0_; have HB := n1_; have HI542 := n2_; clear n0_ n1_ n2_; (try clear hb); (try clear hb2); (try clear hk); (try clear hi); (try clear ho0)))
 go_ret
 exact ⟨_, βsa, (by (with_reducible repeat (first | apply Kd.R_alloc | apply Kd.R_drewN | apply Kd.R_drew)); exact HO545.out), βG⟩
def laws_lwTexts.l0 : Nat → List ByteArray → List ByteArray → Int → Option (Bool)
 | 0, _, _, _ => none
 | k + 1, x0, x1, x5 => if x5 < (x0.length : Int) then (if 0 ≤ x5 then (if x5 < (x1.length : Int) then (if (rdOf ByteArray.empty x0 x5).toList = (rdOf ByteArray.empty x1 x5).toList then (laws_lwTexts.l0 k x0 x1 (wrap64 (x5 + 1))) else (some false)) else (none)) else (none)) else (some true)
def laws_lwTexts.f (k : Nat) (l0 : List ByteArray) (l1 : List ByteArray) : Option (Bool) := if (l0.length : Int) = (l1.length : Int) then (laws_lwTexts.l0 k l0 l1 0) else (some false)
theorem laws_lwTexts.calls (k : Nat) (A0 : Option Addr) (c0 : Nat) (l0 : List ByteArray) (A1 : Option Addr) (c1 : Nat) (l1 : List ByteArray) (r : Bool) (w : World) (hr0 : Kd.C Kd.string w A0 l0.length l0) (hc0 : l0.length ≤ c0) (hr1 : Kd.C Kd.string w A1 l1.length l1) (hc1 : l1.length ≤ c1) (h : laws_lwTexts.f k l0 l1 = some r) :
 Calls Tryd.prog 45 #[.slice A0 l0.length c0, .slice A1 l1.length c1] w fun e w' => e = .returned (.bool r) ∧ Drawn0 w w' := by
 have HR0 := zA_ hr0
 have HC0 := zA_ hc0
 clear hr0 hc0
 have HR1 := zA_ hr1
 have HC1 := zA_ hc1
 clear hr1 hc1
 have H : (if (l0.length : Int) = (l1.length : Int) then (laws_lwTexts.l0 k l0 l1 0) else (some false)) = some r := h
 clear h
 by_cases c3 : (l0.length : Int) = (l1.length : Int)
 · rw [if_pos c3] at H
   have c3b0 : ((l0.length : Int) == (l1.length : Int)) = true := beq_iff_eq.mpr c3
   have c3b1 : ((l0.length : Int) != (l1.length : Int)) = false := bne_eq_false_iff_eq.mpr c3
   have c3b2 : (l0.length == l1.length) = true := by first | simpa using c3 | (simp at c3 ⊢; omega)
   clear c3
   have H' := zA_ H
   clear H
   go_enter Tryd.func45, Tryd.ntmps45
   go_wp2
   repeat (go_quiet (fail); try go_wp2)
   go_loopg [5] k (fun kq v5 w' => ∃ (x5_1 : Int), v5 = .int .i64 x5_1 ∧ Aside0 (laws_lwTexts.l0 kq l0 l1 x5_1 = some r) ∧ Aside0 (kq ≤ k) ∧ Drawn0 w w')
   case atStart => exact ⟨(0), βya, H', ⟨Nat.le_refl _⟩, βwa⟩
   case round =>
    clear H'
    try clear c1
    try clear p2
    try clear c3
    try clear c3b0
    try clear c3b1
    try clear c3b2
    obtain ⟨x5_1, rfl, HA, HK1, ⟨m1, rfl⟩⟩ := hrel
    cases gk with
    | zero => exact absurd HA.out (by simp [laws_lwTexts.l0])
    | succ k1 =>
     have H := HA.out
     clear HA
     simp only [laws_lwTexts.l0] at H
     by_cases c4 : x5_1 < (l0.length : Int)
     · rw [if_pos c4] at H
       have c4b0 : decide (x5_1 < (l0.length : Int)) = true := decide_eq_true c4
       clear c4
       by_cases c5 : 0 ≤ x5_1
       · rw [if_pos c5] at H
         have c5b0 : decide (0 ≤ x5_1) = true := decide_eq_true c5
         clear c5
         by_cases c6 : x5_1 < (l1.length : Int)
         · rw [if_pos c6] at H
           have c6b0 : decide (x5_1 < (l1.length : Int)) = true := decide_eq_true c6
           clear c6
           by_cases c7 : (rdOf ByteArray.empty l0 x5_1).toList = (rdOf ByteArray.empty l1 x5_1).toList
           · rw [if_pos c7] at H
             have c7b0 : ((rdOf ByteArray.empty l0 x5_1).toList == (rdOf ByteArray.empty l1 x5_1).toList) = true := beq_iff_eq.mpr c7
             have c7b1 : ((rdOf ByteArray.empty l0 x5_1).toList != (rdOf ByteArray.empty l1 x5_1).toList) = false := bne_eq_false_iff_eq.mpr c7
             clear c7
             have H' := zA_ H
             clear H
             have p549 : 0 ≤ (x5_1 : Int) := of_decide_eq_true βxa
             have q549 : x5_1 < (l0.length : Int) := of_decide_eq_true βxa
             obtain ⟨ad549, e549, hx549_0⟩ := Kd.at_string HR0.out x5_1 p549 q549
             cases e549
             replace p549 := eq_true p549
             replace q549 := eq_true q549
             have p550 : 0 ≤ (x5_1 : Int) := of_decide_eq_true βxa
             have q550 : x5_1 < (l1.length : Int) := of_decide_eq_true βxa
             obtain ⟨ad550, e550, hx550_0⟩ := Kd.at_string HR1.out x5_1 p550 q550
             cases e550
             replace p550 := eq_true p550
             replace q550 := eq_true q550
             go_wp2
             repeat (go_quiet (fail); try go_wp2)
             go_roundg k1
             case measure => have := HK1.out; omega
             case rel => exact ⟨(wrap64 (x5_1 + 1)), βya, H', ⟨βCa⟩, βwa⟩
           · rw [if_neg c7] at H
             have c7b0 : ((rdOf ByteArray.empty l0 x5_1).toList == (rdOf ByteArray.empty l1 x5_1).toList) = false := beq_eq_false_iff_ne.mpr c7
             have c7b1 : ((rdOf ByteArray.empty l0 x5_1).toList != (rdOf ByteArray.empty l1 x5_1).toList) = true := bne_iff_ne.mpr c7
             obtain rfl := Option.some.inj H
             have p549 : 0 ≤ (x5_1 : Int) := of_decide_eq_true βxa
             have q549 : x5_1 < (l0.length : Int) := of_decide_eq_true βxa
             obtain ⟨ad549, e549, hx549_0⟩ := Kd.at_string HR0.out x5_1 p549 q549
             cases e549
             replace p549 := eq_true p549
             replace q549 := eq_true q549
             have p550 : 0 ≤ (x5_1 : Int) := of_decide_eq_true βxa
             have q550 : x5_1 < (l1.length : Int) := of_decide_eq_true βxa
             obtain ⟨ad550, e550, hx550_0⟩ := Kd.at_string HR1.out x5_1 p550 q550
             cases e550
             replace p550 := eq_true p550
             replace q550 := eq_true q550
             go_wp2
             repeat (go_quiet (fail); try go_wp2)
             go_ret
             exact ⟨βya, βwa⟩
         · rw [if_neg c6] at H
           exact absurd H (by simp)
       · rw [if_neg c5] at H
         exact absurd H (by simp)
     · rw [if_neg c4] at H
       have c4b0 : decide (x5_1 < (l0.length : Int)) = false := decide_eq_false c4
       clear c4
       obtain rfl := Option.some.inj H
       go_wp2
       repeat (go_quiet (fail); try go_wp2)
       go_ret
       exact ⟨βya, βwa⟩
 · rw [if_neg c3] at H
   have c3b0 : ((l0.length : Int) == (l1.length : Int)) = false := beq_eq_false_iff_ne.mpr c3
   have c3b1 : ((l0.length : Int) != (l1.length : Int)) = true := bne_iff_ne.mpr c3
   have c3b2 : (l0.length == l1.length) = false := by first | simpa using c3 | (simp at c3 ⊢; omega)
   obtain rfl := Option.some.inj H
   go_enter Tryd.func45, Tryd.ntmps45
   go_wp2
   repeat (go_quiet (fail); try go_wp2)
   go_ret
   exact ⟨βya, βwa⟩
def laws_lwImage.f (k : Nat) (l0_0 : List ByteArray) (a0_1 : Int) (l1_0 : List ByteArray) (a1_1 : Int) : Option (Bool) := if a0_1 = a1_1 then ((laws_lwTexts.f k l0_0 l1_0).bind fun t553 => (some t553)) else (some false)
theorem laws_lwImage.calls (k : Nat) (A0_0 : Option Addr) (c0_0 : Nat) (l0_0 : List ByteArray) (a0_1 : Int) (A1_0 : Option Addr) (c1_0 : Nat) (l1_0 : List ByteArray) (a1_1 : Int) (r : Bool) (w : World) (hr0_0 : Kd.C Kd.string w A0_0 l0_0.length l0_0) (hc0_0 : l0_0.length ≤ c0_0) (hr1_0 : Kd.C Kd.string w A1_0 l1_0.length l1_0) (hc1_0 : l1_0.length ≤ c1_0) (h : laws_lwImage.f k l0_0 a0_1 l1_0 a1_1 = some r) :
 Calls Tryd.prog 20 #[.agg #[.slice A0_0 l0_0.length c0_0, .int .i64 a0_1], .agg #[.slice A1_0 l1_0.length c1_0, .int .i64 a1_1]] w fun e w' => e = .returned (.bool r) ∧ Below w.heap.size w w' := by
 have hu37 := Tryd.underlying37
 have HR0_0 := zA_ hr0_0
 have HC0_0 := zA_ hc0_0
 clear hr0_0 hc0_0
 have HR1_0 := zA_ hr1_0
 have HC1_0 := zA_ hc1_0
 clear hr1_0 hc1_0
 have HB := zA_ (Below.refl w.heap.size w)
 have H : (if a0_1 = a1_1 then ((laws_lwTexts.f k l0_0 l1_0).bind fun t553 => (some t553)) else (some false)) = some r := h
 clear h
 by_cases c3 : a0_1 = a1_1
 · rw [if_pos c3] at H
   have c3b0 : (a0_1 == a1_1) = true := beq_iff_eq.mpr c3
   have c3b1 : (a0_1 != a1_1) = false := bne_eq_false_iff_eq.mpr c3
   clear c3
   replace H := Option.bind_eq_some_iff.mp H
   obtain ⟨t553, A40, H⟩ := H
   replace H : (some t553) = some r := H
   have A4 := zA_ A40
   clear A40
   obtain rfl := Option.some.inj H
   go_enter Tryd.func20, Tryd.ntmps20
   go_wp2_with (first | ((with_reducible refine gate_dst (N := 2) rfl ?_); refine box_event ?hg (N := 2) ?hd (cs := #[.slice A0_0 l0_0.length c0_0, .int .i64 a0_1]) (t := 37) ?hr ?_; (case hd => exact (by rfl)); (case hg => exact (by rfl)); (case hr => exact βAa); intro gb551 hg w5 hbox hb; have n0_ := zA_ (below_step (zh_ HB.out) hb); have n1_ := zA_ (hbox); have n2_ := zA_ ((by rw [hg]; exact (below_size (zh_ HB.out)) : w.heap.size ≤ gb551)); have n3_ := zA_ ((by rw [hg]; exact (below_size (zh_ HB.out)) : w.heap.size ≤ gb551)); clear HB; have HB := n0_; have BK551 := n1_; have GW551 := n2_; have GE551 := n3_; clear n0_ n1_ n2_ n3_; clear hb hbox hg) | ((with_reducible refine gate_dst (N := 3) rfl ?_); refine box_event ?hg (N := 3) ?hd (cs := #[.slice A1_0 l1_0.length c1_0, .int .i64 a1_1]) (t := 37) ?hr ?_; (case hd => exact (by rfl)); (case hg => exact (by rfl)); (case hr => exact βAa); intro gb552 hg w6 hbox hb; have n0_ := zA_ (blk_below (g := gb551) (o := .cells #[.slice A0_0 l0_0.length c0_0, .int .i64 a0_1] 37 (0, 0)) (zb_ BK551.out) hb); have n1_ := zA_ (below_step (zg1_ HB.out GE551.out) hb); have n2_ := zA_ (hbox); have n3_ := zA_ ((by rw [hg]; exact (below_size (zg1_ HB.out GE551.out)) : w.heap.size ≤ gb552)); have n4_ := zA_ ((by rw [hg]; exact (below_size (zg1_ HB.out GE551.out)) : w.heap.size ≤ gb552)); have n5_ := zA_ ((by rw [hg]; exact Nat.ne_of_lt (blk_lt (g := gb551) (o := .cells #[.slice A0_0 l0_0.length c0_0, .int .i64 a0_1] 37 (0, 0)) (zb_ BK551.out)) : gb551 ≠ gb552)); have n6_ := zA_ ((by rw [hg]; exact Nat.ne_of_gt (blk_lt (g := gb551) (o := .cells #[.slice A0_0 l0_0.length c0_0, .int .i64 a0_1] 37 (0, 0)) (zb_ BK551.out)) : gb552 ≠ gb551)); clear BK551 HB; have BK551 := n0_; have HB := n1_; have BK552 := n2_; have GW552 := n3_; have GE552 := n4_; have NB551_552 := n5_; have NB552_551 := n6_; clear n0_ n1_ n2_ n3_ n4_ n5_ n6_; clear hb hbox hg; have hnb7 := NB551_552.out; have hnc7 := NB552_551.out; have hcz8_0 := cz_ BK551.out 0 (.slice A0_0 l0_0.length c0_0) rfl; have hcz8_1 := cz_ BK551.out 1 (.int .i64 a0_1) rfl; have hfz8_0 := blk_frozen BK551.out 0; have hfz8_1 := blk_frozen BK551.out 1; have hcz9_0 := cz_ BK552.out 0 (.slice A1_0 l1_0.length c1_0) rfl; have hcz9_1 := cz_ BK552.out 1 (.int .i64 a1_1) rfl; have hfz9_0 := blk_frozen BK552.out 0; have hfz9_1 := blk_frozen BK552.out 1) | (go_at_call 45; (with_reducible refine (laws_lwTexts.calls k _ _ l0_0 _ _ l1_0 t553 _ ?side1 ?side2 ?side3 ?side4 A4.out).mono ?_); (case side1 => exact zc_ (Kd.C_below HR0_0.out HB.out)); (case side2 => exact HC0_0.out); (case side3 => exact zc_ (Kd.C_below HR1_0.out HB.out)); (case side4 => exact HC1_0.out); rintro e w' ⟨rfl, ⟨nd, rfl⟩⟩))
   go_ret
   exact ⟨βsa, βw⟩
 · rw [if_neg c3] at H
   have c3b0 : (a0_1 == a1_1) = false := beq_eq_false_iff_ne.mpr c3
   have c3b1 : (a0_1 != a1_1) = true := bne_iff_ne.mpr c3
   obtain rfl := Option.some.inj H
   go_enter Tryd.func20, Tryd.ntmps20
   go_wp2_with (first | ((with_reducible refine gate_dst (N := 2) rfl ?_); refine box_event ?hg (N := 2) ?hd (cs := #[.slice A0_0 l0_0.length c0_0, .int .i64 a0_1]) (t := 37) ?hr ?_; (case hd => exact (by rfl)); (case hg => exact (by rfl)); (case hr => exact βAa); intro gb551 hg w10 hbox hb; have n0_ := zA_ (below_step (zh_ HB.out) hb); have n1_ := zA_ (hbox); have n2_ := zA_ ((by rw [hg]; exact (below_size (zh_ HB.out)) : w.heap.size ≤ gb551)); have n3_ := zA_ ((by rw [hg]; exact (below_size (zh_ HB.out)) : w.heap.size ≤ gb551)); clear HB; have HB := n0_; have BK551 := n1_; have GW551 := n2_; have GE551 := n3_; clear n0_ n1_ n2_ n3_; clear hb hbox hg) | ((with_reducible refine gate_dst (N := 3) rfl ?_); refine box_event ?hg (N := 3) ?hd (cs := #[.slice A1_0 l1_0.length c1_0, .int .i64 a1_1]) (t := 37) ?hr ?_; (case hd => exact (by rfl)); (case hg => exact (by rfl)); (case hr => exact βAa); intro gb552 hg w11 hbox hb; have n0_ := zA_ (blk_below (g := gb551) (o := .cells #[.slice A0_0 l0_0.length c0_0, .int .i64 a0_1] 37 (0, 0)) (zb_ BK551.out) hb); have n1_ := zA_ (below_step (zg1_ HB.out GE551.out) hb); have n2_ := zA_ (hbox); have n3_ := zA_ ((by rw [hg]; exact (below_size (zg1_ HB.out GE551.out)) : w.heap.size ≤ gb552)); have n4_ := zA_ ((by rw [hg]; exact (below_size (zg1_ HB.out GE551.out)) : w.heap.size ≤ gb552)); have n5_ := zA_ ((by rw [hg]; exact Nat.ne_of_lt (blk_lt (g := gb551) (o := .cells #[.slice A0_0 l0_0.length c0_0, .int .i64 a0_1] 37 (0, 0)) (zb_ BK551.out)) : gb551 ≠ gb552)); have n6_ := zA_ ((by rw [hg]; exact Nat.ne_of_gt (blk_lt (g := gb551) (o := .cells #[.slice A0_0 l0_0.length c0_0, .int .i64 a0_1] 37 (0, 0)) (zb_ BK551.out)) : gb552 ≠ gb551)); clear BK551 HB; have BK551 := n0_; have HB := n1_; have BK552 := n2_; have GW552 := n3_; have GE552 := n4_; have NB551_552 := n5_; have NB552_551 := n6_; clear n0_ n1_ n2_ n3_ n4_ n5_ n6_; clear hb hbox hg; have hnb12 := NB551_552.out; have hnc12 := NB552_551.out; have hcz13_0 := cz_ BK551.out 0 (.slice A0_0 l0_0.length c0_0) rfl; have hcz13_1 := cz_ BK551.out 1 (.int .i64 a0_1) rfl; have hfz13_0 := blk_frozen BK551.out 0; have hfz13_1 := blk_frozen BK551.out 1; have hcz14_0 := cz_ BK552.out 0 (.slice A1_0 l1_0.length c1_0) rfl; have hcz14_1 := cz_ BK552.out 1 (.int .i64 a1_1) rfl; have hfz14_0 := blk_frozen BK552.out 0; have hfz14_1 := blk_frozen BK552.out 1))
   go_ret
   exact ⟨βsa, βw⟩
end Go.Proofs.YtldhjbjbjoomcaaDoor.Q
namespace Go.Proofs.YtldhjbjbjoomcaaDoor.Pure
set_option linter.unusedVariables false
set_option linter.unusedSimpArgs false
open Go Go.RowKit Go.Proofs.YtldhjbjbjoomcaaDoor.Q Go.Proofs.YtldhjbjbjoomcaaDoorW.PrintWords Go.Proofs.YtldhjbjbjoomcaaDoorW.PrintLast Go.Proofs.YtldhjbjbjoomcaaDoorW.PrintMore
theorem draw_step_j1 (b : List Int) (x27 : Bool) (i m s x0 x1 x2 : Int) (x3 : ByteArray) (hs : St b i) : ∃ d i' m', Ev (fun n => spec_l01Src_l06Step.j1 n x27 b i m s x0 x1 x2 x3) (x0, x1, x2, d, i', m', s) ∧ St b i' := by
  obtain ⟨r4, i4, m4, e4, s4⟩ := draw_data b i m s hs
  by_cases g : x27 = true
  · exact ⟨r4, i4, m4, Ev.step (fun n => by rw [spec_l01Src_l06Step.j1, if_pos g, e4, Option.bind_some]) (Ev.now _), s4⟩
  · exact ⟨x3, i, m, Ev.step (fun n => by rw [spec_l01Src_l06Step.j1, if_neg g]) (Ev.now _), hs⟩
theorem draw_step_j0 (b : List Int) (i m s x0 x1 x2 : Int) (x3 : ByteArray) (hs : St b i) : ∃ d i' m', Ev (fun n => spec_l01Src_l06Step.j0 n b i m s x0 x1 x2 x3) (x0, x1, x2, d, i', m', s) ∧ St b i' := by
  by_cases g : x0 = 2
  · obtain ⟨d, i', m', e, s'⟩ := draw_step_j1 b true i m s x0 x1 x2 x3 hs
    exact ⟨d, i', m', Ev.step (fun n => by rw [spec_l01Src_l06Step.j0, if_pos g]) e, s'⟩
  · obtain ⟨d, i', m', e, s'⟩ := draw_step_j1 b (x0 == 4) i m s x0 x1 x2 x3 hs
    exact ⟨d, i', m', Ev.step (fun n => by rw [spec_l01Src_l06Step.j0, if_neg g]) e, s'⟩
theorem draw_step (b : List Int) (i m s a : Int) (hs : St b i) (ha : a ≤ 1000) : ∃ k t f d i' m', Ev (fun n => spec_l01Src_l06Step.f n b i m s a) (k, t, f, d, i', m', s) ∧ St b i' := by
  obtain ⟨r1, i1, m1, e1, s1, a1, _, c1⟩ := draw_n b i m s 4 hs (by omega)
  obtain ⟨r2, i2, m2, e2, s2, _⟩ := draw_n b i1 m1 s a s1 (by omega)
  obtain ⟨r3, i3, m3, e3, s3, _⟩ := draw_n b i2 m2 s a s2 (by omega)
  obtain ⟨d4, i4, m4, e4, s4⟩ := draw_step_j0 b i3 m3 s (wrap64 (1 + r1)) r2 r3 ⟨#[]⟩ s3
  obtain ⟨d5, i5, m5, e5, s5⟩ := draw_step_j0 b i2 m2 s (wrap64 (1 + r1)) r2 0 ⟨#[]⟩ s2
  unfold spec_l01Src_l06Step.f
  simp only [e1, Option.bind_some, e2]
  by_cases g : wrap64 (1 + r1) ≥ 3
  · simp only [if_pos g, e3, Option.bind_some]; exact ⟨_, _, _, _, _, _, e4, s4⟩
  · simp only [if_neg g]; exact ⟨_, _, _, _, _, _, e5, s5⟩
theorem draw_any_j0 (b : List Int) (i m s : Int) (hs : St b i) (x0 x1 x2 : Int) (x3 : ByteArray) : ∃ k t f d i' m', Ev (fun n => spec_l01Src_l06Any.j0 n b i m s x0 x1 x2 x3) (k, t, f, d, i', m', s) ∧ St b i' := by
  obtain ⟨g1, i1, m1, e1, s1⟩ := draw_one b i m s 10 hs (by omega)
  obtain ⟨r2, i2, m2, e2, s2, a2, _, c2⟩ := draw_n b i1 m1 s 5 s1 (by omega)
  obtain ⟨r3, i3, m3, e3, s3, _⟩ := draw_n b i2 m2 s 7 s2 (by omega)
  obtain ⟨r4, i4, m4, e4, s4, a4, _, c4⟩ := draw_n b i2 m2 s 3 s2 (by omega)
  obtain ⟨r5, i5, m5, e5, s5, a5, _, c5⟩ := draw_n b i2 m2 s 5 s2 (by omega)
  have c4 := c4 (by omega)
  have c5 := c5 (by omega)
  obtain ⟨r6, i6, m6, e6, s6, _⟩ := draw_bytes b i4 m4 s (7 + r4) (by omega) (by omega) s4
  by_cases g : g1 = true
  rotate_left
  · exact ⟨_, _, _, _, _, _, Ev.step (fun n => by rw [spec_l01Src_l06Any.j0, e1, Option.bind_some, if_neg g]) (Ev.now _), s1⟩
  by_cases k0 : r2 = 0
  · exact ⟨_, _, _, _, _, _, Ev.step (fun n => by rw [spec_l01Src_l06Any.j0, e1, Option.bind_some, if_pos g, e2, Option.bind_some, if_pos k0, e3, Option.bind_some]) (Ev.now _), s3⟩
  by_cases k1 : r2 = 1
  · refine ⟨_, _, _, _, _, _, Ev.step (fun n => by rw [spec_l01Src_l06Any.j0, e1, Option.bind_some, if_pos g, e2, Option.bind_some, if_neg k0, if_pos k1, Option.bind_some, e4, Option.bind_some, if_pos a4, if_pos (show r4 < (([-1, 7, 8] : List Int).length : Int) from by simp only [List.length_cons, List.length_nil]; omega)]) (Ev.now _), s4⟩
  by_cases k2 : r2 = 2
  · refine ⟨_, _, _, _, _, _, Ev.step (fun n => by rw [spec_l01Src_l06Any.j0, e1, Option.bind_some, if_pos g, e2, Option.bind_some, if_neg k0, if_neg k1, if_pos k2, Option.bind_some, e5, Option.bind_some, if_pos a5, if_pos (show r5 < (([-1, 7, 8, 1000000, 1000001] : List Int).length : Int) from by simp only [List.length_cons, List.length_nil]; omega)]) (Ev.now _), s5⟩
  by_cases k3 : r2 = 3
  · refine ⟨x0, x1, x2, r6, i6, m6, Ev.step (fun n => by rw [spec_l01Src_l06Any.j0, e1, Option.bind_some, if_pos g, e2, Option.bind_some, if_neg k0, if_neg k1, if_neg k2, if_pos k3, e4, Option.bind_some]) ?_, s6⟩
    simp only
    rw [wrap64_id (n := 7 + r4) (by omega) (by omega)]
    exact Ev.bind e6 (Ev.now _)
  · exact ⟨_, _, _, _, _, _, Ev.step (fun n => by rw [spec_l01Src_l06Any.j0, e1, Option.bind_some, if_pos g, e2, Option.bind_some, if_neg k0, if_neg k1, if_neg k2, if_neg k3]) (Ev.now _), s2⟩
theorem draw_anyS (b : List Int) (i m s : Int) (hs : St b i) : ∃ k t f d i' m', Ev (fun n => spec_l01Src_l06Any.f n b i m s) (k, t, f, d, i', m', s) ∧ St b i' := by
  unfold spec_l01Src_l06Any.f
  obtain ⟨k1, t1, f1, d1, i1, m1, e1, s1⟩ := draw_step b i m s 4 hs (by omega)
  obtain ⟨g1, i2, m2, e2, s2⟩ := draw_one b i1 m1 s 6 s1 (by omega)
  obtain ⟨r3, i3, m3, e3, s3, _⟩ := draw_n b i2 m2 s 9 s2 (by omega)
  by_cases g : g1 = true
  · obtain ⟨k, t, f, d, i', m', e, s'⟩ := draw_any_j0 b i3 m3 s s3 5 0 r3 ⟨#[]⟩
    refine ⟨k, t, f, d, i', m', Ev.bind e1 ?_, s'⟩
    simp only [e2, Option.bind_some, if_pos g, e3]; exact e
  · obtain ⟨k, t, f, d, i', m', e, s'⟩ := draw_any_j0 b i2 m2 s s2 k1 t1 f1 d1
    refine ⟨k, t, f, d, i', m', Ev.bind e1 ?_, s'⟩
    simp only [e2, Option.bind_some, if_neg g]; exact e
theorem draw_steps_l0 (b : List Int) (s a : Int) (ha : a ≤ 1000) (d : Nat) : ∀ (acc : List Stp) (lab i m : Int), d + acc.length ≤ 2000 → St b i →
    ∃ l i' m', Ev (fun n => spec_l01Src_l06Steps.l0 n a acc lab (d : Int) b i m s) (l, i', m', s) ∧ St b i' ∧ l.length ≤ acc.length + d := by
  induction d with
  | zero =>
    intro acc lab i m _ hs
    exact ⟨acc, i, m, Ev.step (fun n => by rw [spec_l01Src_l06Steps.l0, if_neg (by omega)]) (Ev.now _), hs, Nat.le_refl _⟩
  | succ d ih =>
    intro acc lab i m hl hs
    have hd : (((d + 1 : Nat) : Int)) > 0 := by omega
    have hw : wrap64 (((d + 1 : Nat) : Int) - 1) = (d : Int) := by rw [wrap64_id (by omega) (by omega)]; omega
    have fin : ∀ (k t f : Int) (x : ByteArray) (lab i m : Int), St b i → ∃ l i' m', Ev (fun n => spec_l01Src_l06Steps.j1 n a acc lab ((d + 1 : Nat) : Int) b i m s k t f x) (l, i', m', s) ∧ St b i' ∧ l.length ≤ acc.length + (d + 1) := by
      intro k t f x lab i m hs
      have hc := specCode (([] ++ acc) ++ [⟨k, t, f, x⟩]) a
      have n1 : ([] : List Stp).length + acc.length < 3518437208883 := by simp; omega
      have n2 : ([] ++ acc : List Stp).length + [(⟨k, t, f, x⟩ : Stp)].length < 3518437208883 := by simp; omega
      have n3 : acc.length + [(⟨k, t, f, x⟩ : Stp)].length < 3518437208883 := by simp; omega
      by_cases c : codeM (([] ++ acc) ++ [⟨k, t, f, x⟩]) a = 0
      · obtain ⟨l, i', m', e, s', hl'⟩ := ih (acc ++ [⟨k, t, f, x⟩]) lab i m (by simp; omega) hs
        refine ⟨l, i', m', Ev.step (fun n => by rw [spec_l01Src_l06Steps.j1, Option.bind_some, if_pos n1, Option.bind_some, Option.bind_some, if_pos n2]) (Ev.bind hc ?_), s', by simp at hl'; omega⟩
        simp only [if_pos c, Option.bind_some, if_pos n3]
        rw [hw]; exact e
      · obtain ⟨l, i', m', e, s', hl'⟩ := ih acc lab i m (by omega) hs
        refine ⟨l, i', m', Ev.step (fun n => by rw [spec_l01Src_l06Steps.j1, Option.bind_some, if_pos n1, Option.bind_some, Option.bind_some, if_pos n2]) (Ev.bind hc ?_), s', by omega⟩
        simp only [if_neg c]
        rw [hw]; exact e
    obtain ⟨k1, t1, f1, d1, i1, m1, e1, s1⟩ := draw_step b i m s a hs ha
    obtain ⟨g1, i2, m2, e2, s2⟩ := draw_one b i1 m1 s 5 s1 (by omega)
    obtain ⟨r3, i3, m3, e3, s3, _⟩ := draw_n b i2 m2 s 3 s2 (by omega)
    by_cases g : g1 = true
    · obtain ⟨l, i', m', e, s', hl'⟩ := fin 5 0 (wrap64 (wrap64 (lab + 1) + r3)) ⟨#[]⟩ (wrap64 (wrap64 (lab + 1) + r3)) i3 m3 s3
      refine ⟨l, i', m', Ev.step (fun n => by rw [spec_l01Src_l06Steps.l0, if_pos hd]) (Ev.bind e1 ?_), s', hl'⟩
      simp only [e2, Option.bind_some, if_pos g, e3]
      exact e
    · obtain ⟨l, i', m', e, s', hl'⟩ := fin k1 t1 f1 d1 lab i2 m2 s2
      refine ⟨l, i', m', Ev.step (fun n => by rw [spec_l01Src_l06Steps.l0, if_pos hd]) (Ev.bind e1 ?_), s', hl'⟩
      simp only [e2, Option.bind_some, if_neg g]
      exact e
theorem draw_steps (b : List Int) (i m s a : Int) (h0 : 0 ≤ a) (ha : a ≤ 1000) (hs : St b i) : ∃ l i' m', Ev (fun n => spec_l01Src_l06Steps.f n b i m s a) (l, i', m', s) ∧ St b i' ∧ l.length ≤ 1003 := by
  unfold spec_l01Src_l06Steps.f
  rw [wrap64_id (n := a + 3) (by omega) (by omega)]
  obtain ⟨r1, i1, m1, e1, s1, a1, _, c1⟩ := draw_n b i m s (a + 3) hs (by omega)
  have c1 := c1 (by omega)
  obtain ⟨l, i', m', e, s', hl⟩ := draw_steps_l0 b s a ha r1.toNat [] 0 i1 m1 (by simp; omega) s1
  rw [Int.toNat_of_nonneg a1] at e
  simp only [e1, Option.bind_some]
  exact ⟨l, i', m', e, s', by simp at hl; omega⟩
theorem draw_oddS_l0 (b : List Int) (s : Int) (d : Nat) : ∀ (acc : List Stp) (j : Nat) (i m : Int), j + d = 21 → acc.length = j → St b i → ∃ l i' m', Ev (fun n => spec_l01Src_l06Odd.l0 n acc (j : Int) b i m s) (l, i', m', s) ∧ St b i' ∧ l.length ≤ 21 := by
  induction d with
  | zero =>
    intro acc j i m h hl hs
    obtain ⟨r1, i1, m1, e1, s1, a1, _, c1⟩ := draw_n b i m s 2 hs (by omega)
    have c1 := c1 (by omega)
    refine ⟨acc, i1, m1, Ev.step (fun n => by rw [spec_l01Src_l06Odd.l0, e1, Option.bind_some, wrap64_id (by omega) (by omega), if_neg (by omega)]) (Ev.now _), s1, by omega⟩
  | succ d ih =>
    intro acc j i m h hl hs
    obtain ⟨r1, i1, m1, e1, s1, a1, _, c1⟩ := draw_n b i m s 2 hs (by omega)
    have c1 := c1 (by omega)
    by_cases g : (j : Int) < 20 + r1
    · obtain ⟨l, i', m', e, s', hl'⟩ := ih (acc ++ [⟨5, 0, (j : Int), ⟨#[]⟩⟩]) (j + 1) i1 m1 (by omega) (by simp; omega) s1
      refine ⟨l, i', m', Ev.step (fun n => by rw [spec_l01Src_l06Odd.l0, e1, Option.bind_some, wrap64_id (by omega) (by omega), if_pos g, if_pos (by omega), next64 (by omega)]) ?_, s', hl'⟩
      exact e
    · exact ⟨acc, i1, m1, Ev.step (fun n => by rw [spec_l01Src_l06Odd.l0, e1, Option.bind_some, wrap64_id (by omega) (by omega), if_neg g]) (Ev.now _), s1, by omega⟩
theorem draw_oddS_j0 (b : List Int) (s : Int) (acc : List Stp) (i m : Int) (hl : acc.length ≤ 2000) (hs : St b i) : ∃ l i' m', Ev (fun n => spec_l01Src_l06Odd.j0 n acc b i m s) (l, i', m', s) ∧ St b i' ∧ l.length ≤ 2000 := by
  obtain ⟨g1, i1, m1, e1, s1⟩ := draw_one b i m s 30 hs (by omega)
  by_cases g : g1 = true
  · obtain ⟨l, i', m', e, s', hl'⟩ := draw_oddS_l0 b s 21 [] 0 i1 m1 rfl rfl s1
    exact ⟨l, i', m', Ev.step (fun n => by rw [spec_l01Src_l06Odd.j0, e1, Option.bind_some, if_pos g]; rfl) e, s', by omega⟩
  · exact ⟨acc, i1, m1, Ev.step (fun n => by rw [spec_l01Src_l06Odd.j0, e1, Option.bind_some, if_neg g]) (Ev.now _), s1, hl⟩
theorem draw_oddS (b : List Int) (i m s a : Int) (h0 : 0 ≤ a) (ha : a ≤ 1000) (hs : St b i) : ∃ l i' m', Ev (fun n => spec_l01Src_l06Odd.f n b i m s a) (l, i', m', s) ∧ St b i' ∧ l.length ≤ 2000 := by
  unfold spec_l01Src_l06Odd.f
  obtain ⟨l, i1, m1, e1, s1, hl⟩ := draw_steps b i m s a h0 ha hs
  obtain ⟨r2, i2, m2, e2, s2, a2, _, c2⟩ := draw_n b i1 m1 s 8 s1 (by omega)
  by_cases g0 : r2 = 0
  · obtain ⟨k3, t3, f3, d3, i3, m3, e3, s3⟩ := draw_anyS b i2 m2 s s2
    obtain ⟨l4, i4, m4, e4, s4, hl4⟩ := draw_oddS_j0 b s (l ++ [⟨k3, t3, f3, d3⟩]) i3 m3 (by simp; omega) s3
    refine ⟨l4, i4, m4, Ev.bind e1 ?_, s4, hl4⟩
    simp only [e2, Option.bind_some, if_pos g0]
    refine Ev.bind e3 ?_
    simp only [if_pos (show l.length < 3518437208883 by omega)]
    exact e4
  by_cases g1 : r2 = 1
  · by_cases g2 : (l.length : Int) > 0
    · obtain ⟨r3, i3, m3, e3, s3, a3, b3, c3⟩ := draw_n b i2 m2 s (l.length : Int) s2 (by omega)
      have hlt : r3 < (l.length : Int) := by
        by_cases q : (l.length : Int) ≤ 1
        · have := b3 q; omega
        · exact c3 (by omega)
      obtain ⟨l4, i4, m4, e4, s4, hl4⟩ := draw_oddS_j0 b s (l ++ [⟨(rd_T42 l r3).f0, (rd_T42 l r3).f1, (rd_T42 l r3).f2, (rd_T42 l r3).f3⟩]) i3 m3 (by simp; omega) s3
      refine ⟨l4, i4, m4, Ev.bind e1 ?_, s4, hl4⟩
      simp only [e2, Option.bind_some, if_neg g0, if_pos g1, if_pos g2, e3, if_pos a3, if_pos hlt, if_pos (show l.length < 3518437208883 by omega)]
      exact e4
    · obtain ⟨l4, i4, m4, e4, s4, hl4⟩ := draw_oddS_j0 b s l i2 m2 (by omega) s2
      refine ⟨l4, i4, m4, Ev.bind e1 ?_, s4, hl4⟩
      simp only [e2, Option.bind_some, if_neg g0, if_pos g1, if_neg g2]
      exact e4
  · obtain ⟨l4, i4, m4, e4, s4, hl4⟩ := draw_oddS_j0 b s l i2 m2 (by omega) s2
    refine ⟨l4, i4, m4, Ev.bind e1 ?_, s4, hl4⟩
    simp only [e2, Option.bind_some, if_neg g0, if_neg g1]
    exact e4
theorem draw_Apply (l : List Int) (h : l.length ≤ 1048576) : ∃ im st, Ev (fun k => spec_DrawImageApply.f k l) (im, st) ∧ im.length ≤ 9 ∧ st.length ≤ 2000 := by
  unfold spec_DrawImageApply.f
  obtain ⟨m, s, _, _, hs, e0⟩ := draw_source l h
  obtain ⟨im, i1, m1, e1, s1, l1⟩ := draw_odd l 0 m s hs
  by_cases g : (im.length : Int) = 0
  · refine ⟨im, [], Ev.bind e0 (Ev.bind e1 ?_), l1, by simp⟩
    simp only [if_pos g]; exact Ev.now _
  · obtain ⟨st, i2, m2, e2, s2, l2⟩ := draw_oddS l i1 m1 s (im.length : Int) (by omega) (by omega) s1
    refine ⟨im, st, Ev.bind e0 (Ev.bind e1 ?_), l1, l2⟩
    simp only [if_neg g]; exact Ev.bind e2 (Ev.now _)
theorem draw_Xored (l : List Int) (h : l.length ≤ 1048576) : ∃ a b, Ev (fun k => spec_DrawXored.f k l) (a, b) := by
  unfold spec_DrawXored.f
  obtain ⟨m, s, _, _, hs, e0⟩ := draw_source l h
  obtain ⟨a, i1, m1, e1, s1⟩ := draw_data l 0 m s hs
  obtain ⟨g1, i2, m2, e2, s2⟩ := draw_one l i1 m1 s 6 s1 (by omega)
  obtain ⟨r3, i3, m3, e3, s3, a3, _, c3⟩ := draw_n l i2 m2 s 3 s2 (by omega)
  have c3 := c3 (by omega)
  obtain ⟨r4, i4, m4, e4, s4, _⟩ := draw_bytes l i3 m3 s (7 + r3) (by omega) (by omega) s3
  obtain ⟨r5, i5, m5, e5, s5⟩ := draw_data l i2 m2 s s2
  by_cases g : g1 = true
  · refine ⟨a, r4, Ev.bind e0 ?_⟩
    simp only [e1, Option.bind_some, e2, if_pos g, e3]
    rw [wrap64_id (n := 7 + r3) (by omega) (by omega)]
    exact Ev.bind e4 (Ev.now _)
  · refine ⟨a, r5, Ev.bind e0 ?_⟩
    simp only [e1, Option.bind_some, e2, if_neg g, e5]
    exact Ev.now _
theorem draw_MadeBy (l : List Int) (h : l.length ≤ 1048576) : ∃ im k t f d, Ev (fun n => spec_DrawMadeBy.f n l) (im, k, t, f, d) ∧ im.length ≤ 9 := by
  have fin : ∀ (im : List ByteArray) (x : Bool) (i m s : Int), im.length ≤ 9 → St l i → ∃ k t f d, Ev (fun n => spec_DrawMadeBy.j0 n im x l i m s) (im, k, t, f, d) := by
    intro im x i m s hl hs
    by_cases g : x = true
    · obtain ⟨k, t, f, d, i1, m1, e1, s1⟩ := draw_anyS l i m s hs
      exact ⟨k, t, f, d, Ev.step (fun n => by rw [spec_DrawMadeBy.j0, if_pos g]) (Ev.bind e1 (Ev.now _))⟩
    · obtain ⟨k, t, f, d, i1, m1, e1, s1⟩ := draw_step l i m s (im.length : Int) hs (by omega)
      exact ⟨k, t, f, d, Ev.step (fun n => by rw [spec_DrawMadeBy.j0, if_neg g]) (Ev.bind e1 (Ev.now _))⟩
  unfold spec_DrawMadeBy.f
  obtain ⟨m, s, _, _, hs, e0⟩ := draw_source l h
  obtain ⟨im, i1, m1, e1, s1, l1⟩ := draw_odd l 0 m s hs
  by_cases g : (im.length : Int) = 0
  · obtain ⟨k, t, f, d, e⟩ := fin im true i1 m1 s l1 s1
    refine ⟨im, k, t, f, d, Ev.bind e0 (Ev.bind e1 ?_), l1⟩
    simp only [if_pos g]; exact e
  · obtain ⟨g2, i2, m2, e2, s2⟩ := draw_one l i1 m1 s 8 s1 (by omega)
    obtain ⟨k, t, f, d, e⟩ := fin im g2 i2 m2 s l1 s2
    refine ⟨im, k, t, f, d, Ev.bind e0 (Ev.bind e1 ?_), l1⟩
    simp only [if_neg g, e2, Option.bind_some]; exact e
theorem draw_IDigest (l : List Int) (h : l.length ≤ 1048576) : ∃ im, Ev (fun k => spec_DrawImageDigest.f k l) im ∧ im.length ≤ 9 := by
  unfold spec_DrawImageDigest.f
  obtain ⟨m, s, _, _, hs, e0⟩ := draw_source l h
  obtain ⟨im, i1, m1, e1, s1, l1⟩ := draw_odd l 0 m s hs
  exact ⟨im, Ev.bind e0 (Ev.bind e1 (Ev.now _)), l1⟩
def imageM (l : List ByteArray) : Bool := decide (1 ≤ (l.length : Int) ∧ (l.length : Int) ≤ 8) && !(l.any (fun s => (s.size : Int) != 8))
theorem implImage (l : List ByteArray) (h : l.length ≤ 9223372036854775807) : impl_isImage.f l = some (imageM l) := by
  unfold impl_isImage.f imageM
  rw [if_pos h]
theorem specImage_l0 (N : Nat) (hN : N ≤ 1000) (r : List ByteArray) : ∀ p : List ByteArray, p.length + r.length = N → Ev (fun k => spec_ImageRight.l0 k (p ++ r) (p.length : Int)) (!(r.any (fun s => (s.size : Int) != 8))) := by
  induction r with
  | nil => intro p h; exact Ev.step (f := fun _ => some true) (fun k => by rw [spec_ImageRight.l0, if_neg (not_lt_end p)]) (Ev.now _)
  | cons a r ih =>
    intro p h
    simp only [List.length_cons] at h
    refine Ev.step (fun k => by rw [spec_ImageRight.l0, if_pos (lt_mid p a r), if_pos (by omega), rdS_mid, next64 (by omega)]) ?_
    rw [List.any_cons]
    by_cases g : (a.size : Int) = 8
    · simp only [if_pos g, show ((a.size : Int) != 8) = false from bne_eq_false_iff_eq.2 g, Bool.false_or]
      have := ih (p ++ [a]) (by simp; omega)
      rw [← snoc_app, lenS_snoc] at this
      exact this
    · simp only [if_neg g, show ((a.size : Int) != 8) = true from bne_iff_ne.2 g, Bool.true_or, Bool.not_true]
      exact Ev.now _
theorem specImage (l : List ByteArray) : Ev (fun k => spec_ImageRight.f k l) (imageM l) := by
  unfold spec_ImageRight.f imageM
  by_cases h1 : (l.length : Int) < 1
  · simp only [if_pos h1, decide_eq_false (show ¬ (1 ≤ (l.length : Int) ∧ (l.length : Int) ≤ 8) by omega), Bool.false_and]
    exact Ev.step (fun k => by rw [spec_ImageRight.j0, if_pos rfl]) (Ev.now _)
  · simp only [if_neg h1]
    by_cases h2 : (l.length : Int) > 8
    · rw [decide_eq_true h2, decide_eq_false (show ¬ (1 ≤ (l.length : Int) ∧ (l.length : Int) ≤ 8) by omega), Bool.false_and]
      exact Ev.step (fun k => by rw [spec_ImageRight.j0, if_pos rfl]) (Ev.now _)
    · rw [decide_eq_false h2, decide_eq_true (show 1 ≤ (l.length : Int) ∧ (l.length : Int) ≤ 8 by omega), Bool.true_and]
      have := specImage_l0 l.length (by omega) l [] (by simp)
      exact Ev.step (f := fun k => spec_ImageRight.l0 k l 0) (fun k => by rw [spec_ImageRight.j0, if_neg (by decide)]) this
end Go.Proofs.YtldhjbjbjoomcaaDoor.Pure
namespace Go.Proofs.YtldhjbjbjoomcaaDoor.Q
open Go.RowKit Go.Proofs.YtldhjbjbjoomcaaDoorW.PrintWords Go.Proofs.YtldhjbjbjoomcaaDoorW.PrintLast Go.Proofs.YtldhjbjbjoomcaaDoorW.PrintMore
attribute [local go_sem] max2_int min2_int max_two min_two max_three min_three max_four min_four Instr.field asAgg
set_option linter.unusedVariables false
set_option linter.unusedSimpArgs false
set_option maxHeartbeats 8000000
set_option maxRecDepth 100000
def spec_l07Ill.f (a0 : Int) : Option (List ByteArray × Int) := some (([] : List ByteArray), a0)
theorem spec_l07Ill.calls (a0 : Int) (r1 : List ByteArray) (r2 : Int) (w : World) (h : spec_l07Ill.f a0 = some (r1, r2)) :
 Calls Tryd.prog 46 #[.int .i64 a0] w fun e w' => ∃ v0_ : Value, e = .returned (.agg #[v0_, .int .i64 r2]) ∧ Kd.R Kd.string 9 w' w.heap.size (fun _ => True) v0_ r1 ∧ Below w.heap.size w w' := by
 have hu37 := Tryd.underlying37
 have HB := zA_ (Below.refl w.heap.size w)
 have H : (some (([] : List ByteArray), a0)) = some (r1, r2) := h
 clear h
 simp only [Option.some.injEq, Prod.mk.injEq] at H
 obtain ⟨rfl, rfl⟩ := H
 go_enter Tryd.func46, Tryd.ntmps46
 go_wp2_with (first | ((with_reducible refine gate_dst (N := 2) rfl ?_); refine box_event ?hg (N := 2) ?hd (cs := #[.slice none 0 0, .int .i64 0]) (t := 37) ?hr ?_; (case hd => exact (by rfl)); (case hg => exact (by rfl)); (case hr => exact βAa); intro gb554 hg w2 hbox hb; have n0_ := zA_ (below_step (zh_ HB.out) hb); have n1_ := zA_ (hbox); have n2_ := zA_ ((by rw [hg]; exact (below_size (zh_ HB.out)) : w.heap.size ≤ gb554)); have n3_ := zA_ ((by rw [hg]; exact (below_size (zh_ HB.out)) : w.heap.size ≤ gb554)); clear HB; have HB := n0_; have BK554 := n1_; have GW554 := n2_; have GE554 := n3_; clear n0_ n1_ n2_ n3_; clear hb hbox hg; have hcz3_0 := cz_ BK554.out 0 (.slice none 0 0) rfl; have hcz3_1 := cz_ BK554.out 1 (.int .i64 0) rfl; have hfz3_0 := blk_frozen BK554.out 0; have hfz3_1 := blk_frozen BK554.out 1))
 refine bodyPost_ret (results_cell_row rfl _ _ gb554 37 #[.slice none 0 0, .int .i64 a0] (0, 0) _ rfl (by (with_reducible repeat (first | refine blk_drewN ?_ _ | refine blk_drew ?_ | refine blk_alloc ?_ _)); refine blk_put (cs := #[.slice none 0 0, .int .i64 0]) ?_ 1 _ rfl; (with_reducible repeat (first | refine blk_drewN ?_ _ | refine blk_drew ?_ | refine blk_alloc ?_ _)); refine blk_put (cs := #[.slice none 0 0, .int .i64 0]) ?_ 0 _ rfl; (with_reducible repeat (first | refine blk_drewN ?_ _ | refine blk_drew ?_ | refine blk_alloc ?_ _)); exact BK554.out) Tryd.underlying37 rfl βDa) rfl ?_
 exact ⟨_, βsa, βka, (by repeat (first | (with_reducible first | exact HB.out | apply below_alloc | apply pw_below_drewN | apply below_drew1 | refine below_set ?_ GE554.out) | exact HB.out))⟩
mutual
def spec_Xored.j0 : Nat → ByteArray → ByteArray → Bool → Option (ByteArray)
 | 0, _, _, _ => none
 | k + 1, x0, x1, x14 => if x14 = true then (some (⟨#[]⟩ : ByteArray)) else (if 8 ≤ 281474976710656 then (spec_Xored.l0 k x0 x1 (List.replicate 8 0) 0) else (none))
def spec_Xored.l0 : Nat → ByteArray → ByteArray → List Int → Int → Option (ByteArray)
 | 0, _, _, _, _ => none
 | k + 1, x0, x1, x5, x6 => if x6 < 8 then (if 0 ≤ x6 then (if x6 < (x0.size : Int) then (if x6 < (x1.size : Int) then (if x6 < (x5.length : Int) then (spec_Xored.l0 k x0 x1 (x5.set (x6 : Int).toNat (Go.bits .xor .u8 (bt x0 x6) (bt x1 x6))) (wrap64 (x6 + 1))) else (none)) else (none)) else (none)) else (none)) else (some (strOfNums x5))
end
def spec_Xored.f (k : Nat) (a0 : ByteArray) (a1 : ByteArray) : Option (ByteArray) := if (a0.size : Int) = 8 then (spec_Xored.j0 k a0 a1 ((a1.size : Int) != 8)) else (spec_Xored.j0 k a0 a1 true)
def spec_Xored.T7 : Bool × List (List Nat × List Nat) := (true, [([], []), ([], []), ([], []), ([], []), ([2, 3], [2, 3]), ([], []), ([], []), ([5, 6], [5, 6]), ([4, 7], [4, 7]), ([0, 1, 0, 1, 2, 3, 4, 5, 6, 7, 8], [0, 1]), ([9, 8, 0, 1, 2, 3, 4, 5, 6, 7, 8], [8, 9])])
def spec_Xored.B7 : List Nat := [0, 0, 0, 0, 12, 0, 0, 96, 252, 511, 1023]
theorem spec_Xored.tab7 : rtab .any (opsOf Tryd.f23 7) = spec_Xored.T7 := by kernel_rfl
theorem spec_Xored.bits7 : waitsOk spec_Xored.T7.2 spec_Xored.B7 = true := by kernel_rfl
theorem spec_Xored.calls (k : Nat) (a0 : ByteArray) (a1 : ByteArray) (r : ByteArray) (w : World) (h : spec_Xored.f k a0 a1 = some r) :
 Calls Tryd.prog 23 #[.string a0, .string a1] w fun e w' => e = .returned (.string r) ∧ Below w.heap.size w w' := by
 have HB := zA_ (Below.refl w.heap.size w)
 have H : (if (a0.size : Int) = 8 then (spec_Xored.j0 k a0 a1 ((a1.size : Int) != 8)) else (spec_Xored.j0 k a0 a1 true)) = some r := h
 clear h
 have HC3 := zA_ H
 clear H
 go_enter Tryd.func23, Tryd.ntmps23
 go_upto_region 1 with (fail)
 go_cut [14] (fun v14 wc => ∃ (kq : Nat) (x14_2 : Bool), v14 = .bool x14_2 ∧ Aside0 (spec_Xored.j0 kq a0 a1 x14_2 = some r) ∧ Aside0 (kq ≤ k) ∧ Aside0 (Below w.heap.size w wc))
 case first =>
  have H := HC3.out
  clear HC3
  by_cases c4 : (a0.size : Int) = 8
  · rw [if_pos c4] at H
    have c4b0 : ((a0.size : Int) == 8) = true := beq_iff_eq.mpr c4
    have c4b1 : ((a0.size : Int) != 8) = false := bne_eq_false_iff_eq.mpr c4
    clear c4
    (first | rw [c4b0] | (simp only [i64_w, i32_w]; rw [c4b0]) | skip)
    have H' := zA_ H
    clear H
    go_wp2
    go_meet
    case rel => exact ⟨_, (((a1.size : Int) != 8)), βya, H', ⟨βBa⟩, ⟨zh_ HB.out⟩⟩
  · rw [if_neg c4] at H
    have c4b0 : ((a0.size : Int) == 8) = false := beq_eq_false_iff_ne.mpr c4
    have c4b1 : ((a0.size : Int) != 8) = true := bne_iff_ne.mpr c4
    (first | rw [c4b0] | (simp only [i64_w, i32_w]; rw [c4b0]) | skip)
    have H' := zA_ H
    clear H
    go_wp2
    go_meet
    case rel => exact ⟨_, (true), βya, H', ⟨βBa⟩, ⟨zh_ HB.out⟩⟩
 case rest =>
  clear HC3
  try clear c2
  try clear p2
  try clear c4
  try clear c4b0
  try clear c4b1
  obtain ⟨kq, x14_2, rfl, HA, HJ2, HB⟩ := hcut
  cases kq with
  | zero => exact absurd HA.out (by simp [spec_Xored.j0])
  | succ kj2 =>
   have H := HA.out
   clear HA
   simp only [spec_Xored.j0] at H
   by_cases c5 : x14_2 = true
   · subst c5
     have H1 : (some (⟨#[]⟩ : ByteArray)) = some r := by rw [if_pos rfl] at H; exact H
     clear H
     have H := H1
     clear H1
     obtain rfl := Option.some.inj H
     go_wp2
     go_ret
     exact ⟨βsa, βoa⟩
   · replace c5 := Bool.eq_false_iff.mpr c5
     subst c5
     have H1 : (if 8 ≤ 281474976710656 then (spec_Xored.l0 kj2 a0 a1 (List.replicate 8 0) 0) else (none)) = some r := by rw [if_neg (show ¬ (false = true) by decide)] at H; exact H
     clear H
     have H := H1
     clear H1
     by_cases c6 : 8 ≤ 281474976710656
     · rw [if_pos c6] at H
       have c6b0 := eq_true c6
       have c6b1 : decide (8 ≤ 281474976710656) = true := decide_eq_true c6
       clear c6
       obtain ⟨y555, hy555⟩ : ∃ y_ : List Int, y_ = (List.replicate 8 0) := ⟨_, rfl⟩
       replace H : (spec_Xored.l0 kj2 a0 a1 y555 0) = some r := by first | (rw [hy555]; with_reducible exact H) | (have H2_ := (Option.bind_some _ _).symm.trans H; rw [hy555]; with_reducible exact H2_) | (have H2_ := (Option.bind_some _ _).symm.trans H; with_reducible exact H2_) | with_reducible exact H | (rw [hy555]; exact H) | exact H
       have Ny555 := zA_ hy555
       clear hy555
       have H' := zA_ H
       clear H
       go_wp2_with (first | ((with_reducible refine gate_dst (N := 15) rfl ?_); (try (refine gate_guard (by rfl) ?_; dsimp only)); refine Kd.R_make (Kd.int .u8) _ 5 rfl (N := 15) rfl 24 _ _ rfl 8 rfl rfl Tryd.underlying24 (.int .u8 0) 1 info5 rfl (by decide) (by omega) 0 (ok := fun _ => True) (okp := fun _ => True) rfl (fun _ hk => hk) trivial (by omega) (by omega) (Below.refl _ _) (Nat.le_refl _) ?_; intro v556 w7 ho8 hb hg_ hnew_; clear hg_ hnew_; (first | rw [← Ny555.out] at ho8 | (simp only [Int.reduceToNat] at ho8; rw [← Ny555.out] at ho8)); have n0_ := zA_ (Kd.R_lower ho8 (below_size (zh_ HB.out))); have n1_ := zA_ (below_step (zh_ HB.out) hb); clear HB; have HO557 := n0_; have HB := n1_; clear n0_ n1_; clear hb ho8))
       go_loopg [6] kj2 (fun kq v6 w' => ∃ (x5_2 : List Int) (x6_2 : Int), v6 = .int .i64 x6_2 ∧ Aside0 (spec_Xored.l0 kq a0 a1 x5_2 x6_2 = some r) ∧ Aside0 (kq ≤ kj2) ∧ Aside0 (Kd.R (Kd.int .u8) 5 w' w.heap.size (fun _ => True) v556 x5_2) ∧ Aside0 (Below w.heap.size w w'))
       case atStart => exact ⟨(y555), (0), βya, H', ⟨Nat.le_refl _⟩, ⟨zr_ HO557.out⟩, ⟨zh_ HB.out⟩⟩
       case round =>
        clear H'
        try clear c2
        try clear p2
        try clear c4
        try clear c4b0
        try clear c4b1
        try clear c5
        try clear c6
        try clear c6b0
        try clear c6b1
        try clear p2
        obtain ⟨x5_2, x6_2, rfl, HA, HK2, HO_5, HB⟩ := hrel
        cases gk with
        | zero => exact absurd HA.out (by simp [spec_Xored.l0])
        | succ k2 =>
         have H := HA.out
         clear HA
         simp only [spec_Xored.l0] at H
         by_cases c9 : x6_2 < 8
         · rw [if_pos c9] at H
           have c9b0 : decide (x6_2 < 8) = true := decide_eq_true c9
           clear c9
           by_cases c10 : 0 ≤ x6_2
           · rw [if_pos c10] at H
             have c10b0 : decide (0 ≤ x6_2) = true := decide_eq_true c10
             clear c10
             by_cases c11 : x6_2 < (a0.size : Int)
             · rw [if_pos c11] at H
               have c11b0 : decide (x6_2 < (a0.size : Int)) = true := decide_eq_true c11
               clear c11
               by_cases c13 : x6_2 < (a1.size : Int)
               · rw [if_pos c13] at H
                 have c13b0 : decide (x6_2 < (a1.size : Int)) = true := decide_eq_true c13
                 clear c13
                 by_cases c15 : x6_2 < (x5_2.length : Int)
                 · rw [if_pos c15] at H
                   have c15b0 : decide (x6_2 < (x5_2.length : Int)) = true := decide_eq_true c15
                   clear c15
                   obtain ⟨y558, hy558⟩ : ∃ y_ : List Int, y_ = (x5_2.set (x6_2 : Int).toNat (Go.bits .xor .u8 (bt a0 x6_2) (bt a1 x6_2))) := ⟨_, rfl⟩
                   replace H : (spec_Xored.l0 k2 a0 a1 y558 (wrap64 (x6_2 + 1))) = some r := by first | (rw [hy558]; with_reducible exact H) | (have H2_ := (Option.bind_some _ _).symm.trans H; rw [hy558]; with_reducible exact H2_) | (have H2_ := (Option.bind_some _ _).symm.trans H; with_reducible exact H2_) | with_reducible exact H | (rw [hy558]; exact H) | exact H
                   have Ny558 := zA_ hy558
                   clear hy558
                   have H' := zA_ H
                   clear H
                   try go_wp2
                   have n0_ := zA_ (Kd.R_drew HO_5.out)
                   have n1_ := zA_ (below_drew1 HB.out)
                   clear HO_5 HB
                   have HO_5 := n0_
                   have HB := n1_
                   clear n0_ n1_
                   have p12 : 0 ≤ (x6_2 : Int) := of_decide_eq_true βxa
                   have q12 : x6_2 < (a0.size : Int) := of_decide_eq_true βxa
                   have hx12 := bt_at a0 x6_2
                   replace p12 := eq_true p12
                   replace q12 := eq_true q12
                   have p14 : 0 ≤ (x6_2 : Int) := of_decide_eq_true βxa
                   have q14 : x6_2 < (a1.size : Int) := of_decide_eq_true βxa
                   have hx14 := bt_at a1 x6_2
                   replace p14 := eq_true p14
                   replace q14 := eq_true q14
                   have p16 : 0 ≤ (x6_2 : Int) := of_decide_eq_true βxa
                   have q16 : (x6_2 : Int) < ((x5_2.length : Int) : Int) := of_decide_eq_true βxa
                   obtain ⟨go16, co16, eo16, gb16, gl16, cl16, HG16⟩ := Kd.R_form HO_5.out (by omega)
                   (first | cases eo16 | (injection eo16 with ea_ en_ ec_; (first | subst ea_ | (injection ea_ with ea_; subst ea_)); subst ec_; clear en_))
                   have GB16 := zA_ gb16
                   have GG16 := zA_ HG16
                   clear gb16 gl16 HG16
                   obtain ⟨hx16_0, hf16_0⟩ := Kd.R_celln 0 HO_5.out (x6_2 : Int) p16 q16
                   replace p16 := eq_true p16
                   replace q16 := eq_true q16
                   have HP18 := Kd.R_putn HO_5.out (x6_2 : Int) (Go.bits .xor .u8 (bt a0 x6_2) (bt a1 x6_2))
                   rw [← Ny558.out] at HP18
                   have HQ18 := zA_ HP18
                   clear HP18
                   refine start_ (n := 11) (S := fun w' => True) (ds := [10]) (mr_ [0, 11]) βDa rfl rfl trivial (fun hHeld => ?_); refine with_tabW spec_Xored.tab7 spec_Xored.bits7 (fun HT_ HW_ => ?_)
                   generalize wr.drew = w17 at HO_5 HB GG16 HQ18 hf16_0 hx16_0 hHeld ⊢
                   refine pure_ (i := 0) (N := some 20) (v := ?_) (a' := ?_) (mr_ [1, 10]) rfl rfl (any_of HT_.out βDa) (fun _ _ _ h => h) (Or.inl ⟨(by rfl), ?_⟩) ?_ ?_
                   rotate_left; exact pv_; rotate_left; exact pp_
                   refine pure_ (i := 1) (N := some 21) (v := ?_) (a' := ?_) (mr_ [2, 9]) rfl rfl (any_of HT_.out βDa) (fun _ _ _ h => h) (Or.inl ⟨(by rfl), ?_⟩) ?_ ?_
                   rotate_left; exact pv_; rotate_left; exact pp_
                   refine pure_ (i := 2) (N := some 22) (v := ?_) (a' := ?_) (mr_ [3, 8]) rfl rfl (any_of HT_.out βDa) (fun _ _ _ h => h) (Or.inl ⟨(by rfl), ?_⟩) ?_ ?_
                   rotate_left; exact pv_; rotate_left; exact pp_
                   refine pure_ (i := 3) (N := some 23) (v := ?_) (a' := ?_) (mr_ [4, 7]) rfl rfl (any_of HT_.out βDa) (fun _ _ _ h => h) (Or.inl ⟨(by rfl), ?_⟩) ?_ ?_
                   rotate_left; exact pv_; rotate_left; exact pp_
                   refine pure_ (i := 5) (N := some 25) (v := ?_) (a' := ?_) (mr_ [4, 1, 1, 5]) rfl rfl (any_of HT_.out βDa) (fun _ _ _ h => h) (Or.inl ⟨(by rfl), ?_⟩) ?_ ?_
                   rotate_left; exact pv_; rotate_left; exact pp_
                   refine pure_ (i := 6) (N := some 26) (v := ?_) (a' := ?_) (mr_ [4, 1, 2, 4]) rfl rfl (any_of HT_.out βDa) (fun _ _ _ h => h) (Or.inl ⟨(by rfl), ?_⟩) ?_ ?_
                   rotate_left; exact pv_; rotate_left; exact pp_
                   refine take_ (i := 4) (N := some 24) (v := ?_) (a' := ?_) (mr_ [7, 4]) rfl rfl (take_ofW HT_.out HW_.out βDa) (fun _ _ _ h => h) (Or.inl ⟨(by rfl), ?_⟩) hHeld ?_ ?_
                   rotate_left
                   · intro w' _
                     go_simp
                     with_reducible rfl
                   rotate_left
                   exact pp_
                   refine take_ (i := 7) (N := some 27) (v := ?_) (a' := ?_) (mr_ [8, 3]) rfl rfl (take_ofW HT_.out HW_.out βDa) (fun _ _ _ h => h) (Or.inl ⟨(by rfl), ?_⟩) hHeld ?_ ?_
                   rotate_left
                   · intro w' _
                     go_simp
                     with_reducible rfl
                   rotate_left
                   exact pp_
                   refine pure_ (i := 8) (N := some 28) (v := ?_) (a' := ?_) (mr_ [9, 2]) rfl rfl (any_of HT_.out βDa) (fun _ _ _ h => h) (Or.inl ⟨(by rfl), ?_⟩) ?_ ?_
                   rotate_left; exact pv_; rotate_left; exact pp_
                   refine pure_ (i := 9) (N := some 29) (v := ?_) (a' := ?_) (mr_ [10, 1]) rfl rfl (any_of HT_.out βDa) (fun _ _ _ h => h) (Or.inl ⟨(by rfl), ?_⟩) ?_ ?_
                   rotate_left; exact pv_; rotate_left; exact pp_
                   refine last_ (i := 10) (N := none) (mr_ [11]) rfl rfl (one_of HT_.out βDa) (by decide) (fun K hK => ?_)
                   refine skip_ (w1 := ?_) (by rfl) rfl ?_ ?_
                   rotate_left
                   · go_simp
                     rfl
                   refine hK.out _ _ ?_
                   clear hK K
                   refine done_ (done_of HT_.out βDa) ?_
                   try go_wp2
                   go_roundg k2
                   case measure => have := HJ2.out; have := HK2.out; omega
                   case rel => exact ⟨(y558), (wrap64 (x6_2 + 1)), βya, H', ⟨(by have := HJ2.out; have := HK2.out; omega)⟩, ⟨zr_ HQ18.out⟩, ⟨zg1_ HB.out GB16.out⟩⟩
                 · rw [if_neg c15] at H
                   exact absurd H (by simp)
               · rw [if_neg c13] at H
                 exact absurd H (by simp)
             · rw [if_neg c11] at H
               exact absurd H (by simp)
           · rw [if_neg c10] at H
             exact absurd H (by simp)
         · rw [if_neg c9] at H
           have c9b0 : decide (x6_2 < 8) = false := decide_eq_false c9
           clear c9
           obtain rfl := Option.some.inj H
           have hcv19 := own_string (P := Tryd.prog) Tryd.underlying24 Tryd.underlying5 Tryd.underlying9 (Kd.own_of_R HO_5.out)
           go_wp2
           go_ret
           exact ⟨βsa, βoa⟩
     · rw [if_neg c6] at H
       exact absurd H (by simp)
def spec_l07Zero.f  : Option (ByteArray) := if 8 ≤ 281474976710656 then (some (strOfNums (List.replicate 8 0))) else (none)
theorem spec_l07Zero.calls  (r : ByteArray) (w : World) (h : spec_l07Zero.f  = some r) :
 Calls Tryd.prog 74 #[] w fun e w' => e = .returned (.string r) ∧ Below w.heap.size w w' := by
 have HB := zA_ (Below.refl w.heap.size w)
 have H : (if 8 ≤ 281474976710656 then (some (strOfNums (List.replicate 8 0))) else (none)) = some r := h
 clear h
 by_cases c1 : 8 ≤ 281474976710656
 · rw [if_pos c1] at H
   have c1b0 := eq_true c1
   have c1b1 : decide (8 ≤ 281474976710656) = true := decide_eq_true c1
   clear c1
   obtain ⟨y559, hy559⟩ : ∃ y_ : List Int, y_ = (List.replicate 8 0) := ⟨_, rfl⟩
   replace H : (some (strOfNums y559)) = some r := by first | (rw [hy559]; with_reducible exact H) | (have H2_ := (Option.bind_some _ _).symm.trans H; rw [hy559]; with_reducible exact H2_) | (have H2_ := (Option.bind_some _ _).symm.trans H; with_reducible exact H2_) | with_reducible exact H | (rw [hy559]; exact H) | exact H
   have Ny559 := zA_ hy559
   clear hy559
   obtain rfl := Option.some.inj H
   go_enter Tryd.func74, Tryd.ntmps74
   go_wp2_with (first | ((with_reducible refine gate_dst (N := 1) rfl ?_); refine Kd.R_make (Kd.int .u8) _ 5 rfl (N := 1) rfl 24 _ _ rfl 8 rfl rfl Tryd.underlying24 (.int .u8 0) 1 info5 rfl (by decide) (by omega) 0 (ok := fun _ => True) (okp := fun _ => True) rfl (fun _ hk => hk) trivial (by omega) (by omega) (Below.refl _ _) (Nat.le_refl _) ?_; intro v560 w2 ho3 hb hg_ hnew_; clear hg_ hnew_; (first | rw [← Ny559.out] at ho3 | (simp only [Int.reduceToNat] at ho3; rw [← Ny559.out] at ho3)); have n0_ := zA_ (Kd.R_lower ho3 (below_size (zh_ HB.out))); have n1_ := zA_ (below_step (zh_ HB.out) hb); clear HB; have HO561 := n0_; have HB := n1_; clear n0_ n1_; clear hb ho3; have hcv4 := own_string (P := Tryd.prog) Tryd.underlying24 Tryd.underlying5 Tryd.underlying9 (Kd.own_of_R HO561.out)))
   go_ret
   exact ⟨βsa, βoa⟩
 · rw [if_neg c1] at H
   exact absurd H (by simp)
def spec_l07Make.f (k : Nat) (a0_0 : Int) (a0_1 : Int) (a0_2 : Int) (a0_3 : ByteArray) (a1 : ByteArray) : Option (ByteArray) := if a0_0 = 1 then ((spec_l07Zero.f).bind fun t563 => (some t563)) else (if a0_0 = 2 then (some a0_3) else (if a0_0 = 3 then (some a1) else ((spec_Xored.f k a1 a0_3).bind fun t564 => (some t564))))
theorem spec_l07Make.calls (k : Nat) (a0_0 : Int) (a0_1 : Int) (a0_2 : Int) (a0_3 : ByteArray) (a1 : ByteArray) (r : ByteArray) (w : World) (h : spec_l07Make.f k a0_0 a0_1 a0_2 a0_3 a1 = some r) :
 Calls Tryd.prog 53 #[.agg #[.int .i64 a0_0, .int .i64 a0_1, .int .i64 a0_2, .string a0_3], .string a1] w fun e w' => e = .returned (.string r) ∧ Below w.heap.size w w' := by
 have hu42 := Tryd.underlying42
 have HB := zA_ (Below.refl w.heap.size w)
 have H : (if a0_0 = 1 then ((spec_l07Zero.f).bind fun t563 => (some t563)) else (if a0_0 = 2 then (some a0_3) else (if a0_0 = 3 then (some a1) else ((spec_Xored.f k a1 a0_3).bind fun t564 => (some t564))))) = some r := h
 clear h
 by_cases c3 : a0_0 = 1
 · rw [if_pos c3] at H
   have c3b0 : (a0_0 == 1) = true := beq_iff_eq.mpr c3
   have c3b1 : (a0_0 != 1) = false := bne_eq_false_iff_eq.mpr c3
   clear c3
   replace H := Option.bind_eq_some_iff.mp H
   obtain ⟨t563, A40, H⟩ := H
   replace H : (some t563) = some r := H
   have A4 := zA_ A40
   clear A40
   obtain rfl := Option.some.inj H
   go_enter Tryd.func53, Tryd.ntmps53
   go_wp2_with (first | ((with_reducible refine gate_dst (N := 2) rfl ?_); refine box_event ?hg (N := 2) ?hd (cs := #[.int .i64 a0_0, .int .i64 a0_1, .int .i64 a0_2, .string a0_3]) (t := 42) ?hr ?_; (case hd => exact (by rfl)); (case hg => exact (by rfl)); (case hr => exact βAa); intro gb562 hg w5 hbox hb; have n0_ := zA_ (below_step (zh_ HB.out) hb); have n1_ := zA_ (hbox); have n2_ := zA_ ((by rw [hg]; exact (below_size (zh_ HB.out)) : w.heap.size ≤ gb562)); have n3_ := zA_ ((by rw [hg]; exact (below_size (zh_ HB.out)) : w.heap.size ≤ gb562)); clear HB; have HB := n0_; have BK562 := n1_; have GW562 := n2_; have GE562 := n3_; clear n0_ n1_ n2_ n3_; clear hb hbox hg; have hcz6_0 := cz_ BK562.out 0 (.int .i64 a0_0) rfl; have hcz6_1 := cz_ BK562.out 1 (.int .i64 a0_1) rfl; have hcz6_2 := cz_ BK562.out 2 (.int .i64 a0_2) rfl; have hcz6_3 := cz_ BK562.out 3 (.string a0_3) rfl; have hfz6_0 := blk_frozen BK562.out 0; have hfz6_1 := blk_frozen BK562.out 1; have hfz6_2 := blk_frozen BK562.out 2; have hfz6_3 := blk_frozen BK562.out 3) | ((with_reducible refine gate_callee (f := 74) rfl ?_); refine goesL_ (some 9) rfl rfl Tryd.func74 βDa rfl #[] rfl zs_ ?_; (with_reducible refine (spec_l07Zero.calls  t563 _ A4.out).mono ?_); rintro e w7 ⟨rfl, hb⟩; refine ⟨_, rfl, ?_⟩; have n0_ := zA_ (blk_below (g := gb562) (o := .cells #[.int .i64 a0_0, .int .i64 a0_1, .int .i64 a0_2, .string a0_3] 42 (0, 0)) (zb_ BK562.out) hb); have n1_ := zA_ (below_step (zg1_ HB.out GE562.out) hb); clear BK562 HB; have BK562 := n0_; have HB := n1_; clear n0_ n1_; (try clear hb); (try clear hb2); (try clear hk); (try clear hi)))
   go_ret
   exact ⟨βsa, βS⟩
 · rw [if_neg c3] at H
   have c3b0 : (a0_0 == 1) = false := beq_eq_false_iff_ne.mpr c3
   have c3b1 : (a0_0 != 1) = true := bne_iff_ne.mpr c3
   by_cases c8 : a0_0 = 2
   · rw [if_pos c8] at H
     have c8b0 : (a0_0 == 2) = true := beq_iff_eq.mpr c8
     have c8b1 : (a0_0 != 2) = false := bne_eq_false_iff_eq.mpr c8
     clear c8
     obtain rfl := Option.some.inj H
     go_enter Tryd.func53, Tryd.ntmps53
     go_wp2_with (first | ((with_reducible refine gate_dst (N := 2) rfl ?_); refine box_event ?hg (N := 2) ?hd (cs := #[.int .i64 a0_0, .int .i64 a0_1, .int .i64 a0_2, .string a0_3]) (t := 42) ?hr ?_; (case hd => exact (by rfl)); (case hg => exact (by rfl)); (case hr => exact βAa); intro gb562 hg w9 hbox hb; have n0_ := zA_ (below_step (zh_ HB.out) hb); have n1_ := zA_ (hbox); have n2_ := zA_ ((by rw [hg]; exact (below_size (zh_ HB.out)) : w.heap.size ≤ gb562)); have n3_ := zA_ ((by rw [hg]; exact (below_size (zh_ HB.out)) : w.heap.size ≤ gb562)); clear HB; have HB := n0_; have BK562 := n1_; have GW562 := n2_; have GE562 := n3_; clear n0_ n1_ n2_ n3_; clear hb hbox hg; have hcz10_0 := cz_ BK562.out 0 (.int .i64 a0_0) rfl; have hcz10_1 := cz_ BK562.out 1 (.int .i64 a0_1) rfl; have hcz10_2 := cz_ BK562.out 2 (.int .i64 a0_2) rfl; have hcz10_3 := cz_ BK562.out 3 (.string a0_3) rfl; have hfz10_0 := blk_frozen BK562.out 0; have hfz10_1 := blk_frozen BK562.out 1; have hfz10_2 := blk_frozen BK562.out 2; have hfz10_3 := blk_frozen BK562.out 3))
     go_ret
     exact ⟨βsa, βS⟩
   · rw [if_neg c8] at H
     have c8b0 : (a0_0 == 2) = false := beq_eq_false_iff_ne.mpr c8
     have c8b1 : (a0_0 != 2) = true := bne_iff_ne.mpr c8
     by_cases c11 : a0_0 = 3
     · rw [if_pos c11] at H
       have c11b0 : (a0_0 == 3) = true := beq_iff_eq.mpr c11
       have c11b1 : (a0_0 != 3) = false := bne_eq_false_iff_eq.mpr c11
       clear c11
       obtain rfl := Option.some.inj H
       go_enter Tryd.func53, Tryd.ntmps53
       go_wp2_with (first | ((with_reducible refine gate_dst (N := 2) rfl ?_); refine box_event ?hg (N := 2) ?hd (cs := #[.int .i64 a0_0, .int .i64 a0_1, .int .i64 a0_2, .string a0_3]) (t := 42) ?hr ?_; (case hd => exact (by rfl)); (case hg => exact (by rfl)); (case hr => exact βAa); intro gb562 hg w12 hbox hb; have n0_ := zA_ (below_step (zh_ HB.out) hb); have n1_ := zA_ (hbox); have n2_ := zA_ ((by rw [hg]; exact (below_size (zh_ HB.out)) : w.heap.size ≤ gb562)); have n3_ := zA_ ((by rw [hg]; exact (below_size (zh_ HB.out)) : w.heap.size ≤ gb562)); clear HB; have HB := n0_; have BK562 := n1_; have GW562 := n2_; have GE562 := n3_; clear n0_ n1_ n2_ n3_; clear hb hbox hg; have hcz13_0 := cz_ BK562.out 0 (.int .i64 a0_0) rfl; have hcz13_1 := cz_ BK562.out 1 (.int .i64 a0_1) rfl; have hcz13_2 := cz_ BK562.out 2 (.int .i64 a0_2) rfl; have hcz13_3 := cz_ BK562.out 3 (.string a0_3) rfl; have hfz13_0 := blk_frozen BK562.out 0; have hfz13_1 := blk_frozen BK562.out 1; have hfz13_2 := blk_frozen BK562.out 2; have hfz13_3 := blk_frozen BK562.out 3))
       go_ret
       exact ⟨βsa, βS⟩
     · rw [if_neg c11] at H
       have c11b0 : (a0_0 == 3) = false := beq_eq_false_iff_ne.mpr c11
       have c11b1 : (a0_0 != 3) = true := bne_iff_ne.mpr c11
       replace H := Option.bind_eq_some_iff.mp H
       obtain ⟨t564, A140, H⟩ := H
       replace H : (some t564) = some r := H
       have A14 := zA_ A140
       clear A140
       obtain rfl := Option.some.inj H
       go_enter Tryd.func53, Tryd.ntmps53
       go_wp2_with (first | ((with_reducible refine gate_dst (N := 2) rfl ?_); refine box_event ?hg (N := 2) ?hd (cs := #[.int .i64 a0_0, .int .i64 a0_1, .int .i64 a0_2, .string a0_3]) (t := 42) ?hr ?_; (case hd => exact (by rfl)); (case hg => exact (by rfl)); (case hr => exact βAa); intro gb562 hg w15 hbox hb; have n0_ := zA_ (below_step (zh_ HB.out) hb); have n1_ := zA_ (hbox); have n2_ := zA_ ((by rw [hg]; exact (below_size (zh_ HB.out)) : w.heap.size ≤ gb562)); have n3_ := zA_ ((by rw [hg]; exact (below_size (zh_ HB.out)) : w.heap.size ≤ gb562)); clear HB; have HB := n0_; have BK562 := n1_; have GW562 := n2_; have GE562 := n3_; clear n0_ n1_ n2_ n3_; clear hb hbox hg; have hcz16_0 := cz_ BK562.out 0 (.int .i64 a0_0) rfl; have hcz16_1 := cz_ BK562.out 1 (.int .i64 a0_1) rfl; have hcz16_2 := cz_ BK562.out 2 (.int .i64 a0_2) rfl; have hcz16_3 := cz_ BK562.out 3 (.string a0_3) rfl; have hfz16_0 := blk_frozen BK562.out 0; have hfz16_1 := blk_frozen BK562.out 1; have hfz16_2 := blk_frozen BK562.out 2; have hfz16_3 := blk_frozen BK562.out 3) | ((with_reducible refine gate_callee (f := 23) rfl ?_); refine goesL_ (some 20) rfl rfl Tryd.func23 βDa rfl #[.string a1, .string a0_3] rfl zs_ ?_; (with_reducible refine (spec_Xored.calls k a1 a0_3 t564 _ A14.out).mono ?_); rintro e w17 ⟨rfl, hb⟩; refine ⟨_, rfl, ?_⟩; have n0_ := zA_ (blk_below (g := gb562) (o := .cells #[.int .i64 a0_0, .int .i64 a0_1, .int .i64 a0_2, .string a0_3] 42 (0, 0)) (zb_ BK562.out) hb); have n1_ := zA_ (below_step (zg1_ HB.out GE562.out) hb); clear BK562 HB; have BK562 := n0_; have HB := n1_; clear n0_ n1_; (try clear hb); (try clear hb2); (try clear hk); (try clear hi)))
       go_ret
       exact ⟨βsa, βS⟩
end Go.Proofs.YtldhjbjbjoomcaaDoor.Q
namespace Go.Proofs.YtldhjbjbjoomcaaDoor.Pure
set_option linter.unusedVariables false
set_option linter.unusedSimpArgs false
open Go Go.RowKit Go.Proofs.YtldhjbjbjoomcaaDoor.Q Go.Proofs.YtldhjbjbjoomcaaDoorW.PrintWords Go.Proofs.YtldhjbjbjoomcaaDoorW.PrintLast Go.Proofs.YtldhjbjbjoomcaaDoorW.PrintMore
theorem xs_length (a b : ByteArray) : ∀ k, (impl_xored.xs a b k).length = k := by
  intro k
  induction k with
  | zero => rfl
  | succ k ih => simp [impl_xored.xs, ih]
def xorM (a b : ByteArray) : ByteArray := strOfNums (impl_xored.xs a b 8)
theorem implXored (a b : ByteArray) (ha : a.size = 8) (hb : b.size = 8) : impl_xored.f a b = some (xorM a b) := by
  unfold impl_xored.f xorM
  rw [ha, if_pos ⟨by omega, by omega⟩]
theorem specXored_l0 (a b : ByteArray) (ha : a.size = 8) (hb : b.size = 8) (d : Nat) : ∀ i : Nat, i + d = 8 →
    Ev (fun k => spec_Xored.l0 k a b (impl_xored.xs a b i ++ List.replicate d 0) (i : Int)) (xorM a b) := by
  induction d with
  | zero =>
    intro i h
    obtain rfl : i = 8 := by omega
    exact Ev.step (fun k => by rw [spec_Xored.l0, if_neg (by omega), List.replicate_zero, List.append_nil]; rfl) (Ev.now _)
  | succ d ih =>
    intro i h
    have := ih (i + 1) (by omega)
    refine Ev.step (fun k => ?_) this
    have e1 : wrap64 ((i : Int) + 1) = ((i + 1 : Nat) : Int) := by rw [wrap64_id (by omega) (by omega)]; omega
    have e2 : (impl_xored.xs a b i ++ (0 : Int) :: List.replicate d 0).set (i : Int).toNat (Go.bits .xor .u8 (bt a i) (bt b i)) = impl_xored.xs a b (i + 1) ++ List.replicate d 0 := by
      have hl := xs_length a b i
      rw [impl_xored.xs, List.append_assoc, Int.toNat_natCast]
      conv => lhs; rw [show i = (impl_xored.xs a b i).length from hl.symm]
      simp [hl]
    have hlen : ((impl_xored.xs a b i ++ List.replicate (d + 1) (0 : Int)).length : Int) = 8 := by
      rw [List.length_append, xs_length, List.length_replicate]; omega
    rw [spec_Xored.l0, if_pos (by omega), if_pos (by omega), if_pos (by omega), if_pos (by omega), hlen, if_pos (by omega), List.replicate_succ, e2, e1]
theorem specXored (a b : ByteArray) : Ev (fun k => spec_Xored.f k a b) (if a.size = 8 ∧ b.size = 8 then xorM a b else ⟨#[]⟩) := by
  unfold spec_Xored.f
  by_cases ha : a.size = 8
  · simp only [if_pos (show (a.size : Int) = 8 by omega)]
    by_cases hb : b.size = 8
    · rw [if_pos ⟨ha, hb⟩, show ((b.size : Int) != 8) = false by simp [hb]]
      have := specXored_l0 a b ha hb 8 0 rfl
      exact Ev.step (fun k => by rw [spec_Xored.j0, if_neg (by decide), if_pos (by decide)]; rfl) this
    · rw [if_neg (fun h => hb h.2), show ((b.size : Int) != 8) = true by simp; omega]
      exact Ev.step (fun k => by rw [spec_Xored.j0, if_pos rfl]) (Ev.now _)
  · simp only [if_neg (show ¬ (a.size : Int) = 8 by omega)]
    rw [if_neg (fun h => ha h.1)]
    exact Ev.step (fun k => by rw [spec_Xored.j0, if_pos rfl]) (Ev.now _)
end Go.Proofs.YtldhjbjbjoomcaaDoor.Pure
namespace Go.Proofs.YtldhjbjbjoomcaaDoor.Q
open Go.RowKit Go.Proofs.YtldhjbjbjoomcaaDoorW.PrintWords Go.Proofs.YtldhjbjbjoomcaaDoorW.PrintLast Go.Proofs.YtldhjbjbjoomcaaDoorW.PrintMore
attribute [local go_sem] max2_int min2_int max_two min_two max_three min_three max_four min_four Instr.field asAgg
set_option linter.unusedVariables false
set_option linter.unusedSimpArgs false
set_option maxHeartbeats 8000000
set_option maxRecDepth 100000
def impl_MadeBy.f (k : Nat) (l0 : List ByteArray) (a1_0 : Int) (a1_1 : Int) (a1_2 : Int) (a1_3 : ByteArray) : Option (ByteArray) := (impl_isImage.f l0).bind fun t598 => (if t598 = true then ((impl_size_string.f l0).bind fun t599 => ((impl_isStep.f k a1_0 a1_1 a1_2 a1_3 t599).bind fun t600 => (if t600 = true then (if a1_0 = 5 then (some (⟨#[]⟩ : ByteArray)) else (if 0 ≤ a1_2 then (if a1_2 < (l0.length : Int) then ((impl_madeBy.f a1_0 a1_1 a1_2 a1_3 (rdOf ByteArray.empty l0 a1_2)).bind fun t602 => (some t602)) else (none)) else (none))) else (some (⟨#[]⟩ : ByteArray))))) else (some (⟨#[]⟩ : ByteArray)))
def impl_MadeBy.T1 : Bool × List (List Nat × List Nat) := (true, [([], []), ([0], [0]), ([1], [1]), ([2, 1], [2]), ([3], [3]), ([3], [3]), ([5, 3, 3], [3, 5]), ([4, 6, 6, 3], [3, 4, 6]), ([7, 3], [3, 7]), ([3, 8], [3, 8]), ([9, 7], [9]), ([10], [10]), ([11, 10], [10, 11]), ([12, 10], [10, 12]), ([10, 13], [10, 13])])
def impl_MadeBy.B1 : List Nat := [0, 1, 3, 7, 15, 15, 47, 127, 255, 511, 1023, 2047, 4095, 8191, 16383]
theorem impl_MadeBy.tab1 : rtab .any (opsOf Tryd.f24 1) = impl_MadeBy.T1 := by kernel_rfl
theorem impl_MadeBy.bits1 : waitsOk impl_MadeBy.T1.2 impl_MadeBy.B1 = true := by kernel_rfl
def impl_MadeBy.T3 : Bool × List (List Nat × List Nat) := (true, [([], []), ([], []), ([], []), ([2], [2]), ([1, 3], [1, 3]), ([4], [4]), ([0, 5], [0, 5]), ([6, 6, 0, 1, 2, 3, 4, 5, 6], [6])])
def impl_MadeBy.B3 : List Nat := [0, 0, 0, 4, 14, 30, 63, 127]
theorem impl_MadeBy.tab3 : rtab .any (opsOf Tryd.f24 3) = impl_MadeBy.T3 := by kernel_rfl
theorem impl_MadeBy.bits3 : waitsOk impl_MadeBy.T3.2 impl_MadeBy.B3 = true := by kernel_rfl
theorem impl_MadeBy.calls (k : Nat) (A0 : Option Addr) (c0 : Nat) (l0 : List ByteArray) (a1_0 : Int) (a1_1 : Int) (a1_2 : Int) (a1_3 : ByteArray) (r : ByteArray) (w : World) (hr0 : Kd.C Kd.string w A0 l0.length l0) (hc0 : l0.length ≤ c0) (h : impl_MadeBy.f k l0 a1_0 a1_1 a1_2 a1_3 = some r) :
 Calls Tryd.prog 24 #[.slice A0 l0.length c0, .agg #[.int .i64 a1_0, .int .i64 a1_1, .int .i64 a1_2, .string a1_3]] w fun e w' => e = .returned (.string r) ∧ Below w.heap.size w w' := by
 have hu42 := Tryd.underlying42
 have HR0 := zA_ hr0
 have HC0 := zA_ hc0
 clear hr0 hc0
 have HB := zA_ (Below.refl w.heap.size w)
 have H : ((impl_isImage.f l0).bind fun t598 => (if t598 = true then ((impl_size_string.f l0).bind fun t599 => ((impl_isStep.f k a1_0 a1_1 a1_2 a1_3 t599).bind fun t600 => (if t600 = true then (if a1_0 = 5 then (some (⟨#[]⟩ : ByteArray)) else (if 0 ≤ a1_2 then (if a1_2 < (l0.length : Int) then ((impl_madeBy.f a1_0 a1_1 a1_2 a1_3 (rdOf ByteArray.empty l0 a1_2)).bind fun t602 => (some t602)) else (none)) else (none))) else (some (⟨#[]⟩ : ByteArray))))) else (some (⟨#[]⟩ : ByteArray)))) = some r := h
 clear h
 replace H := Option.bind_eq_some_iff.mp H
 obtain ⟨t598, A30, H⟩ := H
 replace H : (if t598 = true then ((impl_size_string.f l0).bind fun t599 => ((impl_isStep.f k a1_0 a1_1 a1_2 a1_3 t599).bind fun t600 => (if t600 = true then (if a1_0 = 5 then (some (⟨#[]⟩ : ByteArray)) else (if 0 ≤ a1_2 then (if a1_2 < (l0.length : Int) then ((impl_madeBy.f a1_0 a1_1 a1_2 a1_3 (rdOf ByteArray.empty l0 a1_2)).bind fun t602 => (some t602)) else (none)) else (none))) else (some (⟨#[]⟩ : ByteArray))))) else (some (⟨#[]⟩ : ByteArray))) = some r := H
 have A3 := zA_ A30
 clear A30
 by_cases c4 : t598 = true
 · subst c4
   have H1 : ((impl_size_string.f l0).bind fun t599 => ((impl_isStep.f k a1_0 a1_1 a1_2 a1_3 t599).bind fun t600 => (if t600 = true then (if a1_0 = 5 then (some (⟨#[]⟩ : ByteArray)) else (if 0 ≤ a1_2 then (if a1_2 < (l0.length : Int) then ((impl_madeBy.f a1_0 a1_1 a1_2 a1_3 (rdOf ByteArray.empty l0 a1_2)).bind fun t602 => (some t602)) else (none)) else (none))) else (some (⟨#[]⟩ : ByteArray))))) = some r := by rw [if_pos rfl] at H; exact H
   clear H
   have H := H1
   clear H1
   replace H := Option.bind_eq_some_iff.mp H
   obtain ⟨t599, A50, H⟩ := H
   replace H : ((impl_isStep.f k a1_0 a1_1 a1_2 a1_3 t599).bind fun t600 => (if t600 = true then (if a1_0 = 5 then (some (⟨#[]⟩ : ByteArray)) else (if 0 ≤ a1_2 then (if a1_2 < (l0.length : Int) then ((impl_madeBy.f a1_0 a1_1 a1_2 a1_3 (rdOf ByteArray.empty l0 a1_2)).bind fun t602 => (some t602)) else (none)) else (none))) else (some (⟨#[]⟩ : ByteArray)))) = some r := H
   have A5 := zA_ A50
   clear A50
   replace H := Option.bind_eq_some_iff.mp H
   obtain ⟨t600, A60, H⟩ := H
   replace H : (if t600 = true then (if a1_0 = 5 then (some (⟨#[]⟩ : ByteArray)) else (if 0 ≤ a1_2 then (if a1_2 < (l0.length : Int) then ((impl_madeBy.f a1_0 a1_1 a1_2 a1_3 (rdOf ByteArray.empty l0 a1_2)).bind fun t602 => (some t602)) else (none)) else (none))) else (some (⟨#[]⟩ : ByteArray))) = some r := H
   have A6 := zA_ A60
   clear A60
   by_cases c7 : t600 = true
   · subst c7
     have H1 : (if a1_0 = 5 then (some (⟨#[]⟩ : ByteArray)) else (if 0 ≤ a1_2 then (if a1_2 < (l0.length : Int) then ((impl_madeBy.f a1_0 a1_1 a1_2 a1_3 (rdOf ByteArray.empty l0 a1_2)).bind fun t602 => (some t602)) else (none)) else (none))) = some r := by rw [if_pos rfl] at H; exact H
     clear H
     have H := H1
     clear H1
     by_cases c8 : a1_0 = 5
     · rw [if_pos c8] at H
       have c8b0 : (a1_0 == 5) = true := beq_iff_eq.mpr c8
       have c8b1 : (a1_0 != 5) = false := bne_eq_false_iff_eq.mpr c8
       clear c8
       obtain rfl := Option.some.inj H
       go_enter Tryd.func24, Tryd.ntmps24
       try go_wp2_with (first | ((with_reducible refine gate_dst (N := 3) rfl ?_); refine box_event ?hg (N := 3) ?hd (cs := #[.int .i64 a1_0, .int .i64 a1_1, .int .i64 a1_2, .string a1_3]) (t := 42) ?hr ?_; (case hd => exact (by rfl)); (case hg => exact (by rfl)); (case hr => exact βAa); intro gb597 hg w9 hbox hb; have n0_ := zA_ (below_step (zh_ HB.out) hb); have n1_ := zA_ (hbox); have n2_ := zA_ ((by rw [hg]; exact (below_size (zh_ HB.out)) : w.heap.size ≤ gb597)); have n3_ := zA_ ((by rw [hg]; exact (below_size (zh_ HB.out)) : w.heap.size ≤ gb597)); clear HB; have HB := n0_; have BK597 := n1_; have GW597 := n2_; have GE597 := n3_; clear n0_ n1_ n2_ n3_; clear hb hbox hg))
       have n0_ := zA_ (blk_drew BK597.out)
       have n1_ := zA_ (below_drew1 HB.out)
       clear BK597 HB
       have BK597 := n0_
       have HB := n1_
       clear n0_ n1_
       refine start_ (n := 15) (S := fun w' => w'.cell? ⟨gb597, 0, none⟩ = some (.int .i64 a1_0) ∧ w'.cell? ⟨gb597, 1, none⟩ = some (.int .i64 a1_1) ∧ w'.cell? ⟨gb597, 2, none⟩ = some (.int .i64 a1_2) ∧ w'.cell? ⟨gb597, 3, none⟩ = some (.string a1_3)) (ds := []) (mr_ [0, 15]) βDa rfl rfl ⟨cy_ BK597.out 0, cy_ BK597.out 1, cy_ BK597.out 2, cy_ BK597.out 3⟩ (fun hHeld => ?_); refine with_tabW impl_MadeBy.tab1 impl_MadeBy.bits1 (fun HT_ HW_ => ?_)
       generalize w9.drew = w10 at BK597 HB hHeld ⊢
       refine pure_ (i := 0) (N := some 5) (v := ?_) (a' := ?_) (mr_ [1, 14]) rfl rfl (any_of HT_.out βDa) (fun _ _ _ h => h) (Or.inl ⟨(by rfl), ?_⟩) ?_ ?_
       rotate_left; exact pv_; rotate_left; exact pp_
       refine one_ (i := 1) (N := some 6) (mr_ [2, 13]) rfl rfl (one_of HT_.out βDa) (by decide) (fun K hK => ?_)
       refine goes_ Tryd.func34 βDa rfl #[.slice A0 l0.length c0] (by rfl) rfl rfl zs_ ?_
       with_reducible refine (impl_isImage.calls _ _ l0 true _ ?side1 ?side2 A3.out).mono ?_
       (case side1 => exact zc_ (Kd.C_below HR0.out HB.out))
       (case side2 => exact HC0.out)
       rintro e w' ⟨rfl, ⟨nd, rfl⟩⟩
       refine ⟨_, rfl, ?_⟩
       refine hK.out _ _ ⟨cy_ BK597.out 0, cy_ BK597.out 1, cy_ BK597.out 2, cy_ BK597.out 3⟩ (fun hHeld => ?_)
       clear hK K
       refine norm_ (a' := ?_) ?_ ?_
       rotate_left
       · show Act.put _ (some 6) _ = _
         simp only [Act.put, List.setIfInBounds_toArray, List.set_cons_zero, List.set_cons_succ, i64_w, i32_w]
         rfl
       refine pure_ (i := 2) (N := some 7) (v := ?_) (a' := ?_) (mr_ [3, 12]) rfl rfl (any_of HT_.out βDa) (fun _ _ _ h => h) (Or.inl ⟨(by rfl), ?_⟩) ?_ ?_
       rotate_left; exact pv_; rotate_left; exact pp_
       refine pure_ (i := 3) (N := some 8) (v := ?_) (a' := ?_) (mr_ [4, 11]) rfl rfl (any_of HT_.out βDa) (fun _ _ _ h => h) (Or.inl ⟨(by rfl), ?_⟩) ?_ ?_
       rotate_left; exact pv_; rotate_left; exact pp_
       refine pure_ (i := 5) (N := some 10) (v := ?_) (a' := ?_) (mr_ [4, 1, 1, 9]) rfl rfl (any_of HT_.out βDa) (fun _ _ _ h => h) (Or.inl ⟨(by rfl), ?_⟩) ?_ ?_
       rotate_left; exact pv_; rotate_left; exact pp_
       refine take_ (i := 4) (N := some 9) (v := ?_) (a' := ?_) (mr_ [6, 9]) rfl rfl (take_ofW HT_.out HW_.out βDa) (fun _ _ _ h => h) (Or.inl ⟨(by rfl), ?_⟩) hHeld ?_ ?_
       rotate_left
       · rintro w' ⟨s0, s1, s2, s3⟩
         go_simp
         with_reducible rfl
       rotate_left
       exact pp_
       refine one_ (i := 6) (N := some 11) (mr_ [7, 8]) rfl rfl (one_of HT_.out βDa) (by decide) (fun K hK => ?_)
       refine goes_ Tryd.func39 βDa rfl #[.slice A0 l0.length c0] (by rfl) rfl rfl zs_ ?_
       with_reducible refine (impl_size_string.calls _ _ l0 t599 _ ?side1 ?side2 A5.out).mono ?_
       (case side1 => exact zc_ (Kd.C_below HR0.out (zg1_ HB.out GE597.out)))
       (case side2 => exact HC0.out)
       rintro e w' ⟨rfl, ⟨nd, rfl⟩⟩
       refine ⟨_, rfl, ?_⟩
       refine hK.out _ _ ⟨cy_ BK597.out 0, cy_ BK597.out 1, cy_ BK597.out 2, cy_ BK597.out 3⟩ (fun hHeld => ?_)
       clear hK K
       refine norm_ (a' := ?_) ?_ ?_
       rotate_left
       · show Act.put _ (some 11) _ = _
         simp only [Act.put, List.setIfInBounds_toArray, List.set_cons_zero, List.set_cons_succ, i64_w, i32_w]
         rfl
       refine one_ (i := 7) (N := some 12) (mr_ [8, 7]) rfl rfl (one_of HT_.out βDa) (by decide) (fun K hK => ?_)
       refine goes_ Tryd.func50 βDa rfl #[.agg #[.int .i64 a1_0, .int .i64 a1_1, .int .i64 a1_2, .string a1_3], .int .i64 t599] (by rfl) rfl rfl zs_ ?_
       with_reducible refine (impl_isStep.calls k a1_0 a1_1 a1_2 a1_3 t599 true _ A6.out).mono ?_
       rintro e w11 ⟨rfl, hb⟩
       refine ⟨_, rfl, ?_⟩
       have n0_ := zA_ (blk_below (g := gb597) (o := .cells #[.int .i64 a1_0, .int .i64 a1_1, .int .i64 a1_2, .string a1_3] 42 (0, 0)) (zb_ BK597.out) hb)
       have n1_ := zA_ (below_step (zg1_ HB.out GE597.out) hb)
       clear BK597 HB
       have BK597 := n0_
       have HB := n1_
       clear n0_ n1_
       (try clear hb)
       (try clear hb2)
       (try clear hk)
       (try clear hi)
       refine hK.out _ _ ⟨cy_ BK597.out 0, cy_ BK597.out 1, cy_ BK597.out 2, cy_ BK597.out 3⟩ (fun hHeld => ?_)
       clear hK K
       refine norm_ (a' := ?_) ?_ ?_
       rotate_left
       · show Act.put _ (some 12) _ = _
         simp only [Act.put, List.setIfInBounds_toArray, List.set_cons_zero, List.set_cons_succ, i64_w, i32_w]
         rfl
       refine pure_ (i := 8) (N := some 13) (v := ?_) (a' := ?_) (mr_ [9, 6]) rfl rfl (any_of HT_.out βDa) (fun _ _ _ h => h) (Or.inl ⟨(by rfl), ?_⟩) ?_ ?_
       rotate_left; exact pv_; rotate_left; exact pp_
       refine pure_ (i := 9) (N := some 14) (v := ?_) (a' := ?_) (mr_ [10, 5]) rfl rfl (any_of HT_.out βDa) (fun _ _ _ h => h) (Or.inl ⟨(by rfl), ?_⟩) ?_ ?_
       rotate_left; exact pv_; rotate_left; exact pp_
       refine pure_ (i := 10) (N := some 15) (v := ?_) (a' := ?_) (mr_ [11, 4]) rfl rfl (any_of HT_.out βDa) (fun _ _ _ h => h) (Or.inl ⟨(by rfl), ?_⟩) ?_ ?_
       rotate_left; exact pv_; rotate_left; exact pp_
       refine pure_ (i := 11) (N := some 16) (v := ?_) (a' := ?_) (mr_ [12, 3]) rfl rfl (any_of HT_.out βDa) (fun _ _ _ h => h) (Or.inl ⟨(by rfl), ?_⟩) ?_ ?_
       rotate_left; exact pv_; rotate_left; exact pp_
       refine take_ (i := 12) (N := some 17) (v := ?_) (a' := ?_) (mr_ [13, 2]) rfl rfl (take_ofW HT_.out HW_.out βDa) (fun _ _ _ h => h) (Or.inl ⟨(by rfl), ?_⟩) hHeld ?_ ?_
       rotate_left
       · rintro w' ⟨s0, s1, s2, s3⟩
         go_simp
         with_reducible rfl
       rotate_left
       exact pp_
       refine pure_ (i := 13) (N := some 18) (v := ?_) (a' := ?_) (mr_ [14, 1]) rfl rfl (any_of HT_.out βDa) (fun _ _ _ h => h) (Or.inl ⟨(by rfl), ?_⟩) ?_ ?_
       rotate_left; exact pv_; rotate_left; exact pp_
       refine pure_ (i := 14) (N := some 19) (v := ?_) (a' := ?_) (mr_ [15]) rfl rfl (any_of HT_.out βDa) (fun _ _ _ h => h) (Or.inl ⟨(by rfl), ?_⟩) ?_ ?_
       rotate_left; exact pv_; rotate_left; exact pp_
       refine done_ (done_of HT_.out βDa) ?_
       try go_wp2
       go_ret
       exact ⟨βsa, βT⟩
     · rw [if_neg c8] at H
       have c8b0 : (a1_0 == 5) = false := beq_eq_false_iff_ne.mpr c8
       have c8b1 : (a1_0 != 5) = true := bne_iff_ne.mpr c8
       by_cases c12 : 0 ≤ a1_2
       · rw [if_pos c12] at H
         have c12b0 : decide (0 ≤ a1_2) = true := decide_eq_true c12
         clear c12
         by_cases c13 : a1_2 < (l0.length : Int)
         · rw [if_pos c13] at H
           have c13b0 : decide (a1_2 < (l0.length : Int)) = true := decide_eq_true c13
           clear c13
           replace H := Option.bind_eq_some_iff.mp H
           obtain ⟨t602, A140, H⟩ := H
           replace H : (some t602) = some r := H
           have A14 := zA_ A140
           clear A140
           obtain rfl := Option.some.inj H
           go_enter Tryd.func24, Tryd.ntmps24
           try go_wp2_with (first | ((with_reducible refine gate_dst (N := 3) rfl ?_); refine box_event ?hg (N := 3) ?hd (cs := #[.int .i64 a1_0, .int .i64 a1_1, .int .i64 a1_2, .string a1_3]) (t := 42) ?hr ?_; (case hd => exact (by rfl)); (case hg => exact (by rfl)); (case hr => exact βAa); intro gb597 hg w15 hbox hb; have n0_ := zA_ (below_step (zh_ HB.out) hb); have n1_ := zA_ (hbox); have n2_ := zA_ ((by rw [hg]; exact (below_size (zh_ HB.out)) : w.heap.size ≤ gb597)); have n3_ := zA_ ((by rw [hg]; exact (below_size (zh_ HB.out)) : w.heap.size ≤ gb597)); clear HB; have HB := n0_; have BK597 := n1_; have GW597 := n2_; have GE597 := n3_; clear n0_ n1_ n2_ n3_; clear hb hbox hg))
           have n0_ := zA_ (blk_drew BK597.out)
           have n1_ := zA_ (below_drew1 HB.out)
           clear BK597 HB
           have BK597 := n0_
           have HB := n1_
           clear n0_ n1_
           refine start_ (n := 15) (S := fun w' => w'.cell? ⟨gb597, 0, none⟩ = some (.int .i64 a1_0) ∧ w'.cell? ⟨gb597, 1, none⟩ = some (.int .i64 a1_1) ∧ w'.cell? ⟨gb597, 2, none⟩ = some (.int .i64 a1_2) ∧ w'.cell? ⟨gb597, 3, none⟩ = some (.string a1_3)) (ds := []) (mr_ [0, 15]) βDa rfl rfl ⟨cy_ BK597.out 0, cy_ BK597.out 1, cy_ BK597.out 2, cy_ BK597.out 3⟩ (fun hHeld => ?_); refine with_tabW impl_MadeBy.tab1 impl_MadeBy.bits1 (fun HT_ HW_ => ?_)
           generalize w15.drew = w16 at BK597 HB hHeld ⊢
           refine pure_ (i := 0) (N := some 5) (v := ?_) (a' := ?_) (mr_ [1, 14]) rfl rfl (any_of HT_.out βDa) (fun _ _ _ h => h) (Or.inl ⟨(by rfl), ?_⟩) ?_ ?_
           rotate_left; exact pv_; rotate_left; exact pp_
           refine one_ (i := 1) (N := some 6) (mr_ [2, 13]) rfl rfl (one_of HT_.out βDa) (by decide) (fun K hK => ?_)
           refine goes_ Tryd.func34 βDa rfl #[.slice A0 l0.length c0] (by rfl) rfl rfl zs_ ?_
           with_reducible refine (impl_isImage.calls _ _ l0 true _ ?side1 ?side2 A3.out).mono ?_
           (case side1 => exact zc_ (Kd.C_below HR0.out HB.out))
           (case side2 => exact HC0.out)
           rintro e w' ⟨rfl, ⟨nd, rfl⟩⟩
           refine ⟨_, rfl, ?_⟩
           refine hK.out _ _ ⟨cy_ BK597.out 0, cy_ BK597.out 1, cy_ BK597.out 2, cy_ BK597.out 3⟩ (fun hHeld => ?_)
           clear hK K
           refine norm_ (a' := ?_) ?_ ?_
           rotate_left
           · show Act.put _ (some 6) _ = _
             simp only [Act.put, List.setIfInBounds_toArray, List.set_cons_zero, List.set_cons_succ, i64_w, i32_w]
             rfl
           refine pure_ (i := 2) (N := some 7) (v := ?_) (a' := ?_) (mr_ [3, 12]) rfl rfl (any_of HT_.out βDa) (fun _ _ _ h => h) (Or.inl ⟨(by rfl), ?_⟩) ?_ ?_
           rotate_left; exact pv_; rotate_left; exact pp_
           refine pure_ (i := 3) (N := some 8) (v := ?_) (a' := ?_) (mr_ [4, 11]) rfl rfl (any_of HT_.out βDa) (fun _ _ _ h => h) (Or.inl ⟨(by rfl), ?_⟩) ?_ ?_
           rotate_left; exact pv_; rotate_left; exact pp_
           refine pure_ (i := 5) (N := some 10) (v := ?_) (a' := ?_) (mr_ [4, 1, 1, 9]) rfl rfl (any_of HT_.out βDa) (fun _ _ _ h => h) (Or.inl ⟨(by rfl), ?_⟩) ?_ ?_
           rotate_left; exact pv_; rotate_left; exact pp_
           refine take_ (i := 4) (N := some 9) (v := ?_) (a' := ?_) (mr_ [6, 9]) rfl rfl (take_ofW HT_.out HW_.out βDa) (fun _ _ _ h => h) (Or.inl ⟨(by rfl), ?_⟩) hHeld ?_ ?_
           rotate_left
           · rintro w' ⟨s0, s1, s2, s3⟩
             go_simp
             with_reducible rfl
           rotate_left
           exact pp_
           refine one_ (i := 6) (N := some 11) (mr_ [7, 8]) rfl rfl (one_of HT_.out βDa) (by decide) (fun K hK => ?_)
           refine goes_ Tryd.func39 βDa rfl #[.slice A0 l0.length c0] (by rfl) rfl rfl zs_ ?_
           with_reducible refine (impl_size_string.calls _ _ l0 t599 _ ?side1 ?side2 A5.out).mono ?_
           (case side1 => exact zc_ (Kd.C_below HR0.out (zg1_ HB.out GE597.out)))
           (case side2 => exact HC0.out)
           rintro e w' ⟨rfl, ⟨nd, rfl⟩⟩
           refine ⟨_, rfl, ?_⟩
           refine hK.out _ _ ⟨cy_ BK597.out 0, cy_ BK597.out 1, cy_ BK597.out 2, cy_ BK597.out 3⟩ (fun hHeld => ?_)
           clear hK K
           refine norm_ (a' := ?_) ?_ ?_
           rotate_left
           · show Act.put _ (some 11) _ = _
             simp only [Act.put, List.setIfInBounds_toArray, List.set_cons_zero, List.set_cons_succ, i64_w, i32_w]
             rfl
           refine one_ (i := 7) (N := some 12) (mr_ [8, 7]) rfl rfl (one_of HT_.out βDa) (by decide) (fun K hK => ?_)
           refine goes_ Tryd.func50 βDa rfl #[.agg #[.int .i64 a1_0, .int .i64 a1_1, .int .i64 a1_2, .string a1_3], .int .i64 t599] (by rfl) rfl rfl zs_ ?_
           with_reducible refine (impl_isStep.calls k a1_0 a1_1 a1_2 a1_3 t599 true _ A6.out).mono ?_
           rintro e w17 ⟨rfl, hb⟩
           refine ⟨_, rfl, ?_⟩
           have n0_ := zA_ (blk_below (g := gb597) (o := .cells #[.int .i64 a1_0, .int .i64 a1_1, .int .i64 a1_2, .string a1_3] 42 (0, 0)) (zb_ BK597.out) hb)
           have n1_ := zA_ (below_step (zg1_ HB.out GE597.out) hb)
           clear BK597 HB
           have BK597 := n0_
           have HB := n1_
           clear n0_ n1_
           (try clear hb)
           (try clear hb2)
           (try clear hk)
           (try clear hi)
           refine hK.out _ _ ⟨cy_ BK597.out 0, cy_ BK597.out 1, cy_ BK597.out 2, cy_ BK597.out 3⟩ (fun hHeld => ?_)
           clear hK K
           refine norm_ (a' := ?_) ?_ ?_
           rotate_left
           · show Act.put _ (some 12) _ = _
             simp only [Act.put, List.setIfInBounds_toArray, List.set_cons_zero, List.set_cons_succ, i64_w, i32_w]
             rfl
           refine pure_ (i := 8) (N := some 13) (v := ?_) (a' := ?_) (mr_ [9, 6]) rfl rfl (any_of HT_.out βDa) (fun _ _ _ h => h) (Or.inl ⟨(by rfl), ?_⟩) ?_ ?_
           rotate_left; exact pv_; rotate_left; exact pp_
           refine pure_ (i := 9) (N := some 14) (v := ?_) (a' := ?_) (mr_ [10, 5]) rfl rfl (any_of HT_.out βDa) (fun _ _ _ h => h) (Or.inl ⟨(by rfl), ?_⟩) ?_ ?_
           rotate_left; exact pv_; rotate_left; exact pp_
           refine pure_ (i := 10) (N := some 15) (v := ?_) (a' := ?_) (mr_ [11, 4]) rfl rfl (any_of HT_.out βDa) (fun _ _ _ h => h) (Or.inl ⟨(by rfl), ?_⟩) ?_ ?_
           rotate_left; exact pv_; rotate_left; exact pp_
           refine pure_ (i := 11) (N := some 16) (v := ?_) (a' := ?_) (mr_ [12, 3]) rfl rfl (any_of HT_.out βDa) (fun _ _ _ h => h) (Or.inl ⟨(by rfl), ?_⟩) ?_ ?_
           rotate_left; exact pv_; rotate_left; exact pp_
           refine take_ (i := 12) (N := some 17) (v := ?_) (a' := ?_) (mr_ [13, 2]) rfl rfl (take_ofW HT_.out HW_.out βDa) (fun _ _ _ h => h) (Or.inl ⟨(by rfl), ?_⟩) hHeld ?_ ?_
           rotate_left
           · rintro w' ⟨s0, s1, s2, s3⟩
             go_simp
             with_reducible rfl
           rotate_left
           exact pp_
           refine pure_ (i := 13) (N := some 18) (v := ?_) (a' := ?_) (mr_ [14, 1]) rfl rfl (any_of HT_.out βDa) (fun _ _ _ h => h) (Or.inl ⟨(by rfl), ?_⟩) ?_ ?_
           rotate_left; exact pv_; rotate_left; exact pp_
           refine pure_ (i := 14) (N := some 19) (v := ?_) (a' := ?_) (mr_ [15]) rfl rfl (any_of HT_.out βDa) (fun _ _ _ h => h) (Or.inl ⟨(by rfl), ?_⟩) ?_ ?_
           rotate_left; exact pv_; rotate_left; exact pp_
           refine done_ (done_of HT_.out βDa) ?_
           try go_wp2
           have n0_ := zA_ (blk_drew BK597.out)
           have n1_ := zA_ (below_drew1 HB.out)
           clear BK597 HB
           have BK597 := n0_
           have HB := n1_
           clear n0_ n1_
           have p601 : 0 ≤ (a1_2 : Int) := of_decide_eq_true βxa
           have q601 : a1_2 < (l0.length : Int) := of_decide_eq_true βxa
           obtain ⟨ad601, e601, hx601_0⟩ := Kd.at_string HR0.out a1_2 p601 q601
           have hw601_0 := hx601_0
           cases e601
           replace hx601_0 := bc_ HB.out hx601_0
           replace p601 := eq_true p601
           replace q601 := eq_true q601
           refine start_ (n := 8) (S := fun w' => w'.cell? ⟨gb597, 0, none⟩ = some (.int .i64 a1_0) ∧ w'.cell? ⟨gb597, 1, none⟩ = some (.int .i64 a1_1) ∧ w'.cell? ⟨gb597, 2, none⟩ = some (.int .i64 a1_2) ∧ w'.cell? ⟨gb597, 3, none⟩ = some (.string a1_3) ∧ w'.cell? (ad601.add (a1_2).toNat) = some (.string (rdOf ByteArray.empty l0 a1_2))) (ds := []) (mr_ [0, 8]) βDa rfl rfl ⟨cy_ BK597.out 0, cy_ BK597.out 1, cy_ BK597.out 2, cy_ BK597.out 3, (bc_ HB.out hw601_0)⟩ (fun hHeld => ?_); refine with_tabW impl_MadeBy.tab3 impl_MadeBy.bits3 (fun HT_ HW_ => ?_)
           generalize w17.drew = w18 at BK597 HB hx601_0 hHeld ⊢
           refine pure_ (i := 1) (N := some 21) (v := ?_) (a' := ?_) (mr_ [0, 1, 1, 6]) rfl rfl (any_of HT_.out βDa) (fun _ _ _ h => h) (Or.inl ⟨(by rfl), ?_⟩) ?_ ?_
           rotate_left; exact pv_; rotate_left; exact pp_
           refine pure_ (i := 2) (N := some 22) (v := ?_) (a' := ?_) (mr_ [0, 1, 2, 5]) rfl rfl (any_of HT_.out βDa) (fun _ _ _ h => h) (Or.inl ⟨(by rfl), ?_⟩) ?_ ?_
           rotate_left; exact pv_; rotate_left; exact pp_
           refine take_ (i := 0) (N := some 20) (v := ?_) (a' := ?_) (mr_ [3, 5]) rfl rfl (take_ofW HT_.out HW_.out βDa) (fun _ _ _ h => h) (Or.inl ⟨(by rfl), ?_⟩) hHeld ?_ ?_
           rotate_left
           · rintro w' ⟨s0, s1, s2, s3, s4⟩
             go_simp
             with_reducible rfl
           rotate_left
           exact pp_
           refine take_ (i := 3) (N := some 23) (v := ?_) (a' := ?_) (mr_ [4, 4]) rfl rfl (take_ofW HT_.out HW_.out βDa) (fun _ _ _ h => h) (Or.inl ⟨(by rfl), ?_⟩) hHeld ?_ ?_
           rotate_left
           · rintro w' ⟨s0, s1, s2, s3, s4⟩
             go_simp
             with_reducible rfl
           rotate_left
           exact pp_
           refine pure_ (i := 4) (N := some 24) (v := ?_) (a' := ?_) (mr_ [5, 3]) rfl rfl (any_of HT_.out βDa) (fun _ _ _ h => h) (Or.inl ⟨(by rfl), ?_⟩) ?_ ?_
           rotate_left; exact pv_; rotate_left; exact pp_
           refine take_ (i := 5) (N := some 25) (v := ?_) (a' := ?_) (mr_ [6, 2]) rfl rfl (take_ofW HT_.out HW_.out βDa) (fun _ _ _ h => h) (Or.inl ⟨(by rfl), ?_⟩) hHeld ?_ ?_
           rotate_left
           · rintro w' ⟨s0, s1, s2, s3, s4⟩
             go_simp
             with_reducible rfl
           rotate_left
           exact pp_
           refine one_ (i := 6) (N := some 26) (mr_ [7, 1]) rfl rfl (one_of HT_.out βDa) (by decide) (fun K hK => ?_)
           refine goes_ Tryd.func51 βDa rfl #[.agg #[.int .i64 a1_0, .int .i64 a1_1, .int .i64 a1_2, .string a1_3], .string (rdOf ByteArray.empty l0 a1_2)] (by rfl) rfl rfl zs_ ?_
           with_reducible refine (impl_madeBy.calls a1_0 a1_1 a1_2 a1_3 (rdOf ByteArray.empty l0 a1_2) t602 _ A14.out).mono ?_
           rintro e w19 ⟨rfl, hb⟩
           refine ⟨_, rfl, ?_⟩
           have n0_ := zA_ (blk_below (g := gb597) (o := .cells #[.int .i64 a1_0, .int .i64 a1_1, .int .i64 a1_2, .string a1_3] 42 (0, 0)) (zb_ BK597.out) hb)
           have n1_ := zA_ (below_step (zg1_ HB.out GE597.out) hb)
           clear BK597 HB
           have BK597 := n0_
           have HB := n1_
           clear n0_ n1_
           (try clear hb)
           (try clear hb2)
           (try clear hk)
           (try clear hi)
           refine hK.out _ _ ⟨cy_ BK597.out 0, cy_ BK597.out 1, cy_ BK597.out 2, cy_ BK597.out 3, (bc_ HB.out hw601_0)⟩ (fun hHeld => ?_)
           clear hK K
           refine norm_ (a' := ?_) ?_ ?_
           rotate_left
           · show Act.put _ (some 26) _ = _
             simp only [Act.put, List.setIfInBounds_toArray, List.set_cons_zero, List.set_cons_succ, i64_w, i32_w]
             rfl
           refine pure_ (i := 7) (N := some 4) (v := ?_) (a' := ?_) (mr_ [8]) rfl rfl (any_of HT_.out βDa) (fun _ _ _ h => h) (Or.inl ⟨(by rfl), ?_⟩) ?_ ?_
           rotate_left; exact pv_; rotate_left; exact pp_
           refine done_ (done_of HT_.out βDa) ?_
           try go_wp2
           go_ret
           exact ⟨βsa, βT⟩
         · rw [if_neg c13] at H
           exact absurd H (by simp)
       · rw [if_neg c12] at H
         exact absurd H (by simp)
   · replace c7 := Bool.eq_false_iff.mpr c7
     subst c7
     have H1 : (some (⟨#[]⟩ : ByteArray)) = some r := by rw [if_neg (show ¬ (false = true) by decide)] at H; exact H
     clear H
     have H := H1
     clear H1
     obtain rfl := Option.some.inj H
     go_enter Tryd.func24, Tryd.ntmps24
     try go_wp2_with (first | ((with_reducible refine gate_dst (N := 3) rfl ?_); refine box_event ?hg (N := 3) ?hd (cs := #[.int .i64 a1_0, .int .i64 a1_1, .int .i64 a1_2, .string a1_3]) (t := 42) ?hr ?_; (case hd => exact (by rfl)); (case hg => exact (by rfl)); (case hr => exact βAa); intro gb597 hg w20 hbox hb; have n0_ := zA_ (below_step (zh_ HB.out) hb); have n1_ := zA_ (hbox); have n2_ := zA_ ((by rw [hg]; exact (below_size (zh_ HB.out)) : w.heap.size ≤ gb597)); have n3_ := zA_ ((by rw [hg]; exact (below_size (zh_ HB.out)) : w.heap.size ≤ gb597)); clear HB; have HB := n0_; have BK597 := n1_; have GW597 := n2_; have GE597 := n3_; clear n0_ n1_ n2_ n3_; clear hb hbox hg))
     have n0_ := zA_ (blk_drew BK597.out)
     have n1_ := zA_ (below_drew1 HB.out)
     clear BK597 HB
     have BK597 := n0_
     have HB := n1_
     clear n0_ n1_
     refine start_ (n := 15) (S := fun w' => w'.cell? ⟨gb597, 0, none⟩ = some (.int .i64 a1_0) ∧ w'.cell? ⟨gb597, 1, none⟩ = some (.int .i64 a1_1) ∧ w'.cell? ⟨gb597, 2, none⟩ = some (.int .i64 a1_2) ∧ w'.cell? ⟨gb597, 3, none⟩ = some (.string a1_3)) (ds := []) (mr_ [0, 15]) βDa rfl rfl ⟨cy_ BK597.out 0, cy_ BK597.out 1, cy_ BK597.out 2, cy_ BK597.out 3⟩ (fun hHeld => ?_); refine with_tabW impl_MadeBy.tab1 impl_MadeBy.bits1 (fun HT_ HW_ => ?_)
     generalize w20.drew = w21 at BK597 HB hHeld ⊢
     refine pure_ (i := 0) (N := some 5) (v := ?_) (a' := ?_) (mr_ [1, 14]) rfl rfl (any_of HT_.out βDa) (fun _ _ _ h => h) (Or.inl ⟨(by rfl), ?_⟩) ?_ ?_
     rotate_left; exact pv_; rotate_left; exact pp_
     refine one_ (i := 1) (N := some 6) (mr_ [2, 13]) rfl rfl (one_of HT_.out βDa) (by decide) (fun K hK => ?_)
     refine goes_ Tryd.func34 βDa rfl #[.slice A0 l0.length c0] (by rfl) rfl rfl zs_ ?_
     with_reducible refine (impl_isImage.calls _ _ l0 true _ ?side1 ?side2 A3.out).mono ?_
     (case side1 => exact zc_ (Kd.C_below HR0.out HB.out))
     (case side2 => exact HC0.out)
     rintro e w' ⟨rfl, ⟨nd, rfl⟩⟩
     refine ⟨_, rfl, ?_⟩
     refine hK.out _ _ ⟨cy_ BK597.out 0, cy_ BK597.out 1, cy_ BK597.out 2, cy_ BK597.out 3⟩ (fun hHeld => ?_)
     clear hK K
     refine norm_ (a' := ?_) ?_ ?_
     rotate_left
     · show Act.put _ (some 6) _ = _
       simp only [Act.put, List.setIfInBounds_toArray, List.set_cons_zero, List.set_cons_succ, i64_w, i32_w]
       rfl
     refine pure_ (i := 2) (N := some 7) (v := ?_) (a' := ?_) (mr_ [3, 12]) rfl rfl (any_of HT_.out βDa) (fun _ _ _ h => h) (Or.inl ⟨(by rfl), ?_⟩) ?_ ?_
     rotate_left; exact pv_; rotate_left; exact pp_
     refine pure_ (i := 3) (N := some 8) (v := ?_) (a' := ?_) (mr_ [4, 11]) rfl rfl (any_of HT_.out βDa) (fun _ _ _ h => h) (Or.inl ⟨(by rfl), ?_⟩) ?_ ?_
     rotate_left; exact pv_; rotate_left; exact pp_
     refine pure_ (i := 5) (N := some 10) (v := ?_) (a' := ?_) (mr_ [4, 1, 1, 9]) rfl rfl (any_of HT_.out βDa) (fun _ _ _ h => h) (Or.inl ⟨(by rfl), ?_⟩) ?_ ?_
     rotate_left; exact pv_; rotate_left; exact pp_
     refine take_ (i := 4) (N := some 9) (v := ?_) (a' := ?_) (mr_ [6, 9]) rfl rfl (take_ofW HT_.out HW_.out βDa) (fun _ _ _ h => h) (Or.inl ⟨(by rfl), ?_⟩) hHeld ?_ ?_
     rotate_left
     · rintro w' ⟨s0, s1, s2, s3⟩
       go_simp
       with_reducible rfl
     rotate_left
     exact pp_
     refine one_ (i := 6) (N := some 11) (mr_ [7, 8]) rfl rfl (one_of HT_.out βDa) (by decide) (fun K hK => ?_)
     refine goes_ Tryd.func39 βDa rfl #[.slice A0 l0.length c0] (by rfl) rfl rfl zs_ ?_
     with_reducible refine (impl_size_string.calls _ _ l0 t599 _ ?side1 ?side2 A5.out).mono ?_
     (case side1 => exact zc_ (Kd.C_below HR0.out (zg1_ HB.out GE597.out)))
     (case side2 => exact HC0.out)
     rintro e w' ⟨rfl, ⟨nd, rfl⟩⟩
     refine ⟨_, rfl, ?_⟩
     refine hK.out _ _ ⟨cy_ BK597.out 0, cy_ BK597.out 1, cy_ BK597.out 2, cy_ BK597.out 3⟩ (fun hHeld => ?_)
     clear hK K
     refine norm_ (a' := ?_) ?_ ?_
     rotate_left
     · show Act.put _ (some 11) _ = _
       simp only [Act.put, List.setIfInBounds_toArray, List.set_cons_zero, List.set_cons_succ, i64_w, i32_w]
       rfl
     refine one_ (i := 7) (N := some 12) (mr_ [8, 7]) rfl rfl (one_of HT_.out βDa) (by decide) (fun K hK => ?_)
     refine goes_ Tryd.func50 βDa rfl #[.agg #[.int .i64 a1_0, .int .i64 a1_1, .int .i64 a1_2, .string a1_3], .int .i64 t599] (by rfl) rfl rfl zs_ ?_
     with_reducible refine (impl_isStep.calls k a1_0 a1_1 a1_2 a1_3 t599 false _ A6.out).mono ?_
     rintro e w22 ⟨rfl, hb⟩
     refine ⟨_, rfl, ?_⟩
     have n0_ := zA_ (blk_below (g := gb597) (o := .cells #[.int .i64 a1_0, .int .i64 a1_1, .int .i64 a1_2, .string a1_3] 42 (0, 0)) (zb_ BK597.out) hb)
     have n1_ := zA_ (below_step (zg1_ HB.out GE597.out) hb)
     clear BK597 HB
     have BK597 := n0_
     have HB := n1_
     clear n0_ n1_
     (try clear hb)
     (try clear hb2)
     (try clear hk)
     (try clear hi)
     refine hK.out _ _ ⟨cy_ BK597.out 0, cy_ BK597.out 1, cy_ BK597.out 2, cy_ BK597.out 3⟩ (fun hHeld => ?_)
     clear hK K
     refine norm_ (a' := ?_) ?_ ?_
     rotate_left
     · show Act.put _ (some 12) _ = _
       simp only [Act.put, List.setIfInBounds_toArray, List.set_cons_zero, List.set_cons_succ, i64_w, i32_w]
       rfl
     refine pure_ (i := 8) (N := some 13) (v := ?_) (a' := ?_) (mr_ [9, 6]) rfl rfl (any_of HT_.out βDa) (fun _ _ _ h => h) (Or.inl ⟨(by rfl), ?_⟩) ?_ ?_
     rotate_left; exact pv_; rotate_left; exact pp_
     refine pure_ (i := 9) (N := some 14) (v := ?_) (a' := ?_) (mr_ [10, 5]) rfl rfl (any_of HT_.out βDa) (fun _ _ _ h => h) (Or.inl ⟨(by rfl), ?_⟩) ?_ ?_
     rotate_left; exact pv_; rotate_left; exact pp_
     refine pure_ (i := 10) (N := some 15) (v := ?_) (a' := ?_) (mr_ [11, 4]) rfl rfl (any_of HT_.out βDa) (fun _ _ _ h => h) (Or.inl ⟨(by rfl), ?_⟩) ?_ ?_
     rotate_left; exact pv_; rotate_left; exact pp_
     refine pure_ (i := 11) (N := some 16) (v := undef) (a' := ?_) (mr_ [12, 3]) rfl rfl (any_of HT_.out βDa) (fun _ _ _ h => h) (Or.inr ⟨(by rfl), rfl⟩) ?_ ?_
     rotate_left
     exact pp_
     refine pure_ (i := 12) (N := some 17) (v := undef) (a' := ?_) (mr_ [13, 2]) rfl rfl (any_of HT_.out βDa) (fun _ _ _ h => h) (Or.inr ⟨(by rfl), rfl⟩) ?_ ?_
     rotate_left
     exact pp_
     refine pure_ (i := 13) (N := some 18) (v := undef) (a' := ?_) (mr_ [14, 1]) rfl rfl (any_of HT_.out βDa) (fun _ _ _ h => h) (Or.inr ⟨(by rfl), rfl⟩) ?_ ?_
     rotate_left
     exact pp_
     refine pure_ (i := 14) (N := some 19) (v := ?_) (a' := ?_) (mr_ [15]) rfl rfl (any_of HT_.out βDa) (fun _ _ _ h => h) (Or.inl ⟨(by rfl), ?_⟩) ?_ ?_
     rotate_left; exact pv_; rotate_left; exact pp_
     refine done_ (done_of HT_.out βDa) ?_
     try go_wp2
     go_ret
     exact ⟨βsa, βT⟩
 · replace c4 := Bool.eq_false_iff.mpr c4
   subst c4
   have H1 : (some (⟨#[]⟩ : ByteArray)) = some r := by rw [if_neg (show ¬ (false = true) by decide)] at H; exact H
   clear H
   have H := H1
   clear H1
   obtain rfl := Option.some.inj H
   go_enter Tryd.func24, Tryd.ntmps24
   try go_wp2_with (first | ((with_reducible refine gate_dst (N := 3) rfl ?_); refine box_event ?hg (N := 3) ?hd (cs := #[.int .i64 a1_0, .int .i64 a1_1, .int .i64 a1_2, .string a1_3]) (t := 42) ?hr ?_; (case hd => exact (by rfl)); (case hg => exact (by rfl)); (case hr => exact βAa); intro gb597 hg w23 hbox hb; have n0_ := zA_ (below_step (zh_ HB.out) hb); have n1_ := zA_ (hbox); have n2_ := zA_ ((by rw [hg]; exact (below_size (zh_ HB.out)) : w.heap.size ≤ gb597)); have n3_ := zA_ ((by rw [hg]; exact (below_size (zh_ HB.out)) : w.heap.size ≤ gb597)); clear HB; have HB := n0_; have BK597 := n1_; have GW597 := n2_; have GE597 := n3_; clear n0_ n1_ n2_ n3_; clear hb hbox hg))
   have n0_ := zA_ (blk_drew BK597.out)
   have n1_ := zA_ (below_drew1 HB.out)
   clear BK597 HB
   have BK597 := n0_
   have HB := n1_
   clear n0_ n1_
   refine start_ (n := 15) (S := fun w' => True) (ds := []) (mr_ [0, 15]) βDa rfl rfl trivial (fun hHeld => ?_); refine with_tabW impl_MadeBy.tab1 impl_MadeBy.bits1 (fun HT_ HW_ => ?_)
   generalize w23.drew = w24 at BK597 HB hHeld ⊢
   refine pure_ (i := 0) (N := some 5) (v := ?_) (a' := ?_) (mr_ [1, 14]) rfl rfl (any_of HT_.out βDa) (fun _ _ _ h => h) (Or.inl ⟨(by rfl), ?_⟩) ?_ ?_
   rotate_left; exact pv_; rotate_left; exact pp_
   refine one_ (i := 1) (N := some 6) (mr_ [2, 13]) rfl rfl (one_of HT_.out βDa) (by decide) (fun K hK => ?_)
   refine goes_ Tryd.func34 βDa rfl #[.slice A0 l0.length c0] (by rfl) rfl rfl zs_ ?_
   with_reducible refine (impl_isImage.calls _ _ l0 false _ ?side1 ?side2 A3.out).mono ?_
   (case side1 => exact zc_ (Kd.C_below HR0.out HB.out))
   (case side2 => exact HC0.out)
   rintro e w' ⟨rfl, ⟨nd, rfl⟩⟩
   refine ⟨_, rfl, ?_⟩
   refine hK.out _ _ trivial (fun hHeld => ?_)
   clear hK K
   refine norm_ (a' := ?_) ?_ ?_
   rotate_left
   · show Act.put _ (some 6) _ = _
     simp only [Act.put, List.setIfInBounds_toArray, List.set_cons_zero, List.set_cons_succ, i64_w, i32_w]
     rfl
   refine pure_ (i := 2) (N := some 7) (v := ?_) (a' := ?_) (mr_ [3, 12]) rfl rfl (any_of HT_.out βDa) (fun _ _ _ h => h) (Or.inl ⟨(by rfl), ?_⟩) ?_ ?_
   rotate_left; exact pv_; rotate_left; exact pp_
   refine pure_ (i := 3) (N := some 8) (v := ?_) (a' := ?_) (mr_ [4, 11]) rfl rfl (any_of HT_.out βDa) (fun _ _ _ h => h) (Or.inl ⟨(by rfl), ?_⟩) ?_ ?_
   rotate_left; exact pv_; rotate_left; exact pp_
   refine pure_ (i := 4) (N := some 9) (v := undef) (a' := ?_) (mr_ [5, 10]) rfl rfl (any_of HT_.out βDa) (fun _ _ _ h => h) (Or.inr ⟨(by rfl), rfl⟩) ?_ ?_
   rotate_left
   exact pp_
   refine pure_ (i := 5) (N := some 10) (v := undef) (a' := ?_) (mr_ [6, 9]) rfl rfl (any_of HT_.out βDa) (fun _ _ _ h => h) (Or.inr ⟨(by rfl), rfl⟩) ?_ ?_
   rotate_left
   exact pp_
   refine pure_ (i := 6) (N := some 11) (v := undef) (a' := ?_) (mr_ [7, 8]) rfl rfl (any_of HT_.out βDa) (fun _ _ _ h => h) (Or.inr ⟨(by rfl), rfl⟩) ?_ ?_
   rotate_left
   exact pp_
   refine pure_ (i := 7) (N := some 12) (v := undef) (a' := ?_) (mr_ [8, 7]) rfl rfl (any_of HT_.out βDa) (fun _ _ _ h => h) (Or.inr ⟨(by rfl), rfl⟩) ?_ ?_
   rotate_left
   exact pp_
   refine pure_ (i := 8) (N := some 13) (v := undef) (a' := ?_) (mr_ [9, 6]) rfl rfl (any_of HT_.out βDa) (fun _ _ _ h => h) (Or.inr ⟨(by rfl), rfl⟩) ?_ ?_
   rotate_left
   exact pp_
   refine pure_ (i := 9) (N := some 14) (v := ?_) (a' := ?_) (mr_ [10, 5]) rfl rfl (any_of HT_.out βDa) (fun _ _ _ h => h) (Or.inl ⟨(by rfl), ?_⟩) ?_ ?_
   rotate_left; exact pv_; rotate_left; exact pp_
   refine pure_ (i := 10) (N := some 15) (v := ?_) (a' := ?_) (mr_ [11, 4]) rfl rfl (any_of HT_.out βDa) (fun _ _ _ h => h) (Or.inl ⟨(by rfl), ?_⟩) ?_ ?_
   rotate_left; exact pv_; rotate_left; exact pp_
   refine pure_ (i := 11) (N := some 16) (v := undef) (a' := ?_) (mr_ [12, 3]) rfl rfl (any_of HT_.out βDa) (fun _ _ _ h => h) (Or.inr ⟨(by rfl), rfl⟩) ?_ ?_
   rotate_left
   exact pp_
   refine pure_ (i := 12) (N := some 17) (v := undef) (a' := ?_) (mr_ [13, 2]) rfl rfl (any_of HT_.out βDa) (fun _ _ _ h => h) (Or.inr ⟨(by rfl), rfl⟩) ?_ ?_
   rotate_left
   exact pp_
   refine pure_ (i := 13) (N := some 18) (v := undef) (a' := ?_) (mr_ [14, 1]) rfl rfl (any_of HT_.out βDa) (fun _ _ _ h => h) (Or.inr ⟨(by rfl), rfl⟩) ?_ ?_
   rotate_left
   exact pp_
   refine pure_ (i := 14) (N := some 19) (v := ?_) (a' := ?_) (mr_ [15]) rfl rfl (any_of HT_.out βDa) (fun _ _ _ h => h) (Or.inl ⟨(by rfl), ?_⟩) ?_ ?_
   rotate_left; exact pv_; rotate_left; exact pp_
   refine done_ (done_of HT_.out βDa) ?_
   try go_wp2
   go_ret
   exact ⟨βsa, βT⟩
def spec_MadeBy.f (k : Nat) (l0 : List ByteArray) (a1_0 : Int) (a1_1 : Int) (a1_2 : Int) (a1_3 : ByteArray) : Option (ByteArray) := (spec_ImageRight.f k l0).bind fun t604 => (if t604 = true then (if a1_0 = 5 then (some (⟨#[]⟩ : ByteArray)) else ((spec_StepRight.f a1_0 a1_1 a1_2 a1_3 (l0.length : Int)).bind fun t605 => (if t605 = true then (if 0 ≤ a1_2 then (if a1_2 < (l0.length : Int) then ((spec_l07Make.f k a1_0 a1_1 a1_2 a1_3 (rdOf ByteArray.empty l0 a1_2)).bind fun t607 => (some t607)) else (none)) else (none)) else (some (⟨#[]⟩ : ByteArray))))) else (some (⟨#[]⟩ : ByteArray)))
def spec_MadeBy.T3 : Bool × List (List Nat × List Nat) := (true, [([], []), ([], []), ([], []), ([2], [2]), ([1, 3], [1, 3]), ([4], [4]), ([0, 5], [0, 5]), ([6, 6, 0, 1, 2, 3, 4, 5, 6], [6])])
def spec_MadeBy.B3 : List Nat := [0, 0, 0, 4, 14, 30, 63, 127]
theorem spec_MadeBy.tab3 : rtab .any (opsOf Tryd.f25 3) = spec_MadeBy.T3 := by kernel_rfl
theorem spec_MadeBy.bits3 : waitsOk spec_MadeBy.T3.2 spec_MadeBy.B3 = true := by kernel_rfl
theorem spec_MadeBy.calls (k : Nat) (A0 : Option Addr) (c0 : Nat) (l0 : List ByteArray) (a1_0 : Int) (a1_1 : Int) (a1_2 : Int) (a1_3 : ByteArray) (r : ByteArray) (w : World) (hr0 : Kd.C Kd.string w A0 l0.length l0) (hc0 : l0.length ≤ c0) (h : spec_MadeBy.f k l0 a1_0 a1_1 a1_2 a1_3 = some r) :
 Calls Tryd.prog 25 #[.slice A0 l0.length c0, .agg #[.int .i64 a1_0, .int .i64 a1_1, .int .i64 a1_2, .string a1_3]] w fun e w' => e = .returned (.string r) ∧ Below w.heap.size w w' := by
 have hu42 := Tryd.underlying42
 have HR0 := zA_ hr0
 have HC0 := zA_ hc0
 clear hr0 hc0
 have HB := zA_ (Below.refl w.heap.size w)
 have H : ((spec_ImageRight.f k l0).bind fun t604 => (if t604 = true then (if a1_0 = 5 then (some (⟨#[]⟩ : ByteArray)) else ((spec_StepRight.f a1_0 a1_1 a1_2 a1_3 (l0.length : Int)).bind fun t605 => (if t605 = true then (if 0 ≤ a1_2 then (if a1_2 < (l0.length : Int) then ((spec_l07Make.f k a1_0 a1_1 a1_2 a1_3 (rdOf ByteArray.empty l0 a1_2)).bind fun t607 => (some t607)) else (none)) else (none)) else (some (⟨#[]⟩ : ByteArray))))) else (some (⟨#[]⟩ : ByteArray)))) = some r := h
 clear h
 replace H := Option.bind_eq_some_iff.mp H
 obtain ⟨t604, A30, H⟩ := H
 replace H : (if t604 = true then (if a1_0 = 5 then (some (⟨#[]⟩ : ByteArray)) else ((spec_StepRight.f a1_0 a1_1 a1_2 a1_3 (l0.length : Int)).bind fun t605 => (if t605 = true then (if 0 ≤ a1_2 then (if a1_2 < (l0.length : Int) then ((spec_l07Make.f k a1_0 a1_1 a1_2 a1_3 (rdOf ByteArray.empty l0 a1_2)).bind fun t607 => (some t607)) else (none)) else (none)) else (some (⟨#[]⟩ : ByteArray))))) else (some (⟨#[]⟩ : ByteArray))) = some r := H
 have A3 := zA_ A30
 clear A30
 by_cases c4 : t604 = true
 · subst c4
   have H1 : (if a1_0 = 5 then (some (⟨#[]⟩ : ByteArray)) else ((spec_StepRight.f a1_0 a1_1 a1_2 a1_3 (l0.length : Int)).bind fun t605 => (if t605 = true then (if 0 ≤ a1_2 then (if a1_2 < (l0.length : Int) then ((spec_l07Make.f k a1_0 a1_1 a1_2 a1_3 (rdOf ByteArray.empty l0 a1_2)).bind fun t607 => (some t607)) else (none)) else (none)) else (some (⟨#[]⟩ : ByteArray))))) = some r := by rw [if_pos rfl] at H; exact H
   clear H
   have H := H1
   clear H1
   by_cases c5 : a1_0 = 5
   · rw [if_pos c5] at H
     have c5b0 : (a1_0 == 5) = true := beq_iff_eq.mpr c5
     have c5b1 : (a1_0 != 5) = false := bne_eq_false_iff_eq.mpr c5
     clear c5
     obtain rfl := Option.some.inj H
     go_enter Tryd.func25, Tryd.ntmps25
     go_wp2_with (first | ((with_reducible refine gate_dst (N := 3) rfl ?_); (try (refine gate_guard (by rfl) ?_; dsimp only)); refine box_event ?hg (N := 3) ?hd (cs := #[.int .i64 a1_0, .int .i64 a1_1, .int .i64 a1_2, .string a1_3]) (t := 42) ?hr ?_; (case hd => exact (by rfl)); (case hg => exact (by rfl)); (case hr => exact βAa); intro gb603 hg w6 hbox hb; have n0_ := zA_ (below_step (zh_ HB.out) hb); have n1_ := zA_ (hbox); have n2_ := zA_ ((by rw [hg]; exact (below_size (zh_ HB.out)) : w.heap.size ≤ gb603)); have n3_ := zA_ ((by rw [hg]; exact (below_size (zh_ HB.out)) : w.heap.size ≤ gb603)); clear HB; have HB := n0_; have BK603 := n1_; have GW603 := n2_; have GE603 := n3_; clear n0_ n1_ n2_ n3_; clear hb hbox hg) | ((with_reducible refine gate_callee (f := 27) rfl ?_); refine goesL_ (some 6) rfl rfl Tryd.func27 βDa rfl #[.slice A0 l0.length c0] rfl zs_ ?_; (with_reducible refine (spec_ImageRight.calls k _ _ l0 true _ ?side1 ?side2 A3.out).mono ?_); (case side1 => exact zc_ (Kd.C_below HR0.out HB.out)); (case side2 => exact HC0.out); rintro e w' ⟨rfl, ⟨nd, rfl⟩⟩; refine ⟨_, rfl, ?_⟩; have hcz7_0 := cz_ BK603.out 0 (.int .i64 a1_0) rfl; have hcz7_1 := cz_ BK603.out 1 (.int .i64 a1_1) rfl; have hcz7_2 := cz_ BK603.out 2 (.int .i64 a1_2) rfl; have hcz7_3 := cz_ BK603.out 3 (.string a1_3) rfl; have hfz7_0 := blk_frozen BK603.out 0; have hfz7_1 := blk_frozen BK603.out 1; have hfz7_2 := blk_frozen BK603.out 2; have hfz7_3 := blk_frozen BK603.out 3))
     go_ret
     exact ⟨βsa, βU⟩
   · rw [if_neg c5] at H
     have c5b0 : (a1_0 == 5) = false := beq_eq_false_iff_ne.mpr c5
     have c5b1 : (a1_0 != 5) = true := bne_iff_ne.mpr c5
     replace H := Option.bind_eq_some_iff.mp H
     obtain ⟨t605, A80, H⟩ := H
     replace H : (if t605 = true then (if 0 ≤ a1_2 then (if a1_2 < (l0.length : Int) then ((spec_l07Make.f k a1_0 a1_1 a1_2 a1_3 (rdOf ByteArray.empty l0 a1_2)).bind fun t607 => (some t607)) else (none)) else (none)) else (some (⟨#[]⟩ : ByteArray))) = some r := H
     have A8 := zA_ A80
     clear A80
     by_cases c9 : t605 = true
     · subst c9
       have H1 : (if 0 ≤ a1_2 then (if a1_2 < (l0.length : Int) then ((spec_l07Make.f k a1_0 a1_1 a1_2 a1_3 (rdOf ByteArray.empty l0 a1_2)).bind fun t607 => (some t607)) else (none)) else (none)) = some r := by rw [if_pos rfl] at H; exact H
       clear H
       have H := H1
       clear H1
       by_cases c10 : 0 ≤ a1_2
       · rw [if_pos c10] at H
         have c10b0 : decide (0 ≤ a1_2) = true := decide_eq_true c10
         clear c10
         by_cases c11 : a1_2 < (l0.length : Int)
         · rw [if_pos c11] at H
           have c11b0 : decide (a1_2 < (l0.length : Int)) = true := decide_eq_true c11
           clear c11
           replace H := Option.bind_eq_some_iff.mp H
           obtain ⟨t607, A120, H⟩ := H
           replace H : (some t607) = some r := H
           have A12 := zA_ A120
           clear A120
           obtain rfl := Option.some.inj H
           go_enter Tryd.func25, Tryd.ntmps25
           try go_wp2_with (first | ((with_reducible refine gate_dst (N := 3) rfl ?_); (try (refine gate_guard (by rfl) ?_; dsimp only)); refine box_event ?hg (N := 3) ?hd (cs := #[.int .i64 a1_0, .int .i64 a1_1, .int .i64 a1_2, .string a1_3]) (t := 42) ?hr ?_; (case hd => exact (by rfl)); (case hg => exact (by rfl)); (case hr => exact βAa); intro gb603 hg w13 hbox hb; have n0_ := zA_ (below_step (zh_ HB.out) hb); have n1_ := zA_ (hbox); have n2_ := zA_ ((by rw [hg]; exact (below_size (zh_ HB.out)) : w.heap.size ≤ gb603)); have n3_ := zA_ ((by rw [hg]; exact (below_size (zh_ HB.out)) : w.heap.size ≤ gb603)); clear HB; have HB := n0_; have BK603 := n1_; have GW603 := n2_; have GE603 := n3_; clear n0_ n1_ n2_ n3_; clear hb hbox hg) | ((with_reducible refine gate_callee (f := 27) rfl ?_); refine goesL_ (some 6) rfl rfl Tryd.func27 βDa rfl #[.slice A0 l0.length c0] rfl zs_ ?_; (with_reducible refine (spec_ImageRight.calls k _ _ l0 true _ ?side1 ?side2 A3.out).mono ?_); (case side1 => exact zc_ (Kd.C_below HR0.out HB.out)); (case side2 => exact HC0.out); rintro e w' ⟨rfl, ⟨nd, rfl⟩⟩; refine ⟨_, rfl, ?_⟩; have hcz14_0 := cz_ BK603.out 0 (.int .i64 a1_0) rfl; have hcz14_1 := cz_ BK603.out 1 (.int .i64 a1_1) rfl; have hcz14_2 := cz_ BK603.out 2 (.int .i64 a1_2) rfl; have hcz14_3 := cz_ BK603.out 3 (.string a1_3) rfl; have hfz14_0 := blk_frozen BK603.out 0; have hfz14_1 := blk_frozen BK603.out 1; have hfz14_2 := blk_frozen BK603.out 2; have hfz14_3 := blk_frozen BK603.out 3) | (go_at_call 52; (with_reducible refine (spec_StepRight.calls a1_0 a1_1 a1_2 a1_3 (l0.length : Int) true _ A8.out).mono ?_); rintro e w15 ⟨rfl, hb⟩; have n0_ := zA_ (blk_below (g := gb603) (o := .cells #[.int .i64 a1_0, .int .i64 a1_1, .int .i64 a1_2, .string a1_3] 42 (0, 0)) (zb_ BK603.out) hb); have n1_ := zA_ (below_step (zg1_ HB.out GE603.out) hb); clear BK603 HB; have BK603 := n0_; have HB := n1_; clear n0_ n1_; (try clear hb); (try clear hb2); (try clear hk); (try clear hi)))
           have n0_ := zA_ (blk_drew BK603.out)
           have n1_ := zA_ (below_drew1 HB.out)
           clear BK603 HB
           have BK603 := n0_
           have HB := n1_
           clear n0_ n1_
           have p606 : 0 ≤ (a1_2 : Int) := of_decide_eq_true βxa
           have q606 : a1_2 < (l0.length : Int) := of_decide_eq_true βxa
           obtain ⟨ad606, e606, hx606_0⟩ := Kd.at_string HR0.out a1_2 p606 q606
           have hw606_0 := hx606_0
           cases e606
           replace hx606_0 := bc_ HB.out hx606_0
           replace p606 := eq_true p606
           replace q606 := eq_true q606
           refine start_ (n := 8) (S := fun w' => w'.cell? ⟨gb603, 0, none⟩ = some (.int .i64 a1_0) ∧ w'.cell? ⟨gb603, 1, none⟩ = some (.int .i64 a1_1) ∧ w'.cell? ⟨gb603, 2, none⟩ = some (.int .i64 a1_2) ∧ w'.cell? ⟨gb603, 3, none⟩ = some (.string a1_3) ∧ w'.cell? (ad606.add (a1_2).toNat) = some (.string (rdOf ByteArray.empty l0 a1_2))) (ds := []) (mr_ [0, 8]) βDa rfl rfl ⟨cy_ BK603.out 0, cy_ BK603.out 1, cy_ BK603.out 2, cy_ BK603.out 3, (bc_ HB.out hw606_0)⟩ (fun hHeld => ?_); refine with_tabW spec_MadeBy.tab3 spec_MadeBy.bits3 (fun HT_ HW_ => ?_)
           generalize w15.drew = w16 at BK603 HB hx606_0 hHeld ⊢
           refine pure_ (i := 1) (N := some 21) (v := ?_) (a' := ?_) (mr_ [0, 1, 1, 6]) rfl rfl (any_of HT_.out βDa) (fun _ _ _ h => h) (Or.inl ⟨(by rfl), ?_⟩) ?_ ?_
           rotate_left; exact pv_; rotate_left; exact pp_
           refine pure_ (i := 2) (N := some 22) (v := ?_) (a' := ?_) (mr_ [0, 1, 2, 5]) rfl rfl (any_of HT_.out βDa) (fun _ _ _ h => h) (Or.inl ⟨(by rfl), ?_⟩) ?_ ?_
           rotate_left; exact pv_; rotate_left; exact pp_
           refine take_ (i := 0) (N := some 20) (v := ?_) (a' := ?_) (mr_ [3, 5]) rfl rfl (take_ofW HT_.out HW_.out βDa) (fun _ _ _ h => h) (Or.inl ⟨(by rfl), ?_⟩) hHeld ?_ ?_
           rotate_left
           · rintro w' ⟨s0, s1, s2, s3, s4⟩
             go_simp
             with_reducible rfl
           rotate_left
           exact pp_
           refine take_ (i := 3) (N := some 23) (v := ?_) (a' := ?_) (mr_ [4, 4]) rfl rfl (take_ofW HT_.out HW_.out βDa) (fun _ _ _ h => h) (Or.inl ⟨(by rfl), ?_⟩) hHeld ?_ ?_
           rotate_left
           · rintro w' ⟨s0, s1, s2, s3, s4⟩
             go_simp
             with_reducible rfl
           rotate_left
           exact pp_
           refine pure_ (i := 4) (N := some 24) (v := ?_) (a' := ?_) (mr_ [5, 3]) rfl rfl (any_of HT_.out βDa) (fun _ _ _ h => h) (Or.inl ⟨(by rfl), ?_⟩) ?_ ?_
           rotate_left; exact pv_; rotate_left; exact pp_
           refine take_ (i := 5) (N := some 25) (v := ?_) (a' := ?_) (mr_ [6, 2]) rfl rfl (take_ofW HT_.out HW_.out βDa) (fun _ _ _ h => h) (Or.inl ⟨(by rfl), ?_⟩) hHeld ?_ ?_
           rotate_left
           · rintro w' ⟨s0, s1, s2, s3, s4⟩
             go_simp
             with_reducible rfl
           rotate_left
           exact pp_
           refine one_ (i := 6) (N := some 26) (mr_ [7, 1]) rfl rfl (one_of HT_.out βDa) (by decide) (fun K hK => ?_)
           refine goes_ Tryd.func53 βDa rfl #[.agg #[.int .i64 a1_0, .int .i64 a1_1, .int .i64 a1_2, .string a1_3], .string (rdOf ByteArray.empty l0 a1_2)] (by rfl) rfl rfl zs_ ?_
           with_reducible refine (spec_l07Make.calls k a1_0 a1_1 a1_2 a1_3 (rdOf ByteArray.empty l0 a1_2) t607 _ A12.out).mono ?_
           rintro e w17 ⟨rfl, hb⟩
           refine ⟨_, rfl, ?_⟩
           have n0_ := zA_ (blk_below (g := gb603) (o := .cells #[.int .i64 a1_0, .int .i64 a1_1, .int .i64 a1_2, .string a1_3] 42 (0, 0)) (zb_ BK603.out) hb)
           have n1_ := zA_ (below_step (zg1_ HB.out GE603.out) hb)
           clear BK603 HB
           have BK603 := n0_
           have HB := n1_
           clear n0_ n1_
           (try clear hb)
           (try clear hb2)
           (try clear hk)
           (try clear hi)
           refine hK.out _ _ ⟨cy_ BK603.out 0, cy_ BK603.out 1, cy_ BK603.out 2, cy_ BK603.out 3, (bc_ HB.out hw606_0)⟩ (fun hHeld => ?_)
           clear hK K
           refine norm_ (a' := ?_) ?_ ?_
           rotate_left
           · show Act.put _ (some 26) _ = _
             simp only [Act.put, List.setIfInBounds_toArray, List.set_cons_zero, List.set_cons_succ, i64_w, i32_w]
             rfl
           refine pure_ (i := 7) (N := some 4) (v := ?_) (a' := ?_) (mr_ [8]) rfl rfl (any_of HT_.out βDa) (fun _ _ _ h => h) (Or.inl ⟨(by rfl), ?_⟩) ?_ ?_
           rotate_left; exact pv_; rotate_left; exact pp_
           refine done_ (done_of HT_.out βDa) ?_
           try go_wp2
           go_ret
           exact ⟨βsa, βU⟩
         · rw [if_neg c11] at H
           exact absurd H (by simp)
       · rw [if_neg c10] at H
         exact absurd H (by simp)
     · replace c9 := Bool.eq_false_iff.mpr c9
       subst c9
       have H1 : (some (⟨#[]⟩ : ByteArray)) = some r := by rw [if_neg (show ¬ (false = true) by decide)] at H; exact H
       clear H
       have H := H1
       clear H1
       obtain rfl := Option.some.inj H
       go_enter Tryd.func25, Tryd.ntmps25
       go_wp2_with (first | ((with_reducible refine gate_dst (N := 3) rfl ?_); (try (refine gate_guard (by rfl) ?_; dsimp only)); refine box_event ?hg (N := 3) ?hd (cs := #[.int .i64 a1_0, .int .i64 a1_1, .int .i64 a1_2, .string a1_3]) (t := 42) ?hr ?_; (case hd => exact (by rfl)); (case hg => exact (by rfl)); (case hr => exact βAa); intro gb603 hg w18 hbox hb; have n0_ := zA_ (below_step (zh_ HB.out) hb); have n1_ := zA_ (hbox); have n2_ := zA_ ((by rw [hg]; exact (below_size (zh_ HB.out)) : w.heap.size ≤ gb603)); have n3_ := zA_ ((by rw [hg]; exact (below_size (zh_ HB.out)) : w.heap.size ≤ gb603)); clear HB; have HB := n0_; have BK603 := n1_; have GW603 := n2_; have GE603 := n3_; clear n0_ n1_ n2_ n3_; clear hb hbox hg) | ((with_reducible refine gate_callee (f := 27) rfl ?_); refine goesL_ (some 6) rfl rfl Tryd.func27 βDa rfl #[.slice A0 l0.length c0] rfl zs_ ?_; (with_reducible refine (spec_ImageRight.calls k _ _ l0 true _ ?side1 ?side2 A3.out).mono ?_); (case side1 => exact zc_ (Kd.C_below HR0.out HB.out)); (case side2 => exact HC0.out); rintro e w' ⟨rfl, ⟨nd, rfl⟩⟩; refine ⟨_, rfl, ?_⟩; have hcz19_0 := cz_ BK603.out 0 (.int .i64 a1_0) rfl; have hcz19_1 := cz_ BK603.out 1 (.int .i64 a1_1) rfl; have hcz19_2 := cz_ BK603.out 2 (.int .i64 a1_2) rfl; have hcz19_3 := cz_ BK603.out 3 (.string a1_3) rfl; have hfz19_0 := blk_frozen BK603.out 0; have hfz19_1 := blk_frozen BK603.out 1; have hfz19_2 := blk_frozen BK603.out 2; have hfz19_3 := blk_frozen BK603.out 3) | (go_at_call 52; (with_reducible refine (spec_StepRight.calls a1_0 a1_1 a1_2 a1_3 (l0.length : Int) false _ A8.out).mono ?_); rintro e w20 ⟨rfl, hb⟩; have n0_ := zA_ (blk_below (g := gb603) (o := .cells #[.int .i64 a1_0, .int .i64 a1_1, .int .i64 a1_2, .string a1_3] 42 (0, 0)) (zb_ BK603.out) hb); have n1_ := zA_ (below_step (zg1_ HB.out GE603.out) hb); clear BK603 HB; have BK603 := n0_; have HB := n1_; clear n0_ n1_; (try clear hb); (try clear hb2); (try clear hk); (try clear hi)))
       go_ret
       exact ⟨βsa, βU⟩
 · replace c4 := Bool.eq_false_iff.mpr c4
   subst c4
   have H1 : (some (⟨#[]⟩ : ByteArray)) = some r := by rw [if_neg (show ¬ (false = true) by decide)] at H; exact H
   clear H
   have H := H1
   clear H1
   obtain rfl := Option.some.inj H
   go_enter Tryd.func25, Tryd.ntmps25
   go_wp2_with (first | ((with_reducible refine gate_dst (N := 3) rfl ?_); (try (refine gate_guard (by rfl) ?_; dsimp only)); refine box_event ?hg (N := 3) ?hd (cs := #[.int .i64 a1_0, .int .i64 a1_1, .int .i64 a1_2, .string a1_3]) (t := 42) ?hr ?_; (case hd => exact (by rfl)); (case hg => exact (by rfl)); (case hr => exact βAa); intro gb603 hg w21 hbox hb; have n0_ := zA_ (below_step (zh_ HB.out) hb); have n1_ := zA_ (hbox); have n2_ := zA_ ((by rw [hg]; exact (below_size (zh_ HB.out)) : w.heap.size ≤ gb603)); have n3_ := zA_ ((by rw [hg]; exact (below_size (zh_ HB.out)) : w.heap.size ≤ gb603)); clear HB; have HB := n0_; have BK603 := n1_; have GW603 := n2_; have GE603 := n3_; clear n0_ n1_ n2_ n3_; clear hb hbox hg) | ((with_reducible refine gate_callee (f := 27) rfl ?_); refine goesL_ (some 6) rfl rfl Tryd.func27 βDa rfl #[.slice A0 l0.length c0] rfl zs_ ?_; (with_reducible refine (spec_ImageRight.calls k _ _ l0 false _ ?side1 ?side2 A3.out).mono ?_); (case side1 => exact zc_ (Kd.C_below HR0.out HB.out)); (case side2 => exact HC0.out); rintro e w' ⟨rfl, ⟨nd, rfl⟩⟩; refine ⟨_, rfl, ?_⟩))
   go_ret
   exact ⟨βsa, βU⟩
def impl_ImageRight.f (l0 : List ByteArray) : Option (Bool) := (impl_isImage.f l0).bind fun t608 => (some t608)
theorem impl_ImageRight.calls (A0 : Option Addr) (c0 : Nat) (l0 : List ByteArray) (r : Bool) (w : World) (hr0 : Kd.C Kd.string w A0 l0.length l0) (hc0 : l0.length ≤ c0) (h : impl_ImageRight.f l0 = some r) :
 Calls Tryd.prog 26 #[.slice A0 l0.length c0] w fun e w' => e = .returned (.bool r) ∧ Drawn0 w w' := by
 have HR0 := zA_ hr0
 have HC0 := zA_ hc0
 clear hr0 hc0
 have H : ((impl_isImage.f l0).bind fun t608 => (some t608)) = some r := h
 clear h
 replace H := Option.bind_eq_some_iff.mp H
 obtain ⟨t608, A20, H⟩ := H
 replace H : (some t608) = some r := H
 have A2 := zA_ A20
 clear A20
 obtain rfl := Option.some.inj H
 go_enter Tryd.func26, Tryd.ntmps26
 go_wp2_with (first | ((with_reducible refine gate_callee (f := 34) rfl ?_); refine goesL_ (some 4) rfl rfl Tryd.func34 βDa rfl #[.slice A0 l0.length c0] rfl zs_ ?_; (with_reducible refine (impl_isImage.calls _ _ l0 t608 _ ?side1 ?side2 A2.out).mono ?_); (case side1 => exact zc_ HR0.out); (case side2 => exact HC0.out); rintro e w' ⟨rfl, ⟨nd, rfl⟩⟩; refine ⟨_, rfl, ?_⟩))
 go_ret
 exact ⟨βya, βwa⟩
end Go.Proofs.YtldhjbjbjoomcaaDoor.Q
namespace Go.Proofs.YtldhjbjbjoomcaaDoor.Pure
set_option linter.unusedVariables false
set_option linter.unusedSimpArgs false
open Go Go.RowKit Go.Proofs.YtldhjbjbjoomcaaDoor.Q Go.Proofs.YtldhjbjbjoomcaaDoorW.PrintWords Go.Proofs.YtldhjbjbjoomcaaDoorW.PrintLast Go.Proofs.YtldhjbjbjoomcaaDoorW.PrintMore
def zero8 : ByteArray := (⟨#[0, 0, 0, 0, 0, 0, 0, 0]⟩ : ByteArray)
def makeM (k : Int) (d s : ByteArray) : ByteArray := if k = 1 then zero8 else if k = 2 then d else if k = 3 then s else xorM s d
theorem step_from {k b c : Int} {d : ByteArray} {n : Int} (h : stepM k b c d n = true) (hk : ¬ k = 5) (hn : 1 ≤ n) : (0 ≤ c ∧ c ≤ n - 1) ∧ (¬ k = 1 → ¬ k = 2 → ¬ k = 3 → d.size = 8) := by
  unfold stepM inr e8 at h
  by_cases k1 : k = 1
  · rw [if_pos k1] at h
    simp only [Bool.and_eq_true, decide_eq_true_eq, beq_iff_eq] at h
    exact ⟨by omega, fun x => absurd k1 x⟩
  · rw [if_neg k1] at h
    by_cases k2 : k = 2
    · rw [if_pos k2] at h
      simp only [Bool.and_eq_true, decide_eq_true_eq, beq_iff_eq] at h
      exact ⟨by omega, fun _ x => absurd k2 x⟩
    · rw [if_neg k2] at h
      by_cases k3 : k = 3
      · rw [if_pos k3] at h
        simp only [Bool.and_eq_true, decide_eq_true_eq] at h
        exact ⟨h.1.2, fun _ _ x => absurd k3 x⟩
      · rw [if_neg k3] at h
        by_cases k4 : k = 4
        · rw [if_pos k4] at h
          simp only [Bool.and_eq_true, decide_eq_true_eq, beq_iff_eq] at h
          exact ⟨h.1.2, fun _ _ _ => by omega⟩
        · rw [if_neg k4, if_neg hk] at h
          exact absurd h (by decide)
theorem implMake (k b c : Int) (d s : ByteArray) (hs : s.size = 8) (hd : ¬ k = 1 → ¬ k = 2 → ¬ k = 3 → d.size = 8) : impl_madeBy.f k b c d s = some (makeM k d s) := by
  unfold impl_madeBy.f makeM
  by_cases k1 : k = 1
  · rw [if_pos k1, if_pos k1]; rfl
  · rw [if_neg k1, if_neg k1]
    by_cases k2 : k = 2
    · rw [if_pos k2, if_pos k2]
    · rw [if_neg k2, if_neg k2]
      by_cases k3 : k = 3
      · rw [if_pos k3, if_pos k3]
      · rw [if_neg k3, if_neg k3, implXored s d hs (hd k1 k2 k3)]; rfl
theorem specMake (k b c : Int) (d s : ByteArray) (hs : s.size = 8) (hd : ¬ k = 1 → ¬ k = 2 → ¬ k = 3 → d.size = 8) (hz : spec_l07Zero.f = some zero8) : Ev (fun m => spec_l07Make.f m k b c d s) (makeM k d s) := by
  unfold spec_l07Make.f makeM
  by_cases k1 : k = 1
  · simp only [if_pos k1, hz, Option.bind_some]; exact Ev.now _
  · simp only [if_neg k1]
    by_cases k2 : k = 2
    · simp only [if_pos k2]; exact Ev.now _
    · simp only [if_neg k2]
      by_cases k3 : k = 3
      · simp only [if_pos k3]; exact Ev.now _
      · simp only [if_neg k3]
        have := specXored s d
        rw [if_pos ⟨hs, hd k1 k2 k3⟩] at this
        exact Ev.bind this (Ev.now _)
def madeM (l : List ByteArray) (k b c : Int) (d : ByteArray) : ByteArray :=
  if (imageM l = true ∧ stepM k b c d l.length = true) ∧ ¬ k = 5 then makeM k d (rdOf ByteArray.empty l c) else ⟨#[]⟩
theorem image_at {l : List ByteArray} {c : Int} (h : imageM l = true) (h0 : 0 ≤ c) (h1 : c < (l.length : Int)) : (rdOf ByteArray.empty l c).size = 8 := by
  unfold imageM at h
  simp only [Bool.and_eq_true, Bool.not_eq_true', List.any_eq_false, bne_iff_ne, ne_eq, Decidable.not_not] at h
  have hl : c.toNat < l.length := by omega
  have e : rdOf ByteArray.empty l c = l[c.toNat] := by simp [rdOf, hl]
  rw [e]
  have := h.2 l[c.toNat] (List.getElem_mem hl)
  omega
theorem image_len {l : List ByteArray} (h : imageM l = true) : 1 ≤ (l.length : Int) ∧ (l.length : Int) ≤ 8 := by
  unfold imageM at h
  rw [Bool.and_eq_true, decide_eq_true_iff] at h
  exact h.1
theorem implMade (l : List ByteArray) (k b c : Int) (d : ByteArray) (hl : l.length ≤ 9223372036854775807) : Ev (fun m => impl_MadeBy.f m l k b c d) (madeM l k b c d) := by
  unfold impl_MadeBy.f
  unfold impl_size_string.f
  rw [implImage l hl]
  simp only [Option.bind_some]
  unfold madeM
  by_cases hi : imageM l = true
  · have hn := image_len hi
    simp only [if_pos hi]
    refine Ev.bind (implStep k b c d l.length hn) ?_
    by_cases hs : stepM k b c d l.length = true
    · simp only [if_pos hs]
      by_cases k5 : k = 5
      · simp only [if_pos k5, if_neg (show ¬ ((imageM l = true ∧ stepM k b c d l.length = true) ∧ ¬ k = 5) from fun h => h.2 k5)]; exact Ev.now _
      · obtain ⟨⟨c0, c1⟩, hd⟩ := step_from hs k5 hn.1
        simp only [if_neg k5, if_pos (show (imageM l = true ∧ stepM k b c d l.length = true) ∧ ¬ k = 5 from ⟨⟨hi, hs⟩, k5⟩), if_pos c0, if_pos (show c < (l.length : Int) by omega)]
        rw [implMake k b c d _ (image_at hi c0 (by omega)) hd]
        simp only [Option.bind_some]
        exact Ev.now _
    · simp only [if_neg hs, if_neg (show ¬ ((imageM l = true ∧ stepM k b c d l.length = true) ∧ ¬ k = 5) from fun h => hs h.1.2)]; exact Ev.now _
  · simp only [if_neg hi, if_neg (show ¬ ((imageM l = true ∧ stepM k b c d l.length = true) ∧ ¬ k = 5) from fun h => hi h.1.1)]; exact Ev.now _
theorem specMade (l : List ByteArray) (k b c : Int) (d : ByteArray) (hz : spec_l07Zero.f = some zero8) : Ev (fun m => spec_MadeBy.f m l k b c d) (madeM l k b c d) := by
  unfold spec_MadeBy.f
  refine Ev.bind (specImage l) ?_
  unfold madeM
  by_cases hi : imageM l = true
  · have hn := image_len hi
    simp only [if_pos hi]
    by_cases k5 : k = 5
    · simp only [if_pos k5, if_neg (show ¬ ((imageM l = true ∧ stepM k b c d l.length = true) ∧ ¬ k = 5) from fun h => h.2 k5)]; exact Ev.now _
    · simp only [if_neg k5]
      rw [specStep k b c d l.length hn]
      simp only [Option.bind_some]
      by_cases hs : stepM k b c d l.length = true
      · obtain ⟨⟨c0, c1⟩, hd⟩ := step_from hs k5 hn.1
        simp only [if_pos hs, if_pos (show (imageM l = true ∧ stepM k b c d l.length = true) ∧ ¬ k = 5 from ⟨⟨hi, hs⟩, k5⟩), if_pos c0, if_pos (show c < (l.length : Int) by omega)]
        exact Ev.bind (specMake k b c d _ (image_at hi c0 (by omega)) hd hz) (Ev.now _)
      · simp only [if_neg hs, if_neg (show ¬ ((imageM l = true ∧ stepM k b c d l.length = true) ∧ ¬ k = 5) from fun h => hs h.1.2)]; exact Ev.now _
  · simp only [if_neg hi, if_neg (show ¬ ((imageM l = true ∧ stepM k b c d l.length = true) ∧ ¬ k = 5) from fun h => hi h.1.1)]; exact Ev.now _
end Go.Proofs.YtldhjbjbjoomcaaDoor.Pure
namespace Go.Proofs.YtldhjbjbjoomcaaDoor.Q
open Go.RowKit Go.Proofs.YtldhjbjbjoomcaaDoorW.PrintWords Go.Proofs.YtldhjbjbjoomcaaDoorW.PrintLast Go.Proofs.YtldhjbjbjoomcaaDoorW.PrintMore
attribute [local go_sem] max2_int min2_int max_two min_two max_three min_three max_four min_four Instr.field asAgg
set_option linter.unusedVariables false
set_option linter.unusedSimpArgs false
set_option maxHeartbeats 8000000
set_option maxRecDepth 100000
def slices_Clone_string_string.f (l0 : List ByteArray) : Option (List ByteArray) := if l0.length * 16 ≤ 140737488355328 then some l0 else none
theorem slices_Clone_string_string.some_ (ad : Addr) (c0 : Nat) (l0 : List ByteArray) (w : World) (hr0 : Kd.C Kd.string w (some ad) l0.length l0) (hc0 : l0.length ≤ c0) (hb : l0.length * 16 ≤ 140737488355328) :
 Calls Tryd.prog 68 #[.slice (some ad) l0.length c0] w fun e w' => ∃ v0_ : Value, e = .returned (v0_) ∧ Kd.R Kd.string 9 w' w.heap.size (fun _ => True) v0_ l0 ∧ Below w.heap.size w w' := by
 have HR0 := zA_ hr0
 have HC0 := zA_ hc0
 have HL := zA_ hb
 clear hr0 hc0 hb
 have HB := zA_ (Below.refl w.heap.size w)
 obtain ⟨y1, hy1⟩ : ∃ y_ : List ByteArray, y_ = ([] : List ByteArray) := ⟨_, rfl⟩
 have Ny1 := zA_ hy1
 clear hy1
 have hq : ∀ W : World, (binOp .eql 27 (.slice (some ad) l0.length c0) (.slice none 0 0)).run Tryd.prog W = .ok (.bool false) W := fun W => Lib.run_eql_slice_nil W _ _ (some ad) _ _ _ _ Tryd.underlying27
 go_enter Tryd.func68, Tryd.ntmps68
 go_wp2_with (first | ((with_reducible refine gate_dst (N := 5) rfl ?_); refine Kd.R_lit Kd.string _ 9 ?hg (N := 5) ?hd (xs := ([] : List ByteArray)) (inner := []) (ok := fun _ => True) (okp := fun _ => True) ?hr ?hp (fun _ hk => hk) trivial (Below.refl _ _) (Nat.le_refl _) (by simp) ?_; (case hd => exact (by rfl)); (case hg => exact (by rfl)); (case hr => exact βAa); (case hp => exact (Reps.none _ _)); intro v2 w2 ho3 hb hg_ hnew_; clear hg_ hnew_; (first | rw [← Ny1.out] at ho3 | (simp only [Int.reduceToNat] at ho3; rw [← Ny1.out] at ho3)); have n0_ := zA_ (Kd.R_lower ho3 (below_size (zh_ HB.out))); have n1_ := zA_ (below_step (zh_ HB.out) hb); clear HB; have HO3 := n0_; have HB := n1_; clear n0_ n1_; clear hb ho3) | ((with_reducible refine gate_builtin (b := .append) (xs := #[.tmp 5, .tmp 6]) rfl ?_); at_builtin; refine Kd.R_append_rows Kd.string (w0 := w) w.heap.size rfl (.tmp 5) (.tmp 6) 27 9 (.string ⟨#[]⟩) 16 rfl Tryd.underlying27 info9 rfl (by decide) (by omega) v2 y1 l0 _ _ _ (fun _ => True) (fun _ => False) rfl rfl ?aO ?aR (fun _ _ h => h) (fun _ h => h.elim) ?aF ?aB ?aS ?aL ?_; (case aR => exact βJ); (case aB => exact (zh_ HB.out)); (case aF => exact (fun _ _ => trivial)); (case aO => exact (zr_ HO3.out)); (case aS => exact (below_size (zh_ HB.out))); (case aL => exact (by have h1 := HL.out; have h2 := Ny1.out; subst h2; simpa using h1)); intro v4 w4 ho hb hg hat; have n0_ := zA_ (hb); have n1_ := zA_ (ho); clear HB HO3; have HB := n0_; have HO4 := n1_; clear n0_ n1_; clear ho hb hg hat))
 go_ret
 have e1 : y1 ++ l0 = l0 := by rw [Ny1.out, List.nil_append]
 rw [e1] at HO4
 exact ⟨_, rfl, HO4.out, HB.out⟩
theorem slices_Clone_string_string.calls (A0 : Option Addr) (c0 : Nat) (l0 : List ByteArray) (r : List ByteArray) (w : World) (hr0 : Kd.C Kd.string w A0 l0.length l0) (hc0 : l0.length ≤ c0) (h : slices_Clone_string_string.f l0 = some r) :
 Calls Tryd.prog 68 #[.slice A0 l0.length c0] w fun e w' => ∃ v0_ : Value, e = .returned (v0_) ∧ Kd.R Kd.string 9 w' w.heap.size (fun _ => True) v0_ r ∧ Below w.heap.size w w' := by
 unfold slices_Clone_string_string.f at h
 by_cases hb : l0.length * 16 ≤ 140737488355328
 · rw [if_pos hb] at h
   obtain rfl := Option.some.inj h
   cases A0 with
   | some ad => exact slices_Clone_string_string.some_ ad c0 l0 w hr0 hc0 hb
   | none =>
    have hl : l0.length = 0 := by
     rcases Nat.eq_zero_or_pos l0.length with h0 | h0
     · exact h0
     · obtain ⟨ad, _, e, _⟩ := Kd.C_get hr0 ByteArray.empty 0 (by omega) (by omega)
       cases e
    obtain rfl : l0 = [] := List.eq_nil_of_length_eq_zero hl
    clear hr0 h hb hl
    have hq : ∀ W : World, (binOp .eql 27 (.slice none 0 c0) (.slice none 0 0)).run Tryd.prog W = .ok (.bool true) W := fun W => Lib.run_eql_slice_nil W _ _ none _ _ _ _ Tryd.underlying27
    go_enter Tryd.func68, Tryd.ntmps68
    go_wp2
    all_goals (try go_ret)
    all_goals exact ⟨_, rfl, Kd.R_nil _ _ _ _ _, (by repeat (first | exact Below.refl _ _ | apply below_alloc | apply pw_below_drewN | apply below_drew1))⟩
 · rw [if_neg hb] at h; cases h
def slices_Clone_S42.f (l0 : List S42) : Option (List S42) := if l0.length * 40 ≤ 140737488355328 then some l0 else none
theorem slices_Clone_S42.some_ (ad : Addr) (c0 : Nat) (l0 : List S42) (w : World) (hr0 : Kd.C k42 w (some ad) l0.length l0) (hc0 : l0.length ≤ c0) (hb : l0.length * 40 ≤ 140737488355328) :
 Calls Tryd.prog 89 #[.slice (some ad) l0.length c0] w fun e w' => ∃ v0_ : Value, e = .returned (v0_) ∧ Kd.R k42 42 w' w.heap.size (fun _ => True) v0_ l0 ∧ Below w.heap.size w w' := by
 have HR0 := zA_ hr0
 have HC0 := zA_ hc0
 have HL := zA_ hb
 clear hr0 hc0 hb
 have HB := zA_ (Below.refl w.heap.size w)
 obtain ⟨y1, hy1⟩ : ∃ y_ : List S42, y_ = ([] : List S42) := ⟨_, rfl⟩
 have Ny1 := zA_ hy1
 clear hy1
 have hq : ∀ W : World, (binOp .eql 33 (.slice (some ad) l0.length c0) (.slice none 0 0)).run Tryd.prog W = .ok (.bool false) W := fun W => Lib.run_eql_slice_nil W _ _ (some ad) _ _ _ _ Tryd.underlying33
 go_enter Tryd.func89, Tryd.ntmps89
 go_wp2_with (first | ((with_reducible refine gate_dst (N := 5) rfl ?_); refine Kd.R_lit k42 _ 42 ?hg (N := 5) ?hd (xs := ([] : List S42)) (inner := []) (ok := fun _ => True) (okp := fun _ => True) ?hr ?hp (fun _ hk => hk) trivial (Below.refl _ _) (Nat.le_refl _) (by simp) ?_; (case hd => exact (by rfl)); (case hg => exact (by rfl)); (case hr => exact βAa); (case hp => exact (Reps.none _ _)); intro v2 w2 ho3 hb hg_ hnew_; clear hg_ hnew_; (first | rw [← Ny1.out] at ho3 | (simp only [Int.reduceToNat] at ho3; rw [← Ny1.out] at ho3)); have n0_ := zA_ (Kd.R_lower ho3 (below_size (zh_ HB.out))); have n1_ := zA_ (below_step (zh_ HB.out) hb); clear HB; have HO3 := n0_; have HB := n1_; clear n0_ n1_; clear hb ho3) | ((with_reducible refine gate_builtin (b := .append) (xs := #[.tmp 5, .tmp 6]) rfl ?_); at_builtin; refine Kd.R_append_rows k42 (w0 := w) w.heap.size rfl (.tmp 5) (.tmp 6) 33 42 (.agg #[(.int .i64 0), (.int .i64 0), (.int .i64 0), (.string ⟨#[]⟩)]) 40 rfl Tryd.underlying33 info42 rfl (by decide) (by omega) v2 y1 l0 _ _ _ (fun _ => True) (fun _ => False) rfl rfl ?aO ?aR (fun _ _ h => h) (fun _ h => h.elim) ?aF ?aB ?aS ?aL ?_; (case aR => exact βJ); (case aB => exact (zh_ HB.out)); (case aF => exact (fun _ _ => trivial)); (case aO => exact (zr_ HO3.out)); (case aS => exact (below_size (zh_ HB.out))); (case aL => exact (by have h1 := HL.out; have h2 := Ny1.out; subst h2; simpa using h1)); intro v4 w4 ho hb hg hat; have n0_ := zA_ (hb); have n1_ := zA_ (ho); clear HB HO3; have HB := n0_; have HO4 := n1_; clear n0_ n1_; clear ho hb hg hat))
 go_ret
 have e1 : y1 ++ l0 = l0 := by rw [Ny1.out, List.nil_append]
 rw [e1] at HO4
 exact ⟨_, rfl, HO4.out, HB.out⟩
theorem slices_Clone_S42.calls (A0 : Option Addr) (c0 : Nat) (l0 : List S42) (r : List S42) (w : World) (hr0 : Kd.C k42 w A0 l0.length l0) (hc0 : l0.length ≤ c0) (h : slices_Clone_S42.f l0 = some r) :
 Calls Tryd.prog 89 #[.slice A0 l0.length c0] w fun e w' => ∃ v0_ : Value, e = .returned (v0_) ∧ Kd.R k42 42 w' w.heap.size (fun _ => True) v0_ r ∧ Below w.heap.size w w' := by
 unfold slices_Clone_S42.f at h
 by_cases hb : l0.length * 40 ≤ 140737488355328
 · rw [if_pos hb] at h
   obtain rfl := Option.some.inj h
   cases A0 with
   | some ad => exact slices_Clone_S42.some_ ad c0 l0 w hr0 hc0 hb
   | none =>
    have hl : l0.length = 0 := by
     rcases Nat.eq_zero_or_pos l0.length with h0 | h0
     · exact h0
     · obtain ⟨ad, _, e, _⟩ := Kd.C_get hr0 z42 0 (by omega) (by omega)
       cases e
    obtain rfl : l0 = [] := List.eq_nil_of_length_eq_zero hl
    clear hr0 h hb hl
    have hq : ∀ W : World, (binOp .eql 33 (.slice none 0 c0) (.slice none 0 0)).run Tryd.prog W = .ok (.bool true) W := fun W => Lib.run_eql_slice_nil W _ _ none _ _ _ _ Tryd.underlying33
    go_enter Tryd.func89, Tryd.ntmps89
    go_wp2
    all_goals (try go_ret)
    all_goals exact ⟨_, rfl, Kd.R_nil _ _ _ _ _, (by repeat (first | exact Below.refl _ _ | apply below_alloc | apply pw_below_drewN | apply below_drew1))⟩
 · rw [if_neg hb] at h; cases h
theorem slices_DeleteFunc_42.cut {W : World} {base g n cap : Nat} {L : List S42} (h : Kd.R k42 42 W base (fun _ => True) (.slice (some ⟨g, 0, none⟩) n cap) L) (i : Nat) (hi : i ≤ n) (zs : List Value) (hz : zs.length = (n - i) * 4) :
 Kd.R k42 42 (W.setCells g (i * 4) zs) base (fun _ => True) (.slice (some ⟨g, 0, none⟩) i cap) (L.take i) := by
 have hn := (Kd.R_reads' h).1
 have h' := Kd.R_take h (m := i) (by omega)
 obtain ⟨hok, inner, ⟨ho1, ho2⟩, hr⟩ := h'
 obtain ⟨_, inn0, ⟨_, ho0⟩, _⟩ := h
 rcases ho0 with ⟨hv, _⟩ | ⟨g0, cap0, cur0, hv0, hb0, hh0, hnc0, hcm0, hcs0, ht0⟩
 · cases hv
 injection hv0 with ha0 _ hc0
 injection ha0 with ha0
 injection ha0 with hg0
 subst hg0; subst hc0
 rcases ho2 with ⟨hv, _⟩ | ⟨g', cap', cur, hv, hb, hh, hnc', hcm, hcs, ht⟩
 · cases hv
 injection hv with ha _ hc
 injection ha with ha
 injection ha with hg
 subst hg; subst hc
 have hl : (L.take i).length = i := by rw [List.length_take]; omega
 rw [hl, show (k42).sz = 4 from rfl] at ht
 have e : cur0 = cur := by rw [hh0] at hh; injection hh with hh; injection hh
 subst e
 have hfit : i * 4 + zs.length ≤ cur0.size := by
  have h1 : L.length * 4 ≤ cap * 4 := Nat.mul_le_mul_right _ hnc0
  have h2 : cur0.size = cap * 4 := hcs0
  rw [hz, h2]; omega
 obtain ⟨cur', h3, h4, h5⟩ := setCells_row zs (i * 4) W cur0 hh hfit
 refine ⟨hok, inner, ⟨ho1, .inr ⟨g, cap, cur', (by rw [hl]), hb, h3, hnc', hcm, (by rw [h4]; exact hcs), ?_⟩⟩, ?_⟩
 · rw [hl, show (k42).sz = 4 from rfl, ← ht, h5, List.append_assoc, List.take_append_of_le_length (by rw [List.length_take, Array.length_toList]; omega), List.take_take, Nat.min_self]
 · refine Reps.imp_ hr (fun p c hp => ?_)
   obtain rfl := k42_openM hp
   exact k42_mkM _ _ _ p
theorem slices_DeleteFunc_42.below {base g : Nat} {w0 W : World} (h : Below base w0 W) (hg : base ≤ g) (o : Nat) (zs : List Value) : Below base w0 (W.setCells g o zs) := by
 obtain ⟨s1, s2, s3, s4⟩ := setCells_same g zs o W
 exact ⟨s1.trans h.os, s2.trans h.tape, s3.trans h.output, (by rw [s4]; exact h.size), fun k hk => (setCells_far zs o k (by omega)).trans (h.block k hk)⟩
theorem slices_DeleteFunc_42.zeros (W : World) (ty : TypeId) (g o m c : Nat) (hm : 0 < m) (hc : ∀ j, j < m * 4 → (W.cell? ⟨g, o + j, none⟩).isSome = true) (hf : ∀ j, j < m * 4 → W.frozen? ⟨g, o + j, none⟩ = false) :
 (Builtin.clear_ #[33] ty #[.slice (some ⟨g, o, none⟩) m c]).run Tryd.prog W = .ok (.tuple #[]) (W.setCells g o (Builtin.zeroCells #[.int .i64 0, .int .i64 0, .int .i64 0, .string ⟨#[]⟩] m).toList) := by
 have hzl : (Builtin.zeroCells #[.int .i64 0, .int .i64 0, .int .i64 0, .string ⟨#[]⟩] m).toList.length = m * 4 := by simp [Builtin.zeroCells]
 have hst := run_storeCells_cells (P := Tryd.prog) g o (Builtin.zeroCells #[.int .i64 0, .int .i64 0, .int .i64 0, .string ⟨#[]⟩] m).toList 0 W (by rw [hzl]; simpa using hc) (by rw [hzl]; simpa using hf) (by
  intro v hv
  simp only [Builtin.zeroCells, Array.toList_map, List.mem_map] at hv
  obtain ⟨j, _, rfl⟩ := hv
  have hj : j % (#[.int .i64 0, .int .i64 0, .int .i64 0, .string ⟨#[]⟩] : Array Value).size < 4 := Nat.mod_lt _ (by decide)
  generalize j % (#[.int .i64 0, .int .i64 0, .int .i64 0, .string ⟨#[]⟩] : Array Value).size = q at hj
  have : q = 0 ∨ q = 1 ∨ q = 2 ∨ q = 3 := by omega
  rcases this with rfl | rfl | rfl | rfl <;> rfl)
 simp only [Nat.add_zero] at hst
 obtain ⟨m, rfl⟩ : ∃ q, m = q + 1 := ⟨m - 1, (by omega)⟩
 have hv := Tryd.zeroValue42
 simp [Builtin.clear_, run_underlying Tryd.underlying33, hv, Value.cells, hst]
theorem idxFrom_spec_42 (p : S42 → Bool) : ∀ (l : List S42) (i : Nat), (idxFrom p l i = -1 ∧ ∀ x ∈ l, p x = false) ∨ ∃ k, ∃ hk : k < l.length, idxFrom p l i = ((i + k : Nat) : Int) ∧ p l[k] = true ∧ ∀ x ∈ l.take k, p x = false := by
 intro l
 induction l with
 | nil => intro i; exact .inl ⟨rfl, fun x hx => by cases hx⟩
 | cons a r ih =>
  intro i
  rw [idxFrom]
  by_cases h : p a = true
  · rw [if_pos h]; exact .inr ⟨0, (by simp), (by simp), h, fun x hx => by simp at hx⟩
  · rw [if_neg h]
    have h' : p a = false := by simpa using h
    have e : ((i : Int) + 1) = ((i + 1 : Nat) : Int) := by omega
    rw [e]
    rcases ih (i + 1) with ⟨e1, ha⟩ | ⟨k, hk, e1, ht, ha⟩
    · exact .inl ⟨e1, fun x hx => by rcases List.mem_cons.1 hx with rfl | hx; exact h'; exact ha x hx⟩
    · refine .inr ⟨k + 1, (by simpa using hk), (by rw [e1]; omega), (by simpa using ht), fun x hx => ?_⟩
      rw [List.take_succ_cons] at hx
      rcases List.mem_cons.1 hx with rfl | hx
      · exact h'
      · exact ha x hx
def slices_DeleteFunc_42.DI (p : S42 → Bool) (l0 : List S42) (i j : Nat) (L : List S42) : Prop := L.length = l0.length ∧ L.drop j = l0.drop j ∧ L.take i = (l0.take j).filter (fun x => !p x)
theorem slices_DeleteFunc_42.DI.start {p : S42 → Bool} {l0 : List S42} {k : Nat} (hk : k < l0.length) (ht : p l0[k] = true) (ha : ∀ x ∈ l0.take k, p x = false) : slices_DeleteFunc_42.DI p l0 k (k + 1) l0 := by
 refine ⟨rfl, rfl, ?_⟩
 rw [List.take_succ_eq_append_getElem hk, List.filter_append, List.filter_eq_self.2 (fun x hx => by rw [ha x hx]; rfl)]
 simp [ht]
theorem slices_DeleteFunc_42.DI.at_ {p : S42 → Bool} {l0 L : List S42} {i j : Nat} (h : slices_DeleteFunc_42.DI p l0 i j L) (hj : j < l0.length) : rd_T42 L (j : Int) = l0[j] := by
 have h1 := congrArg (fun l => l[0]?) h.2.1
 have hl := h.1
 simp only [List.getElem?_drop, Nat.add_zero] at h1
 unfold rd_T42
 rw [Int.toNat_natCast, List.getD_eq_getElem?_getD, h1, List.getElem?_eq_getElem hj]
 rfl
theorem slices_DeleteFunc_42.DI.skip {p : S42 → Bool} {l0 L : List S42} {i j : Nat} (h : slices_DeleteFunc_42.DI p l0 i j L) (hj : j < l0.length) (ht : p l0[j] = true) : slices_DeleteFunc_42.DI p l0 i (j + 1) L := by
 obtain ⟨h1, h2, h3⟩ := h
 refine ⟨h1, ?_, ?_⟩
 · rw [← List.drop_drop, h2, List.drop_drop]
 · rw [List.take_succ_eq_append_getElem hj, List.filter_append, h3]; simp [ht]
theorem slices_DeleteFunc_42.DI.keep {p : S42 → Bool} {l0 L : List S42} {i j : Nat} (h : slices_DeleteFunc_42.DI p l0 i j L) (hij : i < j) (hj : j < l0.length) (ht : p l0[j] = false) : slices_DeleteFunc_42.DI p l0 (i + 1) (j + 1) (L.set i l0[j]) := by
 obtain ⟨h1, h2, h3⟩ := h
 refine ⟨(by rw [List.length_set, h1]), ?_, ?_⟩
 · rw [List.drop_set_of_lt (by omega), ← List.drop_drop, h2, List.drop_drop]
 · rw [List.take_succ_eq_append_getElem hj, List.filter_append, ← h3, List.take_succ_eq_append_getElem (by rw [List.length_set]; omega), List.take_set_of_le (Nat.le_refl _)]
   simp [ht]
theorem slices_DeleteFunc_42.DI.done {p : S42 → Bool} {l0 L : List S42} {i : Nat} (h : slices_DeleteFunc_42.DI p l0 i l0.length L) : L.take i = l0.filter (fun x => !p x) := by
 have := h.2.2
 rwa [List.take_length] at this
theorem slices_DeleteFunc_42.calls (p : S42 → Bool) (g : Nat) (eg : ∀ args w, (callFunc g args).run Tryd.prog w = .ok (.enter g args) w)
 (hp : ∀ (W : World) (x : S42), Calls Tryd.prog g #[.agg #[.int .i64 x.f0, .int .i64 x.f1, .int .i64 x.f2, .string x.f3]] W fun e w' => e = .returned (.bool (p x)) ∧ Below W.heap.size W w')
 (base : Nat) (w0 : World) (v : Value) (l0 : List S42) (w : World) (hR : Kd.R k42 42 w base (fun _ => True) v l0) (hB : Below base w0 w) (hbase : base ≤ w.heap.size) (hbig : l0.length ≤ 9223372036854775807) :
 Calls Tryd.prog 88 #[v, .func (.func g) #[] #[]] w fun e w' => ∃ v0_ : Value, e = .returned v0_ ∧ Kd.R k42 42 w' base (fun _ => True) v0_ (l0.filter (fun x => !p x)) ∧ Below base w0 w' := by
 obtain ⟨Ad, c, rfl, hc, hC⟩ := Kd.R_reads hR
 have hIF := slices_IndexFunc_42.calls (fun W' => Below w.heap.size w W') p g #[] eg Ad c l0 w hC hc hbig (Below.refl _ _) (fun _ h => h) (fun W hW x hx => (hp W x).mono (fun e w' ⟨he, hb⟩ => ⟨he, below_step hW hb⟩))
 rcases idxFrom_spec_42 p l0 0 with ⟨e1, hall⟩ | ⟨k0, hk0, e1, ht, hall⟩
 · rw [show idxFrom p l0 0 = -1 from e1] at hIF
   have hf : l0.filter (fun x => !p x) = l0 := List.filter_eq_self.2 (fun x hx => by rw [hall x hx]; rfl)
   rw [hf]
   have HR := zA_ hR
   have HB := zA_ hB
   have HBASE := zA_ hbase
   clear hR hB hC hp hall hbase e1 hf
   go_enter Tryd.func88, Tryd.ntmps88
   go_wp2_with (go_at_call 86; refine hIF.mono ?_; rintro e w' ⟨rfl, hb'⟩)
   go_ret
   exact ⟨_, rfl, Kd.R_below HR.out hb', below_then HB.out HBASE.out hb'⟩
 · rw [show idxFrom p l0 0 = (k0 : Int) by rw [← Int.natCast_zero, e1]; omega] at hIF
   have hne1 : ((k0 : Int) == -1) = false := beq_eq_false_iff_ne.2 (by omega)
   obtain ⟨gb, cp, ef, hge, hglt, cells, hcells⟩ := Kd.R_form hR (by omega)
   cases ef
   have HD0 := zA_ (slices_DeleteFunc_42.DI.start hk0 ht hall)
   have HR := zA_ hR
   have HB := zA_ hB
   have HC := zA_ hc
   have HBASE := zA_ hbase
   have HBIG := zA_ hbig
   have HGE := zA_ hge
   have HK0 := zA_ hk0
   have HP := zA_ hp
   clear hR hB hC hp hall hbase e1 ht hcells hglt hge hbig hc hk0
   go_enter Tryd.func88, Tryd.ntmps88
   go_wp2_with (go_at_call 86; refine hIF.mono ?_; rintro e w1 ⟨rfl, hb1⟩; have HR1 := zA_ (Kd.R_below HR.out hb1); have HB1 := zA_ (below_then HB.out HBASE.out hb1); have HBASE1 := zA_ (Nat.le_trans HBASE.out hb1.size); clear hIF HR HB HBASE hb1)
   go_loopg [5, 6, 7] l0.length (fun gg s5 s6 _ wr => ∃ (i j : Nat) (L : List S42), s5 = .int .i64 i ∧ s6 = .int .i64 j ∧ Aside0 (j ≤ l0.length ∧ l0.length - j ≤ gg ∧ i < j ∧ base ≤ wr.heap.size) ∧ Aside0 (slices_DeleteFunc_42.DI p l0 i j L) ∧ Aside0 (Kd.R k42 42 wr base (fun _ => True) (.slice (some ⟨gb, 0, none⟩) l0.length c) L) ∧ Aside0 (Below base w0 wr))
   case atStart => exact ⟨k0, k0 + 1, l0, rfl, (by have h1 := HK0.out; have h2 := HBIG.out; rw [show wrap64 ((k0 : Int) + 1) = ((k0 + 1 : Nat) : Int) from by unfold wrap64; omega]), ⟨(by have := HK0.out; have := HBASE1.out; omega)⟩, HD0, HR1, HB1⟩
   case round =>
    clear HR1 HB1 HBASE1 HD0 HK0
    obtain ⟨i, j, L, rfl, rfl, HN, HD, HR, HB⟩ := hrel
    by_cases hlt : j < l0.length
    · have hltz : decide ((j : Int) < (l0.length : Int)) = true := decide_eq_true (by omega)
      have pj : (0 : Int) ≤ (j : Int) := by omega
      have qj : (j : Int) < (l0.length : Int) := by omega
      obtain ⟨ce, hcl, hM, hcc, hfr⟩ := Kd.R_elem HR.out z42 (j : Int) pj qj
      obtain rfl := k42_openM hM
      have hy : L.getD (j : Int).toNat z42 = l0[j] := HD.out.at_ hlt
      rw [hy] at hcc
      have hx0 : wr.cell? ⟨gb, (j : Int).toNat * 4, none⟩ = some (.int .i64 (l0[j]).f0) := hcc 0 _ rfl; simp only [Int.toNat_natCast] at hx0
      have hx1 : wr.cell? ⟨gb, (j : Int).toNat * 4 + 1, none⟩ = some (.int .i64 (l0[j]).f1) := hcc 1 _ rfl; simp only [Int.toNat_natCast] at hx1
      have hx2 : wr.cell? ⟨gb, (j : Int).toNat * 4 + 2, none⟩ = some (.int .i64 (l0[j]).f2) := hcc 2 _ rfl; simp only [Int.toNat_natCast] at hx2
      have hx3 : wr.cell? ⟨gb, (j : Int).toNat * 4 + 3, none⟩ = some (.string (l0[j]).f3) := hcc 3 _ rfl; simp only [Int.toNat_natCast] at hx3
      clear hcc hfr hcl hM hy
      have hyv : ∃ y, y = l0[j] := ⟨_, rfl⟩
      obtain ⟨y, hyv⟩ := hyv
      rw [← hyv] at hx0 hx1 hx2 hx3
      have HY := zA_ hyv
      clear hyv
      have hcall := HP.out (wr.alloc (.cells #[.int .i64 y.f0, .int .i64 y.f1, .int .i64 y.f2, .string y.f3] 42)) y
      have HW := zA_ (blk_new wr (.cells #[.int .i64 y.f0, .int .i64 y.f1, .int .i64 y.f2, .string y.f3] 42))
      have HRA := zA_ (Kd.R_alloc HR.out (.cells #[.int .i64 y.f0, .int .i64 y.f1, .int .i64 y.f2, .string y.f3] 42))
      have HBA := zA_ (HB.out.alloc HN.out.2.2.2 (.cells #[.int .i64 y.f0, .int .i64 y.f1, .int .i64 y.f2, .string y.f3] 42))
      have ej : wrap64 ((j : Int) + 1) = ((j + 1 : Nat) : Int) := by have := HBIG.out; unfold wrap64; omega
      cases hq : p y with
      | true =>
       rw [hq] at hcall
       go_wp2_with (go_at_fn g; refine hcall.mono ?_; rintro e w2 ⟨rfl, hb2⟩)
       go_roundg (l0.length - (j + 1))
       case measure => have := HN.out; omega
       case rel => exact ⟨i, j + 1, L, rfl, (by rw [ej]), ⟨(by have := HN.out; have h1 := hb2.size; simp at h1; omega)⟩, ⟨HD.out.skip hlt (by rw [← HY.out]; exact hq)⟩, ⟨Kd.R_below HRA.out hb2⟩, ⟨below_then HBA.out (by have := HN.out; simp; omega) hb2⟩⟩
      | false =>
       rw [hq] at hcall
       go_wp2
       refine hcall.mono ?_; rintro e w2 ⟨rfl, hb2⟩; have HR2 := zA_ (Kd.R_below HRA.out hb2); have HB2 := zA_ (below_then HBA.out (show base ≤ _ by have := HN.out; simp; omega) hb2); have hblk := blk_below HW.out hb2; have HSZ := zA_ hb2.size; clear hb2 hcall; have hn0 : w2.cell? ⟨wr.heap.size, 0, none⟩ = some (.int .i64 y.f0) := (blk_cell hblk 0).trans rfl; have hn1 : w2.cell? ⟨wr.heap.size, 1, none⟩ = some (.int .i64 y.f1) := (blk_cell hblk 1).trans rfl; have hn2 : w2.cell? ⟨wr.heap.size, 2, none⟩ = some (.int .i64 y.f2) := (blk_cell hblk 2).trans rfl; have hn3 : w2.cell? ⟨wr.heap.size, 3, none⟩ = some (.string y.f3) := (blk_cell hblk 3).trans rfl; clear hblk; obtain ⟨ci, hcl, hM, hcc, hfr⟩ := Kd.R_elem HR2.out z42 (i : Int) (by omega) (show (i : Int) < (l0.length : Int) by have := HN.out; omega); obtain rfl := k42_openM hM; have hi0 : w2.cell? ⟨gb, (i : Int).toNat * 4, none⟩ = some _ := hcc 0 _ rfl; simp only [Int.toNat_natCast] at hi0; have hf0 : w2.frozen? ⟨gb, (i : Int).toNat * 4, none⟩ = false := hfr 0; simp only [Int.toNat_natCast] at hf0; have hi1 : w2.cell? ⟨gb, (i : Int).toNat * 4 + 1, none⟩ = some _ := hcc 1 _ rfl; simp only [Int.toNat_natCast] at hi1; have hf1 : w2.frozen? ⟨gb, (i : Int).toNat * 4 + 1, none⟩ = false := hfr 1; simp only [Int.toNat_natCast] at hf1; have hi2 : w2.cell? ⟨gb, (i : Int).toNat * 4 + 2, none⟩ = some _ := hcc 2 _ rfl; simp only [Int.toNat_natCast] at hi2; have hf2 : w2.frozen? ⟨gb, (i : Int).toNat * 4 + 2, none⟩ = false := hfr 2; simp only [Int.toNat_natCast] at hf2; have hi3 : w2.cell? ⟨gb, (i : Int).toNat * 4 + 3, none⟩ = some _ := hcc 3 _ rfl; simp only [Int.toNat_natCast] at hi3; have hf3 : w2.frozen? ⟨gb, (i : Int).toNat * 4 + 3, none⟩ = false := hfr 3; simp only [Int.toNat_natCast] at hf3; have HP2 := zA_ (Kd.R_seg HR2.out (i : Int) (by omega) (show (i : Int) < (l0.length : Int) by have := HN.out; omega) (seg := [.int .i64 y.f0, .int .i64 y.f1, .int .i64 y.f2, .string y.f3]) (j := 0) hcl hcc (show 4 ≤ 4 from by decide) (x' := y) (k42_mkM _ _ _ y) (fun _ hk => hk)); clear hcc hfr hcl hM; have pi : (0 : Int) ≤ (i : Int) := (by omega); have qi : (i : Int) < (l0.length : Int) := (by have := HN.out; omega)
       go_wp2
       go_roundg (l0.length - (j + 1))
       case measure => have := HN.out; omega
       case rel =>
        have ei : wrap64 ((i : Int) + 1) = ((i + 1 : Nat) : Int) := by have := HBIG.out; have := HN.out; unfold wrap64; omega
        have hk := HD.out.keep HN.out.2.2.1 hlt (by rw [← HY.out]; exact hq)
        rw [← HY.out] at hk
        have hb3 := slices_DeleteFunc_42.below HB2.out HGE.out (i * 4) [.int .i64 y.f0, .int .i64 y.f1, .int .i64 y.f2, .string y.f3]
        have hs3 := (setCells_same gb [.int .i64 y.f0, .int .i64 y.f1, .int .i64 y.f2, .string y.f3] (i * 4) w2).2.2.2
        refine ⟨i + 1, j + 1, L.set i y, (by rw [ei]), (by rw [ej]), ⟨?_⟩, ⟨hk⟩, ⟨HP2.out.1⟩, ⟨hb3⟩⟩
        have h1 := HN.out
        have h2 := HSZ.out
        simp at h2
        refine ⟨(by omega), (by omega), (by omega), ?_⟩
        exact Nat.le_trans (Nat.le_trans h1.2.2.2 (by omega : wr.heap.size ≤ w2.heap.size)) (Nat.le_of_eq hs3.symm)
    · obtain rfl : j = l0.length := by have := HN.out; omega
      have hltz : decide ((l0.length : Int) < (l0.length : Int)) = false := decide_eq_false (by omega)
      have hin : i < l0.length := HN.out.2.2.1
      have pi : (0 : Int) ≤ (i : Int) := by omega
      have qi : (i : Int) ≤ (l0.length : Int) := by omega
      have hcl : ∀ ty, (Builtin.clear_ #[33] ty #[.slice (some ⟨gb, i * 4, none⟩) (l0.length - i) (c - i)]).run Tryd.prog wr = .ok (.tuple #[]) (wr.setCells gb (i * 4) (Builtin.zeroCells #[.int .i64 0, .int .i64 0, .int .i64 0, .string ⟨#[]⟩] (l0.length - i)).toList) := by
       intro ty
       obtain ⟨_, inn0, ⟨hl0, ho0⟩, hr0⟩ := HR.out
       rcases ho0 with ⟨hv, _⟩ | ⟨g0, cap0, cur0, hv0, hb0, hh0, hnc0, hcm0, hcs0, ht0⟩
       · cases hv
       injection hv0 with ha0 _ hc0
       injection ha0 with ha0
       injection ha0 with hg0
       subst hg0; subst hc0
       have hz0 : cur0.size = c * 4 := hcs0
       refine slices_DeleteFunc_42.zeros wr ty gb _ _ _ (by omega) (fun q hq => ?_) (fun q _ => by simp [World.frozen?, hh0])
       have hq2 : i * 4 + q < cur0.size := by have := HC.out; omega
       rw [cell_of_row wr gb _ cur0 _ _ hh0, Array.getElem?_eq_getElem hq2]
       rfl
      have hzl : (Builtin.zeroCells #[.int .i64 0, .int .i64 0, .int .i64 0, .string ⟨#[]⟩] (l0.length - i)).toList.length = (l0.length - i) * 4 := by simp [Builtin.zeroCells]
      have HRE := zA_ (slices_DeleteFunc_42.cut HR.out i (by omega) _ hzl)
      have HBE := zA_ (slices_DeleteFunc_42.below HB.out HGE.out (i * 4) (Builtin.zeroCells #[.int .i64 0, .int .i64 0, .int .i64 0, .string ⟨#[]⟩] (l0.length - i)).toList)
      clear hzl
      have hci : ¬ c = i := by have := HC.out; omega
      have hic : i ≤ c := by have := HC.out; omega
      have hc0 : ¬ c = 0 := by have := HC.out; omega
      go_wp2
      go_ret
      exact ⟨_, rfl, (by rw [← HD.out.done]; exact HRE.out), HBE.out⟩
def impl_writes.f (l0 : List S42) : Option (List S42) := if l0.length * 40 ≤ 140737488355328 then some (l0.filter (fun x => !(x.f0 == 5))) else none
theorem impl_writes.pred (W : World) (x : S42) :
 Calls Tryd.prog 90 #[.agg #[.int .i64 x.f0, .int .i64 x.f1, .int .i64 x.f2, .string x.f3]] W fun e w' => e = .returned (.bool (x.f0 == 5)) ∧ Below W.heap.size W w' := by
 go_enter Tryd.func90, Tryd.ntmps90
 go_wp2
 all_goals (go_ret; exact ⟨rfl, βqa⟩)
theorem impl_writes.calls (A0 : Option Addr) (c0 : Nat) (l0 : List S42) (r : List S42) (w : World) (hr0 : Kd.C k42 w A0 l0.length l0) (hc0 : l0.length ≤ c0) (h : impl_writes.f l0 = some r) :
 Calls Tryd.prog 69 #[.slice A0 l0.length c0] w fun e w' => ∃ v0_ : Value, e = .returned (v0_) ∧ Kd.R k42 42 w' w.heap.size (fun _ => True) v0_ r ∧ Below w.heap.size w w' := by
 unfold impl_writes.f at h
 by_cases hb : l0.length * 40 ≤ 140737488355328
 · rw [if_pos hb] at h
   obtain rfl := Option.some.inj h
   have eg : ∀ args w, (callFunc 90 args).run Tryd.prog w = .ok (.enter 90 args) w := enters_of Tryd.func90 βDa rfl
   have HR0 := zA_ hr0
   have HC0 := zA_ hc0
   have HF := zA_ (show slices_Clone_S42.f l0 = some l0 by unfold slices_Clone_S42.f; rw [if_pos hb])
   have HBIG := zA_ (show l0.length ≤ 9223372036854775807 by omega)
   have HB := zA_ (Below.refl w.heap.size w)
   clear hr0 hc0 h hb
   have hdel := fun (v : Value) (W : World) (hR : Kd.R k42 42 W w.heap.size (fun _ => True) v l0) (hB : Below w.heap.size w W) => slices_DeleteFunc_42.calls (fun x => x.f0 == 5) 90 eg impl_writes.pred w.heap.size w v l0 W hR hB hB.size HBIG.out
   generalize l0.filter (fun x => !(x.f0 == 5)) = r at hdel
   go_enter Tryd.func69, Tryd.ntmps69
   go_wp2_with (first
    | (go_at_call 89; refine (slices_Clone_S42.calls A0 c0 l0 l0 _ βga HC0.out HF.out).mono ?_; rintro e w1 ⟨v1, rfl, hR1, hB1⟩; have HR1 := zA_ hR1; have HB1 := zA_ hB1; clear hR1 hB1)
    | (go_at_call 88; refine (hdel _ _ (by exact HR1.out) (by exact HB1.out)).mono ?_; rintro e w2 ⟨v2, rfl, hR2, hB2⟩; have HR2 := zA_ hR2; have HB2 := zA_ hB2; clear hR2 hB2))
   go_ret
   exact ⟨_, rfl, HR2.out, HB2.out⟩
 · rw [if_neg hb] at h; cases h
end Go.Proofs.YtldhjbjbjoomcaaDoor.Q
namespace Go.Proofs.YtldhjbjbjoomcaaDoor.Pure
set_option linter.unusedVariables false
set_option linter.unusedSimpArgs false
open Go Go.RowKit Go.Proofs.YtldhjbjbjoomcaaDoor.Q Go.Proofs.YtldhjbjbjoomcaaDoorW.PrintWords Go.Proofs.YtldhjbjbjoomcaaDoorW.PrintLast Go.Proofs.YtldhjbjbjoomcaaDoorW.PrintMore
def onlyW (l : List Stp) : List Stp := l.filter (fun x => !(x.f0 == 5))
theorem onlyW_length (l : List Stp) : (onlyW l).length ≤ l.length := List.length_filter_le _ _
theorem implOnlyW (l : List Stp) (h : l.length * 40 ≤ 140737488355328) : impl_writes.f l = some (onlyW l) := by
  unfold impl_writes.f; rw [if_pos h]; rfl
end Go.Proofs.YtldhjbjbjoomcaaDoor.Pure
namespace Go.Proofs.YtldhjbjbjoomcaaDoor.Q
open Go.RowKit Go.Proofs.YtldhjbjbjoomcaaDoorW.PrintWords Go.Proofs.YtldhjbjbjoomcaaDoorW.PrintLast Go.Proofs.YtldhjbjbjoomcaaDoorW.PrintMore
attribute [local go_sem] max2_int min2_int max_two min_two max_three min_three max_four min_four Instr.field asAgg
set_option linter.unusedVariables false
set_option linter.unusedSimpArgs false
set_option maxHeartbeats 8000000
set_option maxRecDepth 100000
def impl_imageApply.l0 : Nat → List ByteArray → List ByteArray → List (S42) → Int → Int → Option (List ByteArray)
 | 0, _, _, _, _, _ => none
 | k + 1, x0, x5, x11, x12, x13 => if x13 < x12 then (if 0 ≤ x13 then (if x13 < (x11.length : Int) then (if 0 ≤ ((rd_T42 x11 x13).f2) then (if ((rd_T42 x11 x13).f2) < (x0.length : Int) then ((impl_madeBy.f ((rd_T42 x11 x13).f0) ((rd_T42 x11 x13).f1) ((rd_T42 x11 x13).f2) ((rd_T42 x11 x13).f3) (rdOf ByteArray.empty x0 ((rd_T42 x11 x13).f2))).bind fun t474 => (if 0 ≤ ((rd_T42 x11 x13).f1) then (if ((rd_T42 x11 x13).f1) < (x5.length : Int) then (impl_imageApply.l0 k x0 (x5.set (((rd_T42 x11 x13).f1) : Int).toNat t474) x11 x12 (wrap64 (x13 + 1))) else (none)) else (none))) else (none)) else (none)) else (none)) else (none)) else (some x5)
def impl_imageApply.f (k : Nat) (l0 : List ByteArray) (l1 : List (S42)) : Option (List ByteArray) := (slices_Clone_string_string.f l0).bind fun t465 => ((impl_writes.f l1).bind fun t468 => (impl_imageApply.l0 k l0 t465 t468 (t468.length : Int) 0))
def impl_imageApply.T5 : Bool × List (List Nat × List Nat) := (true, [([], []), ([], []), ([1], [1]), ([], []), ([], []), ([], []), ([5], [5]), ([4, 6], [4, 6]), ([7], [7]), ([3, 8], [3, 8]), ([0, 2, 0, 1, 2, 3, 4, 5, 6, 7, 8, 9], [0, 2]), ([10, 9, 9, 0, 1, 2, 3, 4, 5, 6, 7, 8, 9], [9, 10])])
def impl_imageApply.B5 : List Nat := [0, 0, 2, 0, 0, 0, 32, 112, 240, 504, 1023, 2047]
theorem impl_imageApply.tab5 : rtab .any (opsOf Tryd.f40 5) = impl_imageApply.T5 := by kernel_rfl
theorem impl_imageApply.bits5 : waitsOk impl_imageApply.T5.2 impl_imageApply.B5 = true := by kernel_rfl
theorem impl_imageApply.calls (k : Nat) (A0 : Option Addr) (c0 : Nat) (l0 : List ByteArray) (A1 : Option Addr) (c1 : Nat) (l1 : List (S42)) (r : List ByteArray) (w : World) (hr0 : Kd.C Kd.string w A0 l0.length l0) (hc0 : l0.length ≤ c0) (hr1 : Kd.C k42 w A1 l1.length l1) (hc1 : l1.length ≤ c1) (h : impl_imageApply.f k l0 l1 = some r) :
 Calls Tryd.prog 40 #[.slice A0 l0.length c0, .slice A1 l1.length c1] w fun e w' => ∃ v0_ : Value, e = .returned (v0_) ∧ Kd.R Kd.string 9 w' w.heap.size (fun _ => True) v0_ r ∧ Below w.heap.size w w' := by
 have hu42 := Tryd.underlying42
 have HR0 := zA_ hr0
 have HC0 := zA_ hc0
 clear hr0 hc0
 have HR1 := zA_ hr1
 have HC1 := zA_ hc1
 clear hr1 hc1
 have HB := zA_ (Below.refl w.heap.size w)
 have H : ((slices_Clone_string_string.f l0).bind fun t465 => ((impl_writes.f l1).bind fun t468 => (impl_imageApply.l0 k l0 t465 t468 (t468.length : Int) 0))) = some r := h
 clear h
 replace H := Option.bind_eq_some_iff.mp H
 obtain ⟨t465, A30, H⟩ := H
 replace H : ((impl_writes.f l1).bind fun t468 => (impl_imageApply.l0 k l0 t465 t468 (t468.length : Int) 0)) = some r := H
 have A3 := zA_ A30
 clear A30
 replace H := Option.bind_eq_some_iff.mp H
 obtain ⟨t468, A40, H⟩ := H
 replace H : (impl_imageApply.l0 k l0 t465 t468 (t468.length : Int) 0) = some r := H
 have A4 := zA_ A40
 clear A40
 have H' := zA_ H
 clear H
 go_enter Tryd.func40, Tryd.ntmps40
 go_wp2_with (first | ((with_reducible refine gate_callee (f := 68) rfl ?_); refine goesL_ (some 9) rfl rfl Tryd.func68 βDa rfl #[.slice A0 l0.length c0] rfl zs_ ?_; (with_reducible refine (slices_Clone_string_string.calls _ _ l0 t465 _ ?side1 ?side2 A3.out).mono ?_); (case side1 => exact zc_ HR0.out); (case side2 => exact HC0.out); rintro e w5 ⟨v466, rfl, ho0, hb⟩; refine ⟨_, rfl, ?_⟩; have n0_ := zA_ (Kd.R_lower ho0 (below_size (zh_ HB.out))); have n1_ := zA_ (below_step (zh_ HB.out) hb); clear HB; have HO467 := n0_; have HB := n1_; clear n0_ n1_; (try clear hb); (try clear hb2); (try clear hk); (try clear hi); (try clear ho0)) | ((with_reducible refine gate_callee (f := 69) rfl ?_); refine goesL_ (some 11) rfl rfl Tryd.func69 βDa rfl #[.slice A1 l1.length c1] rfl zs_ ?_; (with_reducible refine (impl_writes.calls _ _ l1 t468 _ ?side1 ?side2 A4.out).mono ?_); (case side1 => exact zc_ (Kd.C_below HR1.out HB.out)); (case side2 => exact HC1.out); rintro e w6 ⟨v469, rfl, ho0, hb⟩; refine ⟨_, rfl, ?_⟩; have n0_ := zA_ (Kd.R_below (zr_ HO467.out) hb); have n1_ := zA_ (Kd.R_lower ho0 (below_size (zh_ HB.out))); have n2_ := zA_ (below_step (zh_ HB.out) hb); clear HO467 HB; have HO467 := n0_; have HO470 := n1_; have HB := n2_; clear n0_ n1_ n2_; (try clear hb); (try clear hb2); (try clear hk); (try clear hi); (try clear ho0); obtain ⟨Ao7, co7, eo7⟩ := Kd.R_slice HO470.out; subst eo7))
 go_loopg [13] k (fun kq v13 w' => ∃ (x5_1 : List ByteArray) (x13_1 : Int), v13 = .int .i64 x13_1 ∧ Aside0 (impl_imageApply.l0 kq l0 x5_1 t468 (t468.length : Int) x13_1 = some r) ∧ Aside0 (kq ≤ k) ∧ Aside0 (Kd.R Kd.string 9 w' w.heap.size (fun _ => True) v466 x5_1) ∧ Aside0 (Kd.R k42 42 w' w.heap.size (fun _ => True) (.slice Ao7 t468.length co7) t468) ∧ Aside0 (Below w.heap.size w w'))
 case atStart => exact ⟨(t465), (0), βya, H', ⟨Nat.le_refl _⟩, ⟨zr_ HO467.out⟩, ⟨zr_ HO470.out⟩, ⟨zh_ HB.out⟩⟩
 case round =>
  clear H'
  try clear c1
  try clear p2
  try clear c4
  try clear c6
  obtain ⟨x5_1, x13_1, rfl, HA, HK1, HO_5, HO_11, HB⟩ := hrel
  cases gk with
  | zero => exact absurd HA.out (by simp [impl_imageApply.l0])
  | succ k1 =>
   have H := HA.out
   clear HA
   simp only [impl_imageApply.l0] at H
   by_cases c8 : x13_1 < (t468.length : Int)
   · rw [if_pos c8] at H
     have c8b0 : decide (x13_1 < (t468.length : Int)) = true := decide_eq_true c8
     clear c8
     by_cases c9 : 0 ≤ x13_1
     · rw [if_pos c9] at H
       have c9b0 : decide (0 ≤ x13_1) = true := decide_eq_true c9
       clear c9
       by_cases c10 : x13_1 < (t468.length : Int)
       · rw [if_pos c10] at H
         have c10b0 : decide (x13_1 < (t468.length : Int)) = true := decide_eq_true c10
         clear c10
         by_cases c11 : 0 ≤ ((rd_T42 t468 x13_1).f2)
         · rw [if_pos c11] at H
           have c11b0 : decide (0 ≤ ((rd_T42 t468 x13_1).f2)) = true := decide_eq_true c11
           clear c11
           by_cases c12 : ((rd_T42 t468 x13_1).f2) < (l0.length : Int)
           · rw [if_pos c12] at H
             have c12b0 : decide (((rd_T42 t468 x13_1).f2) < (l0.length : Int)) = true := decide_eq_true c12
             clear c12
             replace H := Option.bind_eq_some_iff.mp H
             obtain ⟨t474, A130, H⟩ := H
             replace H : (if 0 ≤ ((rd_T42 t468 x13_1).f1) then (if ((rd_T42 t468 x13_1).f1) < (x5_1.length : Int) then (impl_imageApply.l0 k1 l0 (x5_1.set (((rd_T42 t468 x13_1).f1) : Int).toNat t474) t468 (t468.length : Int) (wrap64 (x13_1 + 1))) else (none)) else (none)) = some r := H
             have A13 := zA_ A130
             clear A130
             by_cases c14 : 0 ≤ ((rd_T42 t468 x13_1).f1)
             · rw [if_pos c14] at H
               have c14b0 : decide (0 ≤ ((rd_T42 t468 x13_1).f1)) = true := decide_eq_true c14
               clear c14
               by_cases c15 : ((rd_T42 t468 x13_1).f1) < (x5_1.length : Int)
               · rw [if_pos c15] at H
                 have c15b0 : decide (((rd_T42 t468 x13_1).f1) < (x5_1.length : Int)) = true := decide_eq_true c15
                 clear c15
                 obtain ⟨y475, hy475⟩ : ∃ y_ : List ByteArray, y_ = (x5_1.set (((rd_T42 t468 x13_1).f1) : Int).toNat t474) := ⟨_, rfl⟩
                 replace H : (impl_imageApply.l0 k1 l0 y475 t468 (t468.length : Int) (wrap64 (x13_1 + 1))) = some r := by first | (rw [hy475]; with_reducible exact H) | (have H2_ := (Option.bind_some _ _).symm.trans H; rw [hy475]; with_reducible exact H2_) | (have H2_ := (Option.bind_some _ _).symm.trans H; with_reducible exact H2_) | with_reducible exact H | (rw [hy475]; exact H) | exact H
                 have Ny475 := zA_ hy475
                 clear hy475
                 have H' := zA_ H
                 clear H
                 have p471 : 0 ≤ (x13_1 : Int) := of_decide_eq_true βxa
                 have q471 : x13_1 < (t468.length : Int) := of_decide_eq_true βxa
                 obtain ⟨ad471, e471, hx471_0, hx471_1, hx471_2, hx471_3⟩ := at_T42 (Kd.R_reads' HO_11.out).2.2 x13_1 p471 q471
                 cases e471
                 replace p471 := eq_true p471
                 replace q471 := eq_true q471
                 try go_wp2_with (first | ((with_reducible refine gate_dst (N := 7) rfl ?_); refine box_event ?hg (N := 7) ?hd (cs := #[.int .i64 0, .int .i64 0, .int .i64 0, .string (⟨#[]⟩ : ByteArray)]) (t := 42) ?hr ?_; (case hd => exact (by rfl)); (case hg => exact (by rfl)); (case hr => exact βAa); intro gb472 hg w17 hbox hb; have n0_ := zA_ (Kd.R_below (zr_ HO_5.out) hb); have n1_ := zA_ (Kd.R_below (Kd.R_elderB (zr_ HO_11.out) gb472 (Nat.le_of_eq hg.symm)) hb); have n2_ := zA_ (below_step (zh_ HB.out) hb); have n3_ := zA_ (hbox); have n4_ := zA_ ((by rw [hg]; exact (below_size (zh_ HB.out)) : w.heap.size ≤ gb472)); have n5_ := zA_ ((by rw [hg]; exact (below_size (zh_ HB.out)) : w.heap.size ≤ gb472)); clear HO_5 HO_11 HB; have HO_5 := n0_; have HO_11 := n1_; have HB := n2_; have BK472 := n3_; have GW472 := n4_; have GE472 := n5_; clear n0_ n1_ n2_ n3_ n4_ n5_; clear hb hbox hg; have hcz18_0 := cz_ BK472.out 0 (.int .i64 0) rfl; have hcz18_1 := cz_ BK472.out 1 (.int .i64 0) rfl; have hcz18_2 := cz_ BK472.out 2 (.int .i64 0) rfl; have hcz18_3 := cz_ BK472.out 3 (.string (⟨#[]⟩ : ByteArray)) rfl; have hfz18_0 := blk_frozen BK472.out 0; have hfz18_1 := blk_frozen BK472.out 1; have hfz18_2 := blk_frozen BK472.out 2; have hfz18_3 := blk_frozen BK472.out 3))
                 have n0_ : Aside0 (Kd.R Kd.string 9 ((((w17.setCell ⟨gb472, 0, none⟩ (.int .i64 ((rd_T42 t468 x13_1).f0))).setCell ⟨gb472, 1, none⟩ (.int .i64 ((rd_T42 t468 x13_1).f1))).setCell ⟨gb472, 2, none⟩ (.int .i64 ((rd_T42 t468 x13_1).f2))).setCell ⟨gb472, 3, none⟩ (.string ((rd_T42 t468 x13_1).f3))) w.heap.size (fun _ => True) v466 x5_1) := ⟨(by (with_reducible repeat (first | apply Kd.R_alloc | apply Kd.R_drewN | apply Kd.R_drew)); exact Kd.R_mono (Kd.R_far (p := ⟨gb472, 3, none⟩) (Kd.R_far (p := ⟨gb472, 2, none⟩) (Kd.R_far (p := ⟨gb472, 1, none⟩) (Kd.R_far (p := ⟨gb472, 0, none⟩) (Kd.R_types HO_5.out BK472.out (by decide)) (fun _ hk => hk.2) (.int .i64 ((rd_T42 t468 x13_1).f0))) (fun _ hk => hk.2) (.int .i64 ((rd_T42 t468 x13_1).f1))) (fun _ hk => hk.2) (.int .i64 ((rd_T42 t468 x13_1).f2))) (fun _ hk => hk.2) (.string ((rd_T42 t468 x13_1).f3))) (fun _ hk => trivial))⟩
                 have n1_ : Aside0 (Kd.R k42 42 ((((w17.setCell ⟨gb472, 0, none⟩ (.int .i64 ((rd_T42 t468 x13_1).f0))).setCell ⟨gb472, 1, none⟩ (.int .i64 ((rd_T42 t468 x13_1).f1))).setCell ⟨gb472, 2, none⟩ (.int .i64 ((rd_T42 t468 x13_1).f2))).setCell ⟨gb472, 3, none⟩ (.string ((rd_T42 t468 x13_1).f3))) w.heap.size (fun k_ => k_ ≠ gb472) (.slice (some ad471) t468.length co7) t468) := ⟨(by (with_reducible repeat (first | apply Kd.R_alloc | apply Kd.R_drewN | apply Kd.R_drew)); exact Kd.R_mono (Kd.R_far (p := ⟨gb472, 3, none⟩) (Kd.R_far (p := ⟨gb472, 2, none⟩) (Kd.R_far (p := ⟨gb472, 1, none⟩) (Kd.R_far (p := ⟨gb472, 0, none⟩) (Kd.R_mono HO_11.out (fun k_ hk => (⟨hk, hk.2⟩ : _ ∧ k_ ≠ gb472))) (fun _ hk => hk.2) (.int .i64 ((rd_T42 t468 x13_1).f0))) (fun _ hk => hk.2) (.int .i64 ((rd_T42 t468 x13_1).f1))) (fun _ hk => hk.2) (.int .i64 ((rd_T42 t468 x13_1).f2))) (fun _ hk => hk.2) (.string ((rd_T42 t468 x13_1).f3))) (fun _ hk => hk.1.2))⟩
                 have n2_ : Aside0 (((((w17.setCell ⟨gb472, 0, none⟩ (.int .i64 ((rd_T42 t468 x13_1).f0))).setCell ⟨gb472, 1, none⟩ (.int .i64 ((rd_T42 t468 x13_1).f1))).setCell ⟨gb472, 2, none⟩ (.int .i64 ((rd_T42 t468 x13_1).f2))).setCell ⟨gb472, 3, none⟩ (.string ((rd_T42 t468 x13_1).f3))).heap[gb472]? = some (.cells #[.int .i64 ((rd_T42 t468 x13_1).f0), .int .i64 ((rd_T42 t468 x13_1).f1), .int .i64 ((rd_T42 t468 x13_1).f2), .string ((rd_T42 t468 x13_1).f3)] 42 (0, 0))) := ⟨(by (with_reducible repeat (first | refine blk_drewN ?_ _ | refine blk_drew ?_ | refine blk_alloc ?_ _)); refine blk_put (cs := #[.int .i64 ((rd_T42 t468 x13_1).f0), .int .i64 ((rd_T42 t468 x13_1).f1), .int .i64 ((rd_T42 t468 x13_1).f2), .string (⟨#[]⟩ : ByteArray)]) ?_ 3 _ rfl; (with_reducible repeat (first | refine blk_drewN ?_ _ | refine blk_drew ?_ | refine blk_alloc ?_ _)); refine blk_put (cs := #[.int .i64 ((rd_T42 t468 x13_1).f0), .int .i64 ((rd_T42 t468 x13_1).f1), .int .i64 0, .string (⟨#[]⟩ : ByteArray)]) ?_ 2 _ rfl; (with_reducible repeat (first | refine blk_drewN ?_ _ | refine blk_drew ?_ | refine blk_alloc ?_ _)); refine blk_put (cs := #[.int .i64 ((rd_T42 t468 x13_1).f0), .int .i64 0, .int .i64 0, .string (⟨#[]⟩ : ByteArray)]) ?_ 1 _ rfl; (with_reducible repeat (first | refine blk_drewN ?_ _ | refine blk_drew ?_ | refine blk_alloc ?_ _)); refine blk_put (cs := #[.int .i64 0, .int .i64 0, .int .i64 0, .string (⟨#[]⟩ : ByteArray)]) ?_ 0 _ rfl; (with_reducible repeat (first | refine blk_drewN ?_ _ | refine blk_drew ?_ | refine blk_alloc ?_ _)); exact BK472.out)⟩
                 have n3_ : Aside0 (Below w.heap.size w ((((w17.setCell ⟨gb472, 0, none⟩ (.int .i64 ((rd_T42 t468 x13_1).f0))).setCell ⟨gb472, 1, none⟩ (.int .i64 ((rd_T42 t468 x13_1).f1))).setCell ⟨gb472, 2, none⟩ (.int .i64 ((rd_T42 t468 x13_1).f2))).setCell ⟨gb472, 3, none⟩ (.string ((rd_T42 t468 x13_1).f3)))) := ⟨zg1_ HB.out GE472.out⟩
                 (try clear HO_5)
                 (try clear HO_11)
                 (try clear BK472)
                 (try clear HB)
                 generalize ((((w17.setCell ⟨gb472, 0, none⟩ (.int .i64 ((rd_T42 t468 x13_1).f0))).setCell ⟨gb472, 1, none⟩ (.int .i64 ((rd_T42 t468 x13_1).f1))).setCell ⟨gb472, 2, none⟩ (.int .i64 ((rd_T42 t468 x13_1).f2))).setCell ⟨gb472, 3, none⟩ (.string ((rd_T42 t468 x13_1).f3))) = w19 at n0_ n1_ n2_ n3_ ⊢
                 have HO_5 := n0_
                 have HO_11 := n1_
                 have BK472 := n2_
                 have HB := n3_
                 clear n0_ n1_ n2_ n3_
                 have n0_ := zA_ (Kd.R_drew HO_5.out)
                 have n1_ := zA_ (Kd.R_drew HO_11.out)
                 have n2_ := zA_ (blk_drew BK472.out)
                 have n3_ := zA_ (below_drew1 HB.out)
                 clear HO_5 HO_11 BK472 HB
                 have HO_5 := n0_
                 have HO_11 := n1_
                 have BK472 := n2_
                 have HB := n3_
                 clear n0_ n1_ n2_ n3_
                 have p473 : 0 ≤ (((rd_T42 t468 x13_1).f2) : Int) := of_decide_eq_true βxa
                 have q473 : ((rd_T42 t468 x13_1).f2) < (l0.length : Int) := of_decide_eq_true βxa
                 obtain ⟨ad473, e473, hx473_0⟩ := Kd.at_string HR0.out ((rd_T42 t468 x13_1).f2) p473 q473
                 have hw473_0 := hx473_0
                 cases e473
                 replace hx473_0 := bc_ HB.out hx473_0
                 replace p473 := eq_true p473
                 replace q473 := eq_true q473
                 refine start_ (n := 12) (S := fun w' => w'.cell? ⟨gb472, 0, none⟩ = some (.int .i64 ((rd_T42 t468 x13_1).f0)) ∧ w'.cell? ⟨gb472, 1, none⟩ = some (.int .i64 ((rd_T42 t468 x13_1).f1)) ∧ w'.cell? ⟨gb472, 2, none⟩ = some (.int .i64 ((rd_T42 t468 x13_1).f2)) ∧ w'.cell? ⟨gb472, 3, none⟩ = some (.string ((rd_T42 t468 x13_1).f3)) ∧ w'.cell? (ad473.add (((rd_T42 t468 x13_1).f2)).toNat) = some (.string (rdOf ByteArray.empty l0 ((rd_T42 t468 x13_1).f2)))) (ds := [11]) (mr_ [0, 12]) βDa rfl rfl ⟨cy_ BK472.out 0, cy_ BK472.out 1, cy_ BK472.out 2, cy_ BK472.out 3, (bc_ HB.out hw473_0)⟩ (fun hHeld => ?_); refine with_tabW impl_imageApply.tab5 impl_imageApply.bits5 (fun HT_ HW_ => ?_)
                 generalize w19.drew = w20 at HO_5 HO_11 BK472 HB hx473_0 hHeld ⊢
                 refine pure_ (i := 0) (N := some 17) (v := ?_) (a' := ?_) (mr_ [1, 11]) rfl rfl (any_of HT_.out βDa) (fun _ _ _ h => h) (Or.inl ⟨(by rfl), ?_⟩) ?_ ?_
                 rotate_left; exact pv_; rotate_left; exact pp_
                 refine pure_ (i := 1) (N := some 18) (v := ?_) (a' := ?_) (mr_ [2, 10]) rfl rfl (any_of HT_.out βDa) (fun _ _ _ h => h) (Or.inl ⟨(by rfl), ?_⟩) ?_ ?_
                 rotate_left; exact pv_; rotate_left; exact pp_
                 refine pure_ (i := 4) (N := some 21) (v := ?_) (a' := ?_) (mr_ [2, 2, 1, 7]) rfl rfl (any_of HT_.out βDa) (fun _ _ _ h => h) (Or.inl ⟨(by rfl), ?_⟩) ?_ ?_
                 rotate_left; exact pv_; rotate_left; exact pp_
                 refine pure_ (i := 5) (N := some 22) (v := ?_) (a' := ?_) (mr_ [2, 2, 2, 6]) rfl rfl (any_of HT_.out βDa) (fun _ _ _ h => h) (Or.inl ⟨(by rfl), ?_⟩) ?_ ?_
                 rotate_left; exact pv_; rotate_left; exact pp_
                 refine take_ (i := 2) (N := some 19) (v := ?_) (a' := ?_) (mr_ [3, 1, 2, 6]) rfl rfl (take_ofW HT_.out HW_.out βDa) (fun _ _ _ h => h) (Or.inl ⟨(by rfl), ?_⟩) hHeld ?_ ?_
                 rotate_left
                 · rintro w' ⟨s0, s1, s2, s3, s4⟩
                   go_simp
                   with_reducible rfl
                 rotate_left
                 exact pp_
                 refine take_ (i := 3) (N := some 20) (v := ?_) (a' := ?_) (mr_ [6, 6]) rfl rfl (take_ofW HT_.out HW_.out βDa) (fun _ _ _ h => h) (Or.inl ⟨(by rfl), ?_⟩) hHeld ?_ ?_
                 rotate_left
                 · rintro w' ⟨s0, s1, s2, s3, s4⟩
                   go_simp
                   with_reducible rfl
                 rotate_left
                 exact pp_
                 refine take_ (i := 6) (N := some 23) (v := ?_) (a' := ?_) (mr_ [7, 5]) rfl rfl (take_ofW HT_.out HW_.out βDa) (fun _ _ _ h => h) (Or.inl ⟨(by rfl), ?_⟩) hHeld ?_ ?_
                 rotate_left
                 · rintro w' ⟨s0, s1, s2, s3, s4⟩
                   go_simp
                   with_reducible rfl
                 rotate_left
                 exact pp_
                 refine pure_ (i := 7) (N := some 24) (v := ?_) (a' := ?_) (mr_ [8, 4]) rfl rfl (any_of HT_.out βDa) (fun _ _ _ h => h) (Or.inl ⟨(by rfl), ?_⟩) ?_ ?_
                 rotate_left; exact pv_; rotate_left; exact pp_
                 refine take_ (i := 8) (N := some 25) (v := ?_) (a' := ?_) (mr_ [9, 3]) rfl rfl (take_ofW HT_.out HW_.out βDa) (fun _ _ _ h => h) (Or.inl ⟨(by rfl), ?_⟩) hHeld ?_ ?_
                 rotate_left
                 · rintro w' ⟨s0, s1, s2, s3, s4⟩
                   go_simp
                   with_reducible rfl
                 rotate_left
                 exact pp_
                 refine one_ (i := 9) (N := some 26) (mr_ [10, 2]) rfl rfl (one_of HT_.out βDa) (by decide) (fun K hK => ?_)
                 refine goes_ Tryd.func51 βDa rfl #[.agg #[.int .i64 ((rd_T42 t468 x13_1).f0), .int .i64 ((rd_T42 t468 x13_1).f1), .int .i64 ((rd_T42 t468 x13_1).f2), .string ((rd_T42 t468 x13_1).f3)], .string (rdOf ByteArray.empty l0 ((rd_T42 t468 x13_1).f2))] (by rfl) rfl rfl zs_ ?_
                 with_reducible refine (impl_madeBy.calls ((rd_T42 t468 x13_1).f0) ((rd_T42 t468 x13_1).f1) ((rd_T42 t468 x13_1).f2) ((rd_T42 t468 x13_1).f3) (rdOf ByteArray.empty l0 ((rd_T42 t468 x13_1).f2)) t474 _ A13.out).mono ?_
                 rintro e w21 ⟨rfl, hb⟩
                 refine ⟨_, rfl, ?_⟩
                 have n0_ := zA_ (Kd.R_below (zr_ HO_5.out) hb)
                 have n1_ := zA_ (Kd.R_below (zr_ HO_11.out) hb)
                 have n2_ := zA_ (blk_below (g := gb472) (o := .cells #[.int .i64 ((rd_T42 t468 x13_1).f0), .int .i64 ((rd_T42 t468 x13_1).f1), .int .i64 ((rd_T42 t468 x13_1).f2), .string ((rd_T42 t468 x13_1).f3)] 42 (0, 0)) (zb_ BK472.out) hb)
                 have n3_ := zA_ (below_step (zg1_ HB.out GE472.out) hb)
                 clear HO_5 HO_11 BK472 HB
                 have HO_5 := n0_
                 have HO_11 := n1_
                 have BK472 := n2_
                 have HB := n3_
                 clear n0_ n1_ n2_ n3_
                 (try clear hb)
                 (try clear hb2)
                 (try clear hk)
                 (try clear hi)
                 have p16 : 0 ≤ (((rd_T42 t468 x13_1).f1) : Int) := of_decide_eq_true βxa
                 have q16 : (((rd_T42 t468 x13_1).f1) : Int) < ((x5_1.length : Int) : Int) := of_decide_eq_true βxa
                 obtain ⟨go16, co16, eo16, gb16, gl16, cl16, HG16⟩ := Kd.R_form HO_5.out (by omega)
                 (first | cases eo16 | (injection eo16 with ea_ en_ ec_; (first | subst ea_ | (injection ea_ with ea_; subst ea_)); subst ec_; clear en_))
                 have GB16 := zA_ gb16
                 have GG16 := zA_ HG16
                 clear gb16 gl16 HG16
                 obtain ⟨hx16_0, hf16_0⟩ := Kd.R_celln (⟨#[]⟩ : ByteArray) HO_5.out (((rd_T42 t468 x13_1).f1) : Int) p16 q16
                 replace p16 := eq_true p16
                 replace q16 := eq_true q16
                 have HP22 := Kd.R_putn HO_5.out (((rd_T42 t468 x13_1).f1) : Int) t474
                 rw [← Ny475.out] at HP22
                 have HQ22 := zA_ HP22
                 clear HP22
                 refine hK.out _ _ ⟨cy_ BK472.out 0, cy_ BK472.out 1, cy_ BK472.out 2, cy_ BK472.out 3, (bc_ HB.out hw473_0)⟩ (fun hHeld => ?_)
                 clear hK K
                 refine norm_ (a' := ?_) ?_ ?_
                 rotate_left
                 · show Act.put _ (some 26) _ = _
                   simp only [Act.put, List.setIfInBounds_toArray, List.set_cons_zero, List.set_cons_succ, i64_w, i32_w]
                   rfl
                 refine pure_ (i := 10) (N := some 27) (v := ?_) (a' := ?_) (mr_ [11, 1]) rfl rfl (any_of HT_.out βDa) (fun _ _ _ h => h) (Or.inl ⟨(by rfl), ?_⟩) ?_ ?_
                 rotate_left; exact pv_; rotate_left; exact pp_
                 refine last_ (i := 11) (N := none) (mr_ [12]) rfl rfl (one_of HT_.out βDa) (by decide) (fun K hK => ?_)
                 refine skip_ (w1 := ?_) (by rfl) rfl ?_ ?_
                 rotate_left
                 · go_simp
                   rfl
                 refine hK.out _ _ ?_
                 clear hK K
                 refine done_ (done_of HT_.out βDa) ?_
                 try go_wp2
                 go_roundg k1
                 case measure => have := HK1.out; omega
                 case rel => exact ⟨(y475), (wrap64 (x13_1 + 1)), βya, H', ⟨βCa⟩, ⟨zr_ HQ22.out⟩, ⟨(by (with_reducible repeat (first | apply Kd.R_alloc | apply Kd.R_drewN | apply Kd.R_drew)); exact Kd.R_mono (Kd.R_far (p := ⟨go16, (((rd_T42 t468 x13_1).f1) : Int).toNat, none⟩) (Kd.R_types HO_11.out GG16.out (by decide)) (fun _ hk => hk.2) (.string t474)) (fun _ hk => trivial))⟩, ⟨zg2_ HB.out GB16.out GE472.out⟩⟩
               · rw [if_neg c15] at H
                 exact absurd H (by simp)
             · rw [if_neg c14] at H
               exact absurd H (by simp)
           · rw [if_neg c12] at H
             exact absurd H (by simp)
         · rw [if_neg c11] at H
           exact absurd H (by simp)
       · rw [if_neg c10] at H
         exact absurd H (by simp)
     · rw [if_neg c9] at H
       exact absurd H (by simp)
   · rw [if_neg c8] at H
     have c8b0 : decide (x13_1 < (t468.length : Int)) = false := decide_eq_false c8
     clear c8
     obtain rfl := Option.some.inj H
     go_wp2
     go_ret
     exact ⟨_, βsa, βpa, βoa⟩
def impl_ImageApply.j0 : Nat → List ByteArray → List (S42) → Bool → Option (List ByteArray × Int)
 | 0, _, _, _ => none
 | k + 1, x0, x1, x6 => if x6 = true then (some (([] : List ByteArray), 2)) else ((impl_isImage.f x0).bind fun t477 => (if t477 = true then ((impl_size_string.f x0).bind fun t478 => ((impl_stepsCode.f k x1 t478).bind fun t479 => (if t479 = 0 then ((impl_imageApply.f k x0 x1).bind fun t480 => (some (t480, 0))) else (some (([] : List ByteArray), t479))))) else (some (([] : List ByteArray), 1))))
def impl_ImageApply.f (k : Nat) (l0 : List ByteArray) (l1 : List (S42)) : Option (List ByteArray × Int) := if (l0.length : Int) > 400 then (impl_ImageApply.j0 k l0 l1 true) else (impl_ImageApply.j0 k l0 l1 (decide ((l1.length : Int) > 400)))
theorem impl_ImageApply.calls (k : Nat) (A0 : Option Addr) (c0 : Nat) (l0 : List ByteArray) (A1 : Option Addr) (c1 : Nat) (l1 : List (S42)) (r1 : List ByteArray) (r2 : Int) (w : World) (hr0 : Kd.C Kd.string w A0 l0.length l0) (hc0 : l0.length ≤ c0) (hr1 : Kd.C k42 w A1 l1.length l1) (hc1 : l1.length ≤ c1) (h : impl_ImageApply.f k l0 l1 = some (r1, r2)) :
 Calls Tryd.prog 16 #[.slice A0 l0.length c0, .slice A1 l1.length c1] w fun e w' => ∃ v0_ : Value, e = .returned (.agg #[v0_, .int .i64 r2]) ∧ Kd.R Kd.string 9 w' w.heap.size (fun _ => True) v0_ r1 ∧ Below w.heap.size w w' := by
 have hu37 := Tryd.underlying37
 have HR0 := zA_ hr0
 have HC0 := zA_ hc0
 clear hr0 hc0
 have HR1 := zA_ hr1
 have HC1 := zA_ hc1
 clear hr1 hc1
 have HB := zA_ (Below.refl w.heap.size w)
 have H : (if (l0.length : Int) > 400 then (impl_ImageApply.j0 k l0 l1 true) else (impl_ImageApply.j0 k l0 l1 (decide ((l1.length : Int) > 400)))) = some (r1, r2) := h
 clear h
 have HC3 := zA_ H
 clear H
 go_enter Tryd.func16, Tryd.ntmps16
 go_upto_region 1 with (first | ((with_reducible refine gate_dst (N := 4) rfl ?_); (try (refine gate_guard (by rfl) ?_; dsimp only)); refine box_event ?hg (N := 4) ?hd (cs := #[.slice none 0 0, .int .i64 0]) (t := 37) ?hr ?_; (case hd => exact (by rfl)); (case hg => exact (by rfl)); (case hr => exact βAa); intro gb476 hg w4 hbox hb; have n0_ := zA_ (below_step (zh_ HB.out) hb); have n1_ := zA_ (hbox); have n2_ := zA_ ((by rw [hg]; exact (below_size (zh_ HB.out)) : w.heap.size ≤ gb476)); have n3_ := zA_ ((by rw [hg]; exact (below_size (zh_ HB.out)) : w.heap.size ≤ gb476)); clear HB; have HB := n0_; have BK476 := n1_; have GW476 := n2_; have GE476 := n3_; clear n0_ n1_ n2_ n3_; clear hb hbox hg))
 (try simp only [Act.put, List.setIfInBounds_toArray, List.set_cons_zero, List.set_cons_succ])
 go_cut [6] (fun v6 wc => ∃ (kq : Nat) (x6_2 : Bool), v6 = .bool x6_2 ∧ Aside0 (impl_ImageApply.j0 kq l0 l1 x6_2 = some (r1, r2)) ∧ Aside0 (kq ≤ k) ∧ Aside0 (wc.heap[gb476]? = some (.cells #[(.slice none 0 0), .int .i64 0] 37 (0, 0))) ∧ Aside0 (Below w.heap.size w wc))
 case first =>
  have H := HC3.out
  clear HC3
  by_cases c5 : (l0.length : Int) > 400
  · rw [if_pos c5] at H
    have c5b0 : decide (400 < (l0.length : Int)) = true := decide_eq_true c5
    have c5b1 : decide (400 < l0.length) = true := decide_eq_true (by omega)
    clear c5
    (first | rw [c5b0] | (simp only [i64_w, i32_w]; rw [c5b0]) | skip)
    have H' := zA_ H
    clear H
    go_wp2
    go_meet
    case rel => exact ⟨_, (true), βya, H', ⟨βBa⟩, ⟨zb_ BK476.out⟩, ⟨zg1_ HB.out GE476.out⟩⟩
  · rw [if_neg c5] at H
    have c5b0 : decide (400 < (l0.length : Int)) = false := decide_eq_false c5
    have c5b1 : decide (400 < l0.length) = false := decide_eq_false (by omega)
    clear c5
    (first | rw [c5b0] | (simp only [i64_w, i32_w]; rw [c5b0]) | skip)
    have H' := zA_ H
    clear H
    go_wp2
    go_meet
    case rel => exact ⟨_, (decide ((l1.length : Int) > 400)), βya, H', ⟨βBa⟩, ⟨zb_ BK476.out⟩, ⟨zg1_ HB.out GE476.out⟩⟩
 case rest =>
  clear HC3
  try clear c1
  try clear p2
  try clear c5
  try clear c5b0
  try clear c5b1
  obtain ⟨kq, x6_2, rfl, HA, HJ2, BK476, HB⟩ := hcut
  cases kq with
  | zero => exact absurd HA.out (by simp [impl_ImageApply.j0])
  | succ kj2 =>
   have H := HA.out
   clear HA
   simp only [impl_ImageApply.j0] at H
   by_cases c6 : x6_2 = true
   · subst c6
     have H1 : (some (([] : List ByteArray), 2)) = some (r1, r2) := by rw [if_pos rfl] at H; exact H
     clear H
     have H := H1
     clear H1
     simp only [Option.some.injEq, Prod.mk.injEq] at H
     obtain ⟨rfl, rfl⟩ := H
     have hcz7_0 := cz_ BK476.out 0 (.slice none 0 0) rfl
     have hcz7_1 := cz_ BK476.out 1 (.int .i64 0) rfl
     have hfz7_0 := blk_frozen BK476.out 0
     have hfz7_1 := blk_frozen BK476.out 1
     go_wp2
     refine bodyPost_ret (results_cell_row rfl _ _ gb476 37 #[.slice none 0 0, .int .i64 2] (0, 0) _ rfl βd Tryd.underlying37 rfl βDa) rfl ?_
     exact ⟨_, βsa, βka, βV⟩
   · replace c6 := Bool.eq_false_iff.mpr c6
     subst c6
     have H1 : ((impl_isImage.f l0).bind fun t477 => (if t477 = true then ((impl_size_string.f l0).bind fun t478 => ((impl_stepsCode.f kj2 l1 t478).bind fun t479 => (if t479 = 0 then ((impl_imageApply.f kj2 l0 l1).bind fun t480 => (some (t480, 0))) else (some (([] : List ByteArray), t479))))) else (some (([] : List ByteArray), 1)))) = some (r1, r2) := by rw [if_neg (show ¬ (false = true) by decide)] at H; exact H
     clear H
     have H := H1
     clear H1
     replace H := Option.bind_eq_some_iff.mp H
     obtain ⟨t477, A80, H⟩ := H
     replace H : (if t477 = true then ((impl_size_string.f l0).bind fun t478 => ((impl_stepsCode.f kj2 l1 t478).bind fun t479 => (if t479 = 0 then ((impl_imageApply.f kj2 l0 l1).bind fun t480 => (some (t480, 0))) else (some (([] : List ByteArray), t479))))) else (some (([] : List ByteArray), 1))) = some (r1, r2) := H
     have A8 := zA_ A80
     clear A80
     by_cases c9 : t477 = true
     · subst c9
       have H1 : ((impl_size_string.f l0).bind fun t478 => ((impl_stepsCode.f kj2 l1 t478).bind fun t479 => (if t479 = 0 then ((impl_imageApply.f kj2 l0 l1).bind fun t480 => (some (t480, 0))) else (some (([] : List ByteArray), t479))))) = some (r1, r2) := by rw [if_pos rfl] at H; exact H
       clear H
       have H := H1
       clear H1
       replace H := Option.bind_eq_some_iff.mp H
       obtain ⟨t478, A100, H⟩ := H
       replace H : ((impl_stepsCode.f kj2 l1 t478).bind fun t479 => (if t479 = 0 then ((impl_imageApply.f kj2 l0 l1).bind fun t480 => (some (t480, 0))) else (some (([] : List ByteArray), t479)))) = some (r1, r2) := H
       have A10 := zA_ A100
       clear A100
       replace H := Option.bind_eq_some_iff.mp H
       obtain ⟨t479, A110, H⟩ := H
       replace H : (if t479 = 0 then ((impl_imageApply.f kj2 l0 l1).bind fun t480 => (some (t480, 0))) else (some (([] : List ByteArray), t479))) = some (r1, r2) := H
       have A11 := zA_ A110
       clear A110
       by_cases c12 : t479 = 0
       · rw [if_pos c12] at H
         have c12b0 : (t479 == 0) = true := beq_iff_eq.mpr c12
         have c12b1 : (t479 != 0) = false := bne_eq_false_iff_eq.mpr c12
         clear c12
         replace H := Option.bind_eq_some_iff.mp H
         obtain ⟨t480, A130, H⟩ := H
         replace H : (some (t480, 0)) = some (r1, r2) := H
         have A13 := zA_ A130
         clear A130
         simp only [Option.some.injEq, Prod.mk.injEq] at H
         obtain ⟨rfl, rfl⟩ := H
         go_wp2_with (first | ((with_reducible refine gate_callee (f := 34) rfl ?_); refine goesL_ (some 18) rfl rfl Tryd.func34 βDa rfl #[.slice A0 l0.length c0] rfl zs_ ?_; (with_reducible refine (impl_isImage.calls _ _ l0 true _ ?side1 ?side2 A8.out).mono ?_); (case side1 => exact zc_ (Kd.C_below HR0.out HB.out)); (case side2 => exact HC0.out); rintro e w' ⟨rfl, ⟨nd, rfl⟩⟩; refine ⟨_, rfl, ?_⟩; (try (rw [drewN_self wc]; generalize hq_ : World.drewN wc _ = wc; have n0_ : Aside0 (wc.heap[gb476]? = some (.cells #[.slice none 0 0, .int .i64 0] 37 (0, 0))) := ⟨(by rw [← hq_]; exact (zb_ BK476.out))⟩; have n1_ : Aside0 (Below w.heap.size w wc) := ⟨βza⟩; clear BK476 HB hq_; have BK476 := n0_; have HB := n1_; clear n0_ n1_))) | ((with_reducible refine gate_callee (f := 39) rfl ?_); refine goesL_ (some 23) rfl rfl Tryd.func39 βDa rfl #[.slice A0 l0.length c0] rfl zs_ ?_; (with_reducible refine (impl_size_string.calls _ _ l0 t478 _ ?side1 ?side2 A10.out).mono ?_); (case side1 => exact zc_ (Kd.C_below HR0.out HB.out)); (case side2 => exact HC0.out); rintro e w' ⟨rfl, ⟨nd, rfl⟩⟩; refine ⟨_, rfl, ?_⟩; (try (rw [drewN_self wc]; generalize hq_ : World.drewN wc _ = wc; have n0_ : Aside0 (wc.heap[gb476]? = some (.cells #[.slice none 0 0, .int .i64 0] 37 (0, 0))) := ⟨(by rw [← hq_]; exact (zb_ BK476.out))⟩; have n1_ : Aside0 (Below w.heap.size w wc) := ⟨βza⟩; clear BK476 HB hq_; have BK476 := n0_; have HB := n1_; clear n0_ n1_))) | ((with_reducible refine gate_callee (f := 38) rfl ?_); refine goesL_ (some 24) rfl rfl Tryd.func38 βDa rfl #[.slice A1 l1.length c1, .int .i64 t478] rfl zs_ ?_; (with_reducible refine (impl_stepsCode.calls kj2 _ _ l1 t478 t479 _ ?side1 ?side2 A11.out).mono ?_); (case side1 => exact zc_ (Kd.C_below HR1.out HB.out)); (case side2 => exact HC1.out); rintro e w14 ⟨rfl, hb⟩; refine ⟨_, rfl, ?_⟩; have n0_ := zA_ (blk_below (g := gb476) (o := .cells #[.slice none 0 0, .int .i64 0] 37 (0, 0)) (zb_ BK476.out) hb); have n1_ := zA_ (below_step (zg1_ HB.out GE476.out) hb); clear BK476 HB; have BK476 := n0_; have HB := n1_; clear n0_ n1_; (try clear hb); (try clear hb2); (try clear hk); (try clear hi)) | ((with_reducible refine gate_callee (f := 40) rfl ?_); refine goesL_ (some 31) rfl rfl Tryd.func40 βDa rfl #[.slice A0 l0.length c0, .slice A1 l1.length c1] rfl zs_ ?_; (with_reducible refine (impl_imageApply.calls kj2 _ _ l0 _ _ l1 t480 _ ?side1 ?side2 ?side3 ?side4 A13.out).mono ?_); (case side1 => exact zc_ (Kd.C_below HR0.out HB.out)); (case side2 => exact HC0.out); (case side3 => exact zc_ (Kd.C_below HR1.out HB.out)); (case side4 => exact HC1.out); rintro e w15 ⟨v481, rfl, ho0, hb⟩; refine ⟨_, rfl, ?_⟩; have n0_ := zA_ (Kd.R_lower ho0 (below_size (zg1_ HB.out GE476.out))); have n1_ := zA_ (blk_below (g := gb476) (o := .cells #[.slice none 0 0, .int .i64 0] 37 (0, 0)) (zb_ BK476.out) hb); have n2_ := zA_ (below_step (zg1_ HB.out GE476.out) hb); clear BK476 HB; have HO482 := n0_; have BK476 := n1_; have HB := n2_; clear n0_ n1_ n2_; (try clear hb); (try clear hb2); (try clear hk); (try clear hi); (try clear ho0); obtain ⟨Ao16, co16, eo16⟩ := Kd.R_slice HO482.out; subst eo16; have hcz17_0 := cz_ BK476.out 0 (.slice none 0 0) rfl; have hcz17_1 := cz_ BK476.out 1 (.int .i64 0) rfl; have hfz17_0 := blk_frozen BK476.out 0; have hfz17_1 := blk_frozen BK476.out 1))
         refine bodyPost_ret (results_cell_row rfl _ _ gb476 37 #[.slice Ao16 t480.length co16, .int .i64 0] (0, 0) _ rfl (by (with_reducible repeat (first | refine blk_drewN ?_ _ | refine blk_drew ?_ | refine blk_alloc ?_ _)); refine blk_put (cs := #[.slice Ao16 t480.length co16, .int .i64 0]) ?_ 1 _ rfl; (with_reducible repeat (first | refine blk_drewN ?_ _ | refine blk_drew ?_ | refine blk_alloc ?_ _)); refine blk_put (cs := #[.slice none 0 0, .int .i64 0]) ?_ 0 _ rfl; (with_reducible repeat (first | refine blk_drewN ?_ _ | refine blk_drew ?_ | refine blk_alloc ?_ _)); exact BK476.out) Tryd.underlying37 rfl βDa) rfl ?_
         exact ⟨_, βsa, (by (with_reducible repeat (first | apply Kd.R_alloc | apply Kd.R_drewN | apply Kd.R_drew)); exact Kd.R_mono (Kd.R_far (p := ⟨gb476, 1, none⟩) (Kd.R_far (p := ⟨gb476, 0, none⟩) (Kd.R_types HO482.out BK476.out (by decide)) (fun _ hk => hk.2) (.slice Ao16 t480.length co16)) (fun _ hk => hk.2) (.int .i64 0)) (fun _ hk => trivial)), βV⟩
       · rw [if_neg c12] at H
         have c12b0 : (t479 == 0) = false := beq_eq_false_iff_ne.mpr c12
         have c12b1 : (t479 != 0) = true := bne_iff_ne.mpr c12
         simp only [Option.some.injEq, Prod.mk.injEq] at H
         obtain ⟨rfl, rfl⟩ := H
         go_wp2_with (first | ((with_reducible refine gate_callee (f := 34) rfl ?_); refine goesL_ (some 18) rfl rfl Tryd.func34 βDa rfl #[.slice A0 l0.length c0] rfl zs_ ?_; (with_reducible refine (impl_isImage.calls _ _ l0 true _ ?side1 ?side2 A8.out).mono ?_); (case side1 => exact zc_ (Kd.C_below HR0.out HB.out)); (case side2 => exact HC0.out); rintro e w' ⟨rfl, ⟨nd, rfl⟩⟩; refine ⟨_, rfl, ?_⟩; (try (rw [drewN_self wc]; generalize hq_ : World.drewN wc _ = wc; have n0_ : Aside0 (wc.heap[gb476]? = some (.cells #[.slice none 0 0, .int .i64 0] 37 (0, 0))) := ⟨(by rw [← hq_]; exact (zb_ BK476.out))⟩; have n1_ : Aside0 (Below w.heap.size w wc) := ⟨βza⟩; clear BK476 HB hq_; have BK476 := n0_; have HB := n1_; clear n0_ n1_))) | ((with_reducible refine gate_callee (f := 39) rfl ?_); refine goesL_ (some 23) rfl rfl Tryd.func39 βDa rfl #[.slice A0 l0.length c0] rfl zs_ ?_; (with_reducible refine (impl_size_string.calls _ _ l0 t478 _ ?side1 ?side2 A10.out).mono ?_); (case side1 => exact zc_ (Kd.C_below HR0.out HB.out)); (case side2 => exact HC0.out); rintro e w' ⟨rfl, ⟨nd, rfl⟩⟩; refine ⟨_, rfl, ?_⟩; (try (rw [drewN_self wc]; generalize hq_ : World.drewN wc _ = wc; have n0_ : Aside0 (wc.heap[gb476]? = some (.cells #[.slice none 0 0, .int .i64 0] 37 (0, 0))) := ⟨(by rw [← hq_]; exact (zb_ BK476.out))⟩; have n1_ : Aside0 (Below w.heap.size w wc) := ⟨βza⟩; clear BK476 HB hq_; have BK476 := n0_; have HB := n1_; clear n0_ n1_))) | ((with_reducible refine gate_callee (f := 38) rfl ?_); refine goesL_ (some 24) rfl rfl Tryd.func38 βDa rfl #[.slice A1 l1.length c1, .int .i64 t478] rfl zs_ ?_; (with_reducible refine (impl_stepsCode.calls kj2 _ _ l1 t478 t479 _ ?side1 ?side2 A11.out).mono ?_); (case side1 => exact zc_ (Kd.C_below HR1.out HB.out)); (case side2 => exact HC1.out); rintro e w18 ⟨rfl, hb⟩; refine ⟨_, rfl, ?_⟩; have n0_ := zA_ (blk_below (g := gb476) (o := .cells #[.slice none 0 0, .int .i64 0] 37 (0, 0)) (zb_ BK476.out) hb); have n1_ := zA_ (below_step (zg1_ HB.out GE476.out) hb); clear BK476 HB; have BK476 := n0_; have HB := n1_; clear n0_ n1_; (try clear hb); (try clear hb2); (try clear hk); (try clear hi); have hcz19_0 := cz_ BK476.out 0 (.slice none 0 0) rfl; have hcz19_1 := cz_ BK476.out 1 (.int .i64 0) rfl; have hfz19_0 := blk_frozen BK476.out 0; have hfz19_1 := blk_frozen BK476.out 1))
         refine bodyPost_ret (results_cell_row rfl _ _ gb476 37 #[.slice none 0 0, .int .i64 t479] (0, 0) _ rfl βd Tryd.underlying37 rfl βDa) rfl ?_
         exact ⟨_, βsa, βka, βV⟩
     · replace c9 := Bool.eq_false_iff.mpr c9
       subst c9
       have H1 : (some (([] : List ByteArray), 1)) = some (r1, r2) := by rw [if_neg (show ¬ (false = true) by decide)] at H; exact H
       clear H
       have H := H1
       clear H1
       simp only [Option.some.injEq, Prod.mk.injEq] at H
       obtain ⟨rfl, rfl⟩ := H
       go_wp2_with (first | ((with_reducible refine gate_callee (f := 34) rfl ?_); refine goesL_ (some 18) rfl rfl Tryd.func34 βDa rfl #[.slice A0 l0.length c0] rfl zs_ ?_; (with_reducible refine (impl_isImage.calls _ _ l0 false _ ?side1 ?side2 A8.out).mono ?_); (case side1 => exact zc_ (Kd.C_below HR0.out HB.out)); (case side2 => exact HC0.out); rintro e w' ⟨rfl, ⟨nd, rfl⟩⟩; refine ⟨_, rfl, ?_⟩; (try (rw [drewN_self wc]; generalize hq_ : World.drewN wc _ = wc; have n0_ : Aside0 (wc.heap[gb476]? = some (.cells #[.slice none 0 0, .int .i64 0] 37 (0, 0))) := ⟨(by rw [← hq_]; exact (zb_ BK476.out))⟩; have n1_ : Aside0 (Below w.heap.size w wc) := ⟨βza⟩; clear BK476 HB hq_; have BK476 := n0_; have HB := n1_; clear n0_ n1_)); have hcz20_0 := cz_ BK476.out 0 (.slice none 0 0) rfl; have hcz20_1 := cz_ BK476.out 1 (.int .i64 0) rfl; have hfz20_0 := blk_frozen BK476.out 0; have hfz20_1 := blk_frozen BK476.out 1))
       refine bodyPost_ret (results_cell_row rfl _ _ gb476 37 #[.slice none 0 0, .int .i64 1] (0, 0) _ rfl βd Tryd.underlying37 rfl βDa) rfl ?_
       exact ⟨_, βsa, βka, βV⟩
def spec_l07Apply.l0 : Nat → List ByteArray → List (S42) → List ByteArray → Int → Option (List ByteArray)
 | 0, _, _, _, _ => none
 | k + 1, x0, x1, x5, x6 => if x6 < (x1.length : Int) then (if 0 ≤ x6 then (if ((rd_T42 x1 x6).f0) = 5 then (spec_l07Apply.l0 k x0 x1 x5 (wrap64 (x6 + 1))) else (if 0 ≤ ((rd_T42 x1 x6).f2) then (if ((rd_T42 x1 x6).f2) < (x0.length : Int) then ((spec_l07Make.f k ((rd_T42 x1 x6).f0) ((rd_T42 x1 x6).f1) ((rd_T42 x1 x6).f2) ((rd_T42 x1 x6).f3) (rdOf ByteArray.empty x0 ((rd_T42 x1 x6).f2))).bind fun t576 => (if 0 ≤ ((rd_T42 x1 x6).f1) then (if ((rd_T42 x1 x6).f1) < (x5.length : Int) then (spec_l07Apply.l0 k x0 x1 (x5.set (((rd_T42 x1 x6).f1) : Int).toNat t576) (wrap64 (x6 + 1))) else (none)) else (none))) else (none)) else (none))) else (none)) else (some x5)
def spec_l07Apply.f (k : Nat) (l0 : List ByteArray) (l1 : List (S42)) : Option (List ByteArray) := (some (([] : List ByteArray) : List ByteArray)).bind fun y565 => (if y565.length + l0.length < 8796093022208 then (spec_l07Apply.l0 k l0 l1 (y565 ++ l0) 0) else (none))
def spec_l07Apply.T6 : Bool × List (List Nat × List Nat) := (true, [([], []), ([], []), ([], []), ([1, 2], [1, 2]), ([3], [3]), ([4], [4]), ([], []), ([], []), ([6, 7], [6, 7]), ([8], [8]), ([], []), ([], []), ([], []), ([11, 12], [11, 12]), ([13], [13]), ([14], [14]), ([10, 15], [10, 15]), ([16], [16]), ([9, 17], [9, 17]), ([0, 5, 0, 1, 2, 3, 4, 5, 6, 7, 8, 9, 10, 11, 12, 13, 14, 15, 16, 17, 18], [0, 5]), ([19, 18, 18, 0, 1, 2, 3, 4, 5, 6, 7, 8, 9, 10, 11, 12, 13, 14, 15, 16, 17, 18], [18, 19])])
def spec_l07Apply.B6 : List Nat := [0, 0, 0, 6, 14, 30, 0, 0, 192, 448, 0, 0, 0, 6144, 14336, 30720, 64512, 130048, 262080, 524287, 1048575]
theorem spec_l07Apply.tab6 : rtab .any (opsOf Tryd.f48 6) = spec_l07Apply.T6 := by kernel_rfl
theorem spec_l07Apply.bits6 : waitsOk spec_l07Apply.T6.2 spec_l07Apply.B6 = true := by kernel_rfl
theorem spec_l07Apply.calls (k : Nat) (A0 : Option Addr) (c0 : Nat) (l0 : List ByteArray) (A1 : Option Addr) (c1 : Nat) (l1 : List (S42)) (r : List ByteArray) (w : World) (hr0 : Kd.C Kd.string w A0 l0.length l0) (hc0 : l0.length ≤ c0) (hr1 : Kd.C k42 w A1 l1.length l1) (hc1 : l1.length ≤ c1) (h : spec_l07Apply.f k l0 l1 = some r) :
 Calls Tryd.prog 48 #[.slice A0 l0.length c0, .slice A1 l1.length c1] w fun e w' => ∃ v0_ : Value, e = .returned (v0_) ∧ Kd.R Kd.string 9 w' w.heap.size (fun _ => True) v0_ r ∧ Below w.heap.size w w' := by
 have hu42 := Tryd.underlying42
 have HR0 := zA_ hr0
 have HC0 := zA_ hc0
 clear hr0 hc0
 have HR1 := zA_ hr1
 have HC1 := zA_ hc1
 clear hr1 hc1
 have HB := zA_ (Below.refl w.heap.size w)
 have H : ((some (([] : List ByteArray) : List ByteArray)).bind fun y565 => (if y565.length + l0.length < 8796093022208 then (spec_l07Apply.l0 k l0 l1 (y565 ++ l0) 0) else (none))) = some r := h
 clear h
 obtain ⟨y565, hy565⟩ : ∃ y_ : List ByteArray, y_ = (([] : List ByteArray)) := ⟨_, rfl⟩
 replace H : (if y565.length + l0.length < 8796093022208 then (spec_l07Apply.l0 k l0 l1 (y565 ++ l0) 0) else (none)) = some r := by first | (rw [hy565]; with_reducible exact H) | (have H2_ := (Option.bind_some _ _).symm.trans H; rw [hy565]; with_reducible exact H2_) | (have H2_ := (Option.bind_some _ _).symm.trans H; with_reducible exact H2_) | with_reducible exact H | (rw [hy565]; exact H) | exact H
 have Ny565 := zA_ hy565
 clear hy565
 by_cases c3 : y565.length + l0.length < 8796093022208
 · rw [if_pos c3] at H
   have LMc3 := zA_ c3
   clear c3
   obtain ⟨y568, hy568⟩ : ∃ y_ : List ByteArray, y_ = (y565 ++ l0) := ⟨_, rfl⟩
   replace H : (spec_l07Apply.l0 k l0 l1 y568 0) = some r := by first | (rw [hy568]; with_reducible exact H) | (have H2_ := (Option.bind_some _ _).symm.trans H; rw [hy568]; with_reducible exact H2_) | (have H2_ := (Option.bind_some _ _).symm.trans H; with_reducible exact H2_) | with_reducible exact H | (rw [hy568]; exact H) | exact H
   have Ny568 := zA_ hy568
   clear hy568
   have H' := zA_ H
   clear H
   go_enter Tryd.func48, Tryd.ntmps48
   go_wp2_with (first | ((with_reducible refine gate_dst (N := 7) rfl ?_); refine Kd.R_lit Kd.string _ 9 ?hg (N := 7) ?hd (xs := ([] : List ByteArray)) (inner := []) (ok := fun _ => True) (okp := fun _ => True) ?hr ?hp (fun _ hk => hk) trivial (Below.refl _ _) (Nat.le_refl _) (by simp) ?_; (case hd => exact (by rfl)); (case hg => exact (by rfl)); (case hr => exact βAa); (case hp => exact (Reps.none _ _)); intro v566 w4 ho5 hb hg_ hnew_; clear hg_ hnew_; (first | rw [← Ny565.out] at ho5 | (simp only [Int.reduceToNat] at ho5; rw [← Ny565.out] at ho5)); have n0_ := zA_ (Kd.R_lower ho5 (below_size (zh_ HB.out))); have n1_ := zA_ (below_step (zh_ HB.out) hb); clear HB; have HO567 := n0_; have HB := n1_; clear n0_ n1_; clear hb ho5) | ((with_reducible refine gate_builtin (b := .append) (xs := #[.tmp 7, .tmp 8]) rfl ?_); at_builtin; refine Kd.R_append_rows Kd.string (w0 := w) w.heap.size rfl (.tmp 7) (.tmp 8) 27 9 (.string ⟨#[]⟩) 16 rfl Tryd.underlying27 info9 rfl (by decide) (by omega) v566 y565 l0 _ _ _ (fun _ => True) (fun _ => False) rfl rfl ?aO ?aR (fun _ _ h => h) (fun _ h => h.elim) ?aF ?aB ?aS ?aL ?_; (case aR => exact βJ); (case aB => exact (zh_ HB.out)); (case aF => exact (fun _ _ => trivial)); (case aO => exact (zr_ HO567.out)); (case aS => exact (below_size (zh_ HB.out))); (case aL => exact (by have := LMc3.out; omega)); intro v569 w6 ho hb hg hat; rw [← Ny568.out] at ho; have n0_ := zA_ (hb); have n1_ := zA_ (ho); clear HB HO567; have HB := n0_; have HO570 := n1_; clear n0_ n1_; clear ho hb hg hat))
   go_loopg [6] k (fun kq v6 w' => ∃ (x5_1 : List ByteArray) (x6_1 : Int), v6 = .int .i64 x6_1 ∧ Aside0 (spec_l07Apply.l0 kq l0 l1 x5_1 x6_1 = some r) ∧ Aside0 (kq ≤ k) ∧ Aside0 (Kd.R Kd.string 9 w' w.heap.size (fun _ => True) v569 x5_1) ∧ Aside0 (Below w.heap.size w w'))
   case atStart => exact ⟨(y568), (0), βya, H', ⟨Nat.le_refl _⟩, ⟨zr_ HO570.out⟩, ⟨zh_ HB.out⟩⟩
   case round =>
    clear H'
    try clear c1
    try clear p2
    try clear c3
    try clear c4
    obtain ⟨x5_1, x6_1, rfl, HA, HK1, HO_5, HB⟩ := hrel
    cases gk with
    | zero => exact absurd HA.out (by simp [spec_l07Apply.l0])
    | succ k1 =>
     have H := HA.out
     clear HA
     simp only [spec_l07Apply.l0] at H
     by_cases c7 : x6_1 < (l1.length : Int)
     · rw [if_pos c7] at H
       have c7b0 : decide (x6_1 < (l1.length : Int)) = true := decide_eq_true c7
       clear c7
       by_cases c8 : 0 ≤ x6_1
       · rw [if_pos c8] at H
         have c8b0 : decide (0 ≤ x6_1) = true := decide_eq_true c8
         clear c8
         by_cases c9 : ((rd_T42 l1 x6_1).f0) = 5
         · rw [if_pos c9] at H
           have c9b0 : (((rd_T42 l1 x6_1).f0) == 5) = true := beq_iff_eq.mpr c9
           have c9b1 : (((rd_T42 l1 x6_1).f0) != 5) = false := bne_eq_false_iff_eq.mpr c9
           clear c9
           have H' := zA_ H
           clear H
           have p571 : 0 ≤ (x6_1 : Int) := of_decide_eq_true βxa
           have q571 : x6_1 < (l1.length : Int) := of_decide_eq_true βxa
           obtain ⟨ad571, e571, hx571_0, hx571_1, hx571_2, hx571_3⟩ := at_T42 HR1.out x6_1 p571 q571
           cases e571
           replace hx571_0 := bc_ HB.out hx571_0
           replace hx571_1 := bc_ HB.out hx571_1
           replace hx571_2 := bc_ HB.out hx571_2
           replace hx571_3 := bc_ HB.out hx571_3
           replace p571 := eq_true p571
           replace q571 := eq_true q571
           go_wp2
           go_roundg k1
           case measure => have := HK1.out; omega
           case rel => exact ⟨(x5_1), (wrap64 (x6_1 + 1)), βya, H', ⟨βCa⟩, ⟨zr_ HO_5.out⟩, ⟨zh_ HB.out⟩⟩
         · rw [if_neg c9] at H
           have c9b0 : (((rd_T42 l1 x6_1).f0) == 5) = false := beq_eq_false_iff_ne.mpr c9
           have c9b1 : (((rd_T42 l1 x6_1).f0) != 5) = true := bne_iff_ne.mpr c9
           by_cases c10 : 0 ≤ ((rd_T42 l1 x6_1).f2)
           · rw [if_pos c10] at H
             have c10b0 : decide (0 ≤ ((rd_T42 l1 x6_1).f2)) = true := decide_eq_true c10
             clear c10
             by_cases c11 : ((rd_T42 l1 x6_1).f2) < (l0.length : Int)
             · rw [if_pos c11] at H
               have c11b0 : decide (((rd_T42 l1 x6_1).f2) < (l0.length : Int)) = true := decide_eq_true c11
               clear c11
               replace H := Option.bind_eq_some_iff.mp H
               obtain ⟨t576, A120, H⟩ := H
               replace H : (if 0 ≤ ((rd_T42 l1 x6_1).f1) then (if ((rd_T42 l1 x6_1).f1) < (x5_1.length : Int) then (spec_l07Apply.l0 k1 l0 l1 (x5_1.set (((rd_T42 l1 x6_1).f1) : Int).toNat t576) (wrap64 (x6_1 + 1))) else (none)) else (none)) = some r := H
               have A12 := zA_ A120
               clear A120
               by_cases c13 : 0 ≤ ((rd_T42 l1 x6_1).f1)
               · rw [if_pos c13] at H
                 have c13b0 : decide (0 ≤ ((rd_T42 l1 x6_1).f1)) = true := decide_eq_true c13
                 clear c13
                 by_cases c14 : ((rd_T42 l1 x6_1).f1) < (x5_1.length : Int)
                 · rw [if_pos c14] at H
                   have c14b0 : decide (((rd_T42 l1 x6_1).f1) < (x5_1.length : Int)) = true := decide_eq_true c14
                   clear c14
                   obtain ⟨y577, hy577⟩ : ∃ y_ : List ByteArray, y_ = (x5_1.set (((rd_T42 l1 x6_1).f1) : Int).toNat t576) := ⟨_, rfl⟩
                   replace H : (spec_l07Apply.l0 k1 l0 l1 y577 (wrap64 (x6_1 + 1))) = some r := by first | (rw [hy577]; with_reducible exact H) | (have H2_ := (Option.bind_some _ _).symm.trans H; rw [hy577]; with_reducible exact H2_) | (have H2_ := (Option.bind_some _ _).symm.trans H; with_reducible exact H2_) | with_reducible exact H | (rw [hy577]; exact H) | exact H
                   have Ny577 := zA_ hy577
                   clear hy577
                   have H' := zA_ H
                   clear H
                   have p571 : 0 ≤ (x6_1 : Int) := of_decide_eq_true βxa
                   have q571 : x6_1 < (l1.length : Int) := of_decide_eq_true βxa
                   obtain ⟨ad571, e571, hx571_0, hx571_1, hx571_2, hx571_3⟩ := at_T42 HR1.out x6_1 p571 q571
                   cases e571
                   replace hx571_0 := bc_ HB.out hx571_0
                   replace hx571_1 := bc_ HB.out hx571_1
                   replace hx571_2 := bc_ HB.out hx571_2
                   replace hx571_3 := bc_ HB.out hx571_3
                   replace p571 := eq_true p571
                   replace q571 := eq_true q571
                   try go_wp2
                   have n0_ := zA_ (Kd.R_drew HO_5.out)
                   have n1_ := zA_ (below_drew1 HB.out)
                   clear HO_5 HB
                   have HO_5 := n0_
                   have HB := n1_
                   clear n0_ n1_
                   have p572 : 0 ≤ (x6_1 : Int) := of_decide_eq_true βxa
                   have q572 : x6_1 < (l1.length : Int) := of_decide_eq_true βxa
                   obtain ⟨ad572, e572, hx572_0, hx572_1, hx572_2, hx572_3⟩ := at_T42 HR1.out x6_1 p572 q572
                   have hw572_3 := hx572_3
                   have hw572_2 := hx572_2
                   have hw572_1 := hx572_1
                   have hw572_0 := hx572_0
                   obtain rfl : ad571 = ad572 := (by injection e572)
                   replace hx572_0 := bc_ HB.out hx572_0
                   replace hx572_1 := bc_ HB.out hx572_1
                   replace hx572_2 := bc_ HB.out hx572_2
                   replace hx572_3 := bc_ HB.out hx572_3
                   replace p572 := eq_true p572
                   replace q572 := eq_true q572
                   have p573 : 0 ≤ (x6_1 : Int) := of_decide_eq_true βxa
                   have q573 : x6_1 < (l1.length : Int) := of_decide_eq_true βxa
                   obtain ⟨ad573, e573, hx573_0, hx573_1, hx573_2, hx573_3⟩ := at_T42 HR1.out x6_1 p573 q573
                   have hw573_3 := hx573_3
                   have hw573_2 := hx573_2
                   have hw573_1 := hx573_1
                   have hw573_0 := hx573_0
                   obtain rfl : ad571 = ad573 := (by injection e573)
                   replace hx573_0 := bc_ HB.out hx573_0
                   replace hx573_1 := bc_ HB.out hx573_1
                   replace hx573_2 := bc_ HB.out hx573_2
                   replace hx573_3 := bc_ HB.out hx573_3
                   replace p573 := eq_true p573
                   replace q573 := eq_true q573
                   have p574 : 0 ≤ (x6_1 : Int) := of_decide_eq_true βxa
                   have q574 : x6_1 < (l1.length : Int) := of_decide_eq_true βxa
                   obtain ⟨ad574, e574, hx574_0, hx574_1, hx574_2, hx574_3⟩ := at_T42 HR1.out x6_1 p574 q574
                   have hw574_3 := hx574_3
                   have hw574_2 := hx574_2
                   have hw574_1 := hx574_1
                   have hw574_0 := hx574_0
                   obtain rfl : ad571 = ad574 := (by injection e574)
                   replace hx574_0 := bc_ HB.out hx574_0
                   replace hx574_1 := bc_ HB.out hx574_1
                   replace hx574_2 := bc_ HB.out hx574_2
                   replace hx574_3 := bc_ HB.out hx574_3
                   replace p574 := eq_true p574
                   replace q574 := eq_true q574
                   have p575 : 0 ≤ (((rd_T42 l1 x6_1).f2) : Int) := of_decide_eq_true βxa
                   have q575 : ((rd_T42 l1 x6_1).f2) < (l0.length : Int) := of_decide_eq_true βxa
                   obtain ⟨ad575, e575, hx575_0⟩ := Kd.at_string HR0.out ((rd_T42 l1 x6_1).f2) p575 q575
                   have hw575_0 := hx575_0
                   cases e575
                   replace hx575_0 := bc_ HB.out hx575_0
                   replace p575 := eq_true p575
                   replace q575 := eq_true q575
                   refine start_ (n := 21) (S := fun w' => w'.cell? (ad571.add ((x6_1).toNat * 4)) = some (.int .i64 ((rd_T42 l1 x6_1).f0)) ∧ w'.cell? ⟨(ad571.add ((x6_1).toNat * 4)).block, (ad571.add ((x6_1).toNat * 4)).off + 1, none⟩ = some (.int .i64 ((rd_T42 l1 x6_1).f1)) ∧ w'.cell? ⟨(ad571.add ((x6_1).toNat * 4)).block, (ad571.add ((x6_1).toNat * 4)).off + 2, none⟩ = some (.int .i64 ((rd_T42 l1 x6_1).f2)) ∧ w'.cell? ⟨(ad571.add ((x6_1).toNat * 4)).block, (ad571.add ((x6_1).toNat * 4)).off + 3, none⟩ = some (.string ((rd_T42 l1 x6_1).f3)) ∧ w'.cell? (ad571.add ((x6_1).toNat * 4)) = some (.int .i64 ((rd_T42 l1 x6_1).f0)) ∧ w'.cell? ⟨(ad571.add ((x6_1).toNat * 4)).block, (ad571.add ((x6_1).toNat * 4)).off + 1, none⟩ = some (.int .i64 ((rd_T42 l1 x6_1).f1)) ∧ w'.cell? ⟨(ad571.add ((x6_1).toNat * 4)).block, (ad571.add ((x6_1).toNat * 4)).off + 2, none⟩ = some (.int .i64 ((rd_T42 l1 x6_1).f2)) ∧ w'.cell? ⟨(ad571.add ((x6_1).toNat * 4)).block, (ad571.add ((x6_1).toNat * 4)).off + 3, none⟩ = some (.string ((rd_T42 l1 x6_1).f3)) ∧ w'.cell? (ad571.add ((x6_1).toNat * 4)) = some (.int .i64 ((rd_T42 l1 x6_1).f0)) ∧ w'.cell? ⟨(ad571.add ((x6_1).toNat * 4)).block, (ad571.add ((x6_1).toNat * 4)).off + 1, none⟩ = some (.int .i64 ((rd_T42 l1 x6_1).f1)) ∧ w'.cell? ⟨(ad571.add ((x6_1).toNat * 4)).block, (ad571.add ((x6_1).toNat * 4)).off + 2, none⟩ = some (.int .i64 ((rd_T42 l1 x6_1).f2)) ∧ w'.cell? ⟨(ad571.add ((x6_1).toNat * 4)).block, (ad571.add ((x6_1).toNat * 4)).off + 3, none⟩ = some (.string ((rd_T42 l1 x6_1).f3)) ∧ w'.cell? (ad575.add (((rd_T42 l1 x6_1).f2)).toNat) = some (.string (rdOf ByteArray.empty l0 ((rd_T42 l1 x6_1).f2)))) (ds := [20]) (mr_ [0, 21]) βDa rfl rfl ⟨(bc_ HB.out hw572_0), (bc_ HB.out hw572_1), (bc_ HB.out hw572_2), (bc_ HB.out hw572_3), (bc_ HB.out hw573_0), (bc_ HB.out hw573_1), (bc_ HB.out hw573_2), (bc_ HB.out hw573_3), (bc_ HB.out hw574_0), (bc_ HB.out hw574_1), (bc_ HB.out hw574_2), (bc_ HB.out hw574_3), (bc_ HB.out hw575_0)⟩ (fun hHeld => ?_); refine with_tabW spec_l07Apply.tab6 spec_l07Apply.bits6 (fun HT_ HW_ => ?_)
                   generalize wr.drew = w16 at HO_5 HB hx572_0 hx572_1 hx572_2 hx572_3 hx573_0 hx573_1 hx573_2 hx573_3 hx574_0 hx574_1 hx574_2 hx574_3 hx575_0 hHeld ⊢
                   refine pure_ (i := 0) (N := some 22) (v := ?_) (a' := ?_) (mr_ [1, 20]) rfl rfl (any_of HT_.out βDa) (fun _ _ _ h => h) (Or.inl ⟨(by rfl), ?_⟩) ?_ ?_
                   rotate_left; exact pv_; rotate_left; exact pp_
                   refine pure_ (i := 1) (N := some 23) (v := ?_) (a' := ?_) (mr_ [2, 19]) rfl rfl (any_of HT_.out βDa) (fun _ _ _ h => h) (Or.inl ⟨(by rfl), ?_⟩) ?_ ?_
                   rotate_left; exact pv_; rotate_left; exact pp_
                   refine pure_ (i := 2) (N := some 24) (v := ?_) (a' := ?_) (mr_ [3, 18]) rfl rfl (any_of HT_.out βDa) (fun _ _ _ h => h) (Or.inl ⟨(by rfl), ?_⟩) ?_ ?_
                   rotate_left; exact pv_; rotate_left; exact pp_
                   refine pure_ (i := 3) (N := some 25) (v := ?_) (a' := ?_) (mr_ [4, 17]) rfl rfl (any_of HT_.out βDa) (fun _ _ _ h => h) (Or.inl ⟨(by rfl), ?_⟩) ?_ ?_
                   rotate_left; exact pv_; rotate_left; exact pp_
                   refine pure_ (i := 4) (N := some 26) (v := ?_) (a' := ?_) (mr_ [5, 16]) rfl rfl (any_of HT_.out βDa) (fun _ _ _ h => h) (Or.inl ⟨(by rfl), ?_⟩) ?_ ?_
                   rotate_left; exact pv_; rotate_left; exact pp_
                   refine pure_ (i := 6) (N := some 28) (v := ?_) (a' := ?_) (mr_ [5, 1, 1, 14]) rfl rfl (any_of HT_.out βDa) (fun _ _ _ h => h) (Or.inl ⟨(by rfl), ?_⟩) ?_ ?_
                   rotate_left; exact pv_; rotate_left; exact pp_
                   refine pure_ (i := 7) (N := some 29) (v := ?_) (a' := ?_) (mr_ [5, 1, 2, 13]) rfl rfl (any_of HT_.out βDa) (fun _ _ _ h => h) (Or.inl ⟨(by rfl), ?_⟩) ?_ ?_
                   rotate_left; exact pv_; rotate_left; exact pp_
                   refine pure_ (i := 8) (N := some 30) (v := ?_) (a' := ?_) (mr_ [5, 1, 3, 12]) rfl rfl (any_of HT_.out βDa) (fun _ _ _ h => h) (Or.inl ⟨(by rfl), ?_⟩) ?_ ?_
                   rotate_left; exact pv_; rotate_left; exact pp_
                   refine pure_ (i := 10) (N := some 32) (v := ?_) (a' := ?_) (mr_ [5, 1, 3, 1, 1, 10]) rfl rfl (any_of HT_.out βDa) (fun _ _ _ h => h) (Or.inl ⟨(by rfl), ?_⟩) ?_ ?_
                   rotate_left; exact pv_; rotate_left; exact pp_
                   refine pure_ (i := 11) (N := some 33) (v := ?_) (a' := ?_) (mr_ [5, 1, 3, 1, 2, 9]) rfl rfl (any_of HT_.out βDa) (fun _ _ _ h => h) (Or.inl ⟨(by rfl), ?_⟩) ?_ ?_
                   rotate_left; exact pv_; rotate_left; exact pp_
                   refine pure_ (i := 12) (N := some 34) (v := ?_) (a' := ?_) (mr_ [5, 1, 3, 1, 3, 8]) rfl rfl (any_of HT_.out βDa) (fun _ _ _ h => h) (Or.inl ⟨(by rfl), ?_⟩) ?_ ?_
                   rotate_left; exact pv_; rotate_left; exact pp_
                   refine pure_ (i := 13) (N := some 35) (v := ?_) (a' := ?_) (mr_ [5, 1, 3, 1, 4, 7]) rfl rfl (any_of HT_.out βDa) (fun _ _ _ h => h) (Or.inl ⟨(by rfl), ?_⟩) ?_ ?_
                   rotate_left; exact pv_; rotate_left; exact pp_
                   refine pure_ (i := 14) (N := some 36) (v := ?_) (a' := ?_) (mr_ [5, 1, 3, 1, 5, 6]) rfl rfl (any_of HT_.out βDa) (fun _ _ _ h => h) (Or.inl ⟨(by rfl), ?_⟩) ?_ ?_
                   rotate_left; exact pv_; rotate_left; exact pp_
                   refine take_ (i := 5) (N := some 27) (v := ?_) (a' := ?_) (mr_ [9, 1, 5, 6]) rfl rfl (take_ofW HT_.out HW_.out βDa) (fun _ _ _ h => h) (Or.inl ⟨(by rfl), ?_⟩) hHeld ?_ ?_
                   rotate_left
                   · rintro w' ⟨s0, s1, s2, s3, s4, s5, s6, s7, s8, s9, s10, s11, s12⟩
                     go_simp
                     with_reducible rfl
                   rotate_left
                   exact pp_
                   refine take_ (i := 9) (N := some 31) (v := ?_) (a' := ?_) (mr_ [15, 6]) rfl rfl (take_ofW HT_.out HW_.out βDa) (fun _ _ _ h => h) (Or.inl ⟨(by rfl), ?_⟩) hHeld ?_ ?_
                   rotate_left
                   · rintro w' ⟨s0, s1, s2, s3, s4, s5, s6, s7, s8, s9, s10, s11, s12⟩
                     go_simp
                     with_reducible rfl
                   rotate_left
                   exact pp_
                   refine take_ (i := 15) (N := some 37) (v := ?_) (a' := ?_) (mr_ [16, 5]) rfl rfl (take_ofW HT_.out HW_.out βDa) (fun _ _ _ h => h) (Or.inl ⟨(by rfl), ?_⟩) hHeld ?_ ?_
                   rotate_left
                   · rintro w' ⟨s0, s1, s2, s3, s4, s5, s6, s7, s8, s9, s10, s11, s12⟩
                     go_simp
                     with_reducible rfl
                   rotate_left
                   exact pp_
                   refine pure_ (i := 16) (N := some 38) (v := ?_) (a' := ?_) (mr_ [17, 4]) rfl rfl (any_of HT_.out βDa) (fun _ _ _ h => h) (Or.inl ⟨(by rfl), ?_⟩) ?_ ?_
                   rotate_left; exact pv_; rotate_left; exact pp_
                   refine take_ (i := 17) (N := some 39) (v := ?_) (a' := ?_) (mr_ [18, 3]) rfl rfl (take_ofW HT_.out HW_.out βDa) (fun _ _ _ h => h) (Or.inl ⟨(by rfl), ?_⟩) hHeld ?_ ?_
                   rotate_left
                   · rintro w' ⟨s0, s1, s2, s3, s4, s5, s6, s7, s8, s9, s10, s11, s12⟩
                     go_simp
                     with_reducible rfl
                   rotate_left
                   exact pp_
                   refine one_ (i := 18) (N := some 40) (mr_ [19, 2]) rfl rfl (one_of HT_.out βDa) (by decide) (fun K hK => ?_)
                   refine goes_ Tryd.func53 βDa rfl #[.agg #[.int .i64 ((rd_T42 l1 x6_1).f0), .int .i64 ((rd_T42 l1 x6_1).f1), .int .i64 ((rd_T42 l1 x6_1).f2), .string ((rd_T42 l1 x6_1).f3)], .string (rdOf ByteArray.empty l0 ((rd_T42 l1 x6_1).f2))] (by rfl) rfl rfl zs_ ?_
                   with_reducible refine (spec_l07Make.calls k1 ((rd_T42 l1 x6_1).f0) ((rd_T42 l1 x6_1).f1) ((rd_T42 l1 x6_1).f2) ((rd_T42 l1 x6_1).f3) (rdOf ByteArray.empty l0 ((rd_T42 l1 x6_1).f2)) t576 _ A12.out).mono ?_
                   rintro e w17 ⟨rfl, hb⟩
                   refine ⟨_, rfl, ?_⟩
                   have n0_ := zA_ (Kd.R_below (zr_ HO_5.out) hb)
                   have n1_ := zA_ (below_step (zh_ HB.out) hb)
                   clear HO_5 HB
                   have HO_5 := n0_
                   have HB := n1_
                   clear n0_ n1_
                   (try clear hb)
                   (try clear hb2)
                   (try clear hk)
                   (try clear hi)
                   have p15 : 0 ≤ (((rd_T42 l1 x6_1).f1) : Int) := of_decide_eq_true βxa
                   have q15 : (((rd_T42 l1 x6_1).f1) : Int) < ((x5_1.length : Int) : Int) := of_decide_eq_true βxa
                   obtain ⟨go15, co15, eo15, gb15, gl15, cl15, HG15⟩ := Kd.R_form HO_5.out (by omega)
                   (first | cases eo15 | (injection eo15 with ea_ en_ ec_; (first | subst ea_ | (injection ea_ with ea_; subst ea_)); subst ec_; clear en_))
                   have GB15 := zA_ gb15
                   have GG15 := zA_ HG15
                   clear gb15 gl15 HG15
                   obtain ⟨hx15_0, hf15_0⟩ := Kd.R_celln (⟨#[]⟩ : ByteArray) HO_5.out (((rd_T42 l1 x6_1).f1) : Int) p15 q15
                   replace p15 := eq_true p15
                   replace q15 := eq_true q15
                   have HP18 := Kd.R_putn HO_5.out (((rd_T42 l1 x6_1).f1) : Int) t576
                   rw [← Ny577.out] at HP18
                   have HQ18 := zA_ HP18
                   clear HP18
                   refine hK.out _ _ ⟨(bc_ HB.out hw572_0), (bc_ HB.out hw572_1), (bc_ HB.out hw572_2), (bc_ HB.out hw572_3), (bc_ HB.out hw573_0), (bc_ HB.out hw573_1), (bc_ HB.out hw573_2), (bc_ HB.out hw573_3), (bc_ HB.out hw574_0), (bc_ HB.out hw574_1), (bc_ HB.out hw574_2), (bc_ HB.out hw574_3), (bc_ HB.out hw575_0)⟩ (fun hHeld => ?_)
                   clear hK K
                   refine norm_ (a' := ?_) ?_ ?_
                   rotate_left
                   · show Act.put _ (some 40) _ = _
                     simp only [Act.put, List.setIfInBounds_toArray, List.set_cons_zero, List.set_cons_succ, i64_w, i32_w]
                     rfl
                   refine pure_ (i := 19) (N := some 41) (v := ?_) (a' := ?_) (mr_ [20, 1]) rfl rfl (any_of HT_.out βDa) (fun _ _ _ h => h) (Or.inl ⟨(by rfl), ?_⟩) ?_ ?_
                   rotate_left; exact pv_; rotate_left; exact pp_
                   refine last_ (i := 20) (N := none) (mr_ [21]) rfl rfl (one_of HT_.out βDa) (by decide) (fun K hK => ?_)
                   refine skip_ (w1 := ?_) (by rfl) rfl ?_ ?_
                   rotate_left
                   · go_simp
                     rfl
                   refine hK.out _ _ ?_
                   clear hK K
                   refine done_ (done_of HT_.out βDa) ?_
                   try go_wp2
                   go_roundg k1
                   case measure => have := HK1.out; omega
                   case rel => exact ⟨(y577), (wrap64 (x6_1 + 1)), βya, H', ⟨βCa⟩, ⟨zr_ HQ18.out⟩, ⟨zg1_ HB.out GB15.out⟩⟩
                 · rw [if_neg c14] at H
                   exact absurd H (by simp)
               · rw [if_neg c13] at H
                 exact absurd H (by simp)
             · rw [if_neg c11] at H
               exact absurd H (by simp)
           · rw [if_neg c10] at H
             exact absurd H (by simp)
       · rw [if_neg c8] at H
         exact absurd H (by simp)
     · rw [if_neg c7] at H
       have c7b0 : decide (x6_1 < (l1.length : Int)) = false := decide_eq_false c7
       clear c7
       obtain rfl := Option.some.inj H
       go_wp2
       go_ret
       exact ⟨_, βsa, βpa, βoa⟩
 · rw [if_neg c3] at H
   exact absurd H (by simp)
def spec_ImageApply.j0 : Nat → List ByteArray → List (S42) → Bool → Option (List ByteArray × Int)
 | 0, _, _, _ => none
 | k + 1, x0, x1, x13 => if x13 = true then ((spec_l07Ill.f 2).bind fun bt579 => (some (bt579.1, bt579.2))) else ((spec_ImageRight.f k x0).bind fun t583 => (if t583 = true then ((spec_StepsCode.f k x1 (x0.length : Int)).bind fun t588 => (if t588 = 0 then ((spec_l07Apply.f k x0 x1).bind fun t589 => (some (t589, 0))) else ((spec_l07Ill.f t588).bind fun bt592 => (some (bt592.1, bt592.2))))) else ((spec_l07Ill.f 1).bind fun bt584 => (some (bt584.1, bt584.2)))))
def spec_ImageApply.f (k : Nat) (l0 : List ByteArray) (l1 : List (S42)) : Option (List ByteArray × Int) := if (l0.length : Int) > 400 then (spec_ImageApply.j0 k l0 l1 true) else (spec_ImageApply.j0 k l0 l1 (decide ((l1.length : Int) > 400)))
theorem spec_ImageApply.calls (k : Nat) (A0 : Option Addr) (c0 : Nat) (l0 : List ByteArray) (A1 : Option Addr) (c1 : Nat) (l1 : List (S42)) (r1 : List ByteArray) (r2 : Int) (w : World) (hr0 : Kd.C Kd.string w A0 l0.length l0) (hc0 : l0.length ≤ c0) (hr1 : Kd.C k42 w A1 l1.length l1) (hc1 : l1.length ≤ c1) (h : spec_ImageApply.f k l0 l1 = some (r1, r2)) :
 Calls Tryd.prog 21 #[.slice A0 l0.length c0, .slice A1 l1.length c1] w fun e w' => ∃ v0_ : Value, e = .returned (.agg #[v0_, .int .i64 r2]) ∧ Kd.R Kd.string 9 w' w.heap.size (fun _ => True) v0_ r1 ∧ Below w.heap.size w w' := by
 have hu37 := Tryd.underlying37
 have HR0 := zA_ hr0
 have HC0 := zA_ hc0
 clear hr0 hc0
 have HR1 := zA_ hr1
 have HC1 := zA_ hc1
 clear hr1 hc1
 have HB := zA_ (Below.refl w.heap.size w)
 have H : (if (l0.length : Int) > 400 then (spec_ImageApply.j0 k l0 l1 true) else (spec_ImageApply.j0 k l0 l1 (decide ((l1.length : Int) > 400)))) = some (r1, r2) := h
 clear h
 have HC3 := zA_ H
 clear H
 go_enter Tryd.func21, Tryd.ntmps21
 go_upto_region 1 with (first | ((with_reducible refine gate_dst (N := 4) rfl ?_); (try (refine gate_guard (by rfl) ?_; dsimp only)); refine box_event ?hg (N := 4) ?hd (cs := #[.slice none 0 0, .int .i64 0]) (t := 37) ?hr ?_; (case hd => exact (by rfl)); (case hg => exact (by rfl)); (case hr => exact βAa); intro gb578 hg w4 hbox hb; have n0_ := zA_ (below_step (zh_ HB.out) hb); have n1_ := zA_ (hbox); have n2_ := zA_ ((by rw [hg]; exact (below_size (zh_ HB.out)) : w.heap.size ≤ gb578)); have n3_ := zA_ ((by rw [hg]; exact (below_size (zh_ HB.out)) : w.heap.size ≤ gb578)); clear HB; have HB := n0_; have BK578 := n1_; have GW578 := n2_; have GE578 := n3_; clear n0_ n1_ n2_ n3_; clear hb hbox hg))
 (try simp only [Act.put, List.setIfInBounds_toArray, List.set_cons_zero, List.set_cons_succ])
 go_cut [13] (fun v13 wc => ∃ (kq : Nat) (x13_2 : Bool), v13 = .bool x13_2 ∧ Aside0 (spec_ImageApply.j0 kq l0 l1 x13_2 = some (r1, r2)) ∧ Aside0 (kq ≤ k) ∧ Aside0 (wc.heap[gb578]? = some (.cells #[(.slice none 0 0), .int .i64 0] 37 (0, 0))) ∧ Aside0 (Below w.heap.size w wc))
 case first =>
  have H := HC3.out
  clear HC3
  by_cases c5 : (l0.length : Int) > 400
  · rw [if_pos c5] at H
    have c5b0 : decide (400 < (l0.length : Int)) = true := decide_eq_true c5
    have c5b1 : decide (400 < l0.length) = true := decide_eq_true (by omega)
    clear c5
    (first | rw [c5b0] | (simp only [i64_w, i32_w]; rw [c5b0]) | skip)
    have H' := zA_ H
    clear H
    go_wp2
    go_meet
    case rel => exact ⟨_, (true), βya, H', ⟨βBa⟩, ⟨zb_ BK578.out⟩, ⟨zg1_ HB.out GE578.out⟩⟩
  · rw [if_neg c5] at H
    have c5b0 : decide (400 < (l0.length : Int)) = false := decide_eq_false c5
    have c5b1 : decide (400 < l0.length) = false := decide_eq_false (by omega)
    clear c5
    (first | rw [c5b0] | (simp only [i64_w, i32_w]; rw [c5b0]) | skip)
    have H' := zA_ H
    clear H
    go_wp2
    go_meet
    case rel => exact ⟨_, (decide ((l1.length : Int) > 400)), βya, H', ⟨βBa⟩, ⟨zb_ BK578.out⟩, ⟨zg1_ HB.out GE578.out⟩⟩
 case rest =>
  clear HC3
  try clear c1
  try clear c2
  try clear p2
  try clear c5
  try clear c5b0
  try clear c5b1
  obtain ⟨kq, x13_2, rfl, HA, HJ2, BK578, HB⟩ := hcut
  cases kq with
  | zero => exact absurd HA.out (by simp [spec_ImageApply.j0])
  | succ kj2 =>
   have H := HA.out
   clear HA
   simp only [spec_ImageApply.j0] at H
   by_cases c6 : x13_2 = true
   · subst c6
     have H1 : ((spec_l07Ill.f 2).bind fun bt579 => (some (bt579.1, bt579.2))) = some (r1, r2) := by rw [if_pos rfl] at H; exact H
     clear H
     have H := H1
     clear H1
     replace H := Option.bind_eq_some_iff.mp H
     obtain ⟨⟨t579, t582⟩, A70, H⟩ := H
     replace H : (some (t579, t582)) = some (r1, r2) := H
     have A7 := zA_ A70
     clear A70
     simp only [Option.some.injEq, Prod.mk.injEq] at H
     obtain ⟨rfl, rfl⟩ := H
     go_wp2_with (first | ((with_reducible refine gate_callee (f := 46) rfl ?_); refine goesL_ (some 14) rfl rfl Tryd.func46 βDa rfl #[.int .i64 2] rfl zs_ ?_; (with_reducible refine (spec_l07Ill.calls 2 t579 t582 _ A7.out).mono ?_); rintro e w8 ⟨v580, rfl, ho0, hb⟩; refine ⟨_, rfl, ?_⟩; have n0_ := zA_ (Kd.R_lower ho0 (below_size (zg1_ HB.out GE578.out))); have n1_ := zA_ (blk_below (g := gb578) (o := .cells #[.slice none 0 0, .int .i64 0] 37 (0, 0)) (zb_ BK578.out) hb); have n2_ := zA_ (below_step (zg1_ HB.out GE578.out) hb); clear BK578 HB; have HO581 := n0_; have BK578 := n1_; have HB := n2_; clear n0_ n1_ n2_; (try clear hb); (try clear hb2); (try clear hk); (try clear hi); (try clear ho0); obtain ⟨Ao9, co9, eo9⟩ := Kd.R_slice HO581.out; subst eo9; have hcz10_0 := cz_ BK578.out 0 (.slice none 0 0) rfl; have hcz10_1 := cz_ BK578.out 1 (.int .i64 0) rfl; have hfz10_0 := blk_frozen BK578.out 0; have hfz10_1 := blk_frozen BK578.out 1))
     refine bodyPost_ret (results_cell_row rfl _ _ gb578 37 #[.slice Ao9 t579.length co9, .int .i64 t582] (0, 0) _ rfl (by (with_reducible repeat (first | refine blk_drewN ?_ _ | refine blk_drew ?_ | refine blk_alloc ?_ _)); refine blk_put (cs := #[.slice Ao9 t579.length co9, .int .i64 0]) ?_ 1 _ rfl; (with_reducible repeat (first | refine blk_drewN ?_ _ | refine blk_drew ?_ | refine blk_alloc ?_ _)); refine blk_put (cs := #[.slice none 0 0, .int .i64 0]) ?_ 0 _ rfl; (with_reducible repeat (first | refine blk_drewN ?_ _ | refine blk_drew ?_ | refine blk_alloc ?_ _)); exact BK578.out) Tryd.underlying37 rfl βDa) rfl ?_
     exact ⟨_, βsa, (by (with_reducible repeat (first | apply Kd.R_alloc | apply Kd.R_drewN | apply Kd.R_drew)); exact Kd.R_mono (Kd.R_far (p := ⟨gb578, 1, none⟩) (Kd.R_far (p := ⟨gb578, 0, none⟩) (Kd.R_types HO581.out BK578.out (by decide)) (fun _ hk => hk.2) (.slice Ao9 t579.length co9)) (fun _ hk => hk.2) (.int .i64 t582)) (fun _ hk => trivial)), βW⟩
   · replace c6 := Bool.eq_false_iff.mpr c6
     subst c6
     have H1 : ((spec_ImageRight.f kj2 l0).bind fun t583 => (if t583 = true then ((spec_StepsCode.f kj2 l1 (l0.length : Int)).bind fun t588 => (if t588 = 0 then ((spec_l07Apply.f kj2 l0 l1).bind fun t589 => (some (t589, 0))) else ((spec_l07Ill.f t588).bind fun bt592 => (some (bt592.1, bt592.2))))) else ((spec_l07Ill.f 1).bind fun bt584 => (some (bt584.1, bt584.2))))) = some (r1, r2) := by rw [if_neg (show ¬ (false = true) by decide)] at H; exact H
     clear H
     have H := H1
     clear H1
     replace H := Option.bind_eq_some_iff.mp H
     obtain ⟨t583, A110, H⟩ := H
     replace H : (if t583 = true then ((spec_StepsCode.f kj2 l1 (l0.length : Int)).bind fun t588 => (if t588 = 0 then ((spec_l07Apply.f kj2 l0 l1).bind fun t589 => (some (t589, 0))) else ((spec_l07Ill.f t588).bind fun bt592 => (some (bt592.1, bt592.2))))) else ((spec_l07Ill.f 1).bind fun bt584 => (some (bt584.1, bt584.2)))) = some (r1, r2) := H
     have A11 := zA_ A110
     clear A110
     by_cases c12 : t583 = true
     · subst c12
       have H1 : ((spec_StepsCode.f kj2 l1 (l0.length : Int)).bind fun t588 => (if t588 = 0 then ((spec_l07Apply.f kj2 l0 l1).bind fun t589 => (some (t589, 0))) else ((spec_l07Ill.f t588).bind fun bt592 => (some (bt592.1, bt592.2))))) = some (r1, r2) := by rw [if_pos rfl] at H; exact H
       clear H
       have H := H1
       clear H1
       replace H := Option.bind_eq_some_iff.mp H
       obtain ⟨t588, A130, H⟩ := H
       replace H : (if t588 = 0 then ((spec_l07Apply.f kj2 l0 l1).bind fun t589 => (some (t589, 0))) else ((spec_l07Ill.f t588).bind fun bt592 => (some (bt592.1, bt592.2)))) = some (r1, r2) := H
       have A13 := zA_ A130
       clear A130
       by_cases c14 : t588 = 0
       · rw [if_pos c14] at H
         have c14b0 : (t588 == 0) = true := beq_iff_eq.mpr c14
         have c14b1 : (t588 != 0) = false := bne_eq_false_iff_eq.mpr c14
         clear c14
         replace H := Option.bind_eq_some_iff.mp H
         obtain ⟨t589, A150, H⟩ := H
         replace H : (some (t589, 0)) = some (r1, r2) := H
         have A15 := zA_ A150
         clear A150
         simp only [Option.some.injEq, Prod.mk.injEq] at H
         obtain ⟨rfl, rfl⟩ := H
         go_wp2_with (first | ((with_reducible refine gate_callee (f := 27) rfl ?_); refine goesL_ (some 16) rfl rfl Tryd.func27 βDa rfl #[.slice A0 l0.length c0] rfl zs_ ?_; (with_reducible refine (spec_ImageRight.calls kj2 _ _ l0 true _ ?side1 ?side2 A11.out).mono ?_); (case side1 => exact zc_ (Kd.C_below HR0.out HB.out)); (case side2 => exact HC0.out); rintro e w' ⟨rfl, ⟨nd, rfl⟩⟩; refine ⟨_, rfl, ?_⟩; (try (rw [drewN_self wc]; generalize hq_ : World.drewN wc _ = wc; have n0_ : Aside0 (wc.heap[gb578]? = some (.cells #[.slice none 0 0, .int .i64 0] 37 (0, 0))) := ⟨(by rw [← hq_]; exact (zb_ BK578.out))⟩; have n1_ : Aside0 (Below w.heap.size w wc) := ⟨(by rw [← hq_]; exact (zg1_ HB.out GE578.out))⟩; clear BK578 HB hq_; have BK578 := n0_; have HB := n1_; clear n0_ n1_))) | ((with_reducible refine gate_callee (f := 47) rfl ?_); refine goesL_ (some 22) rfl rfl Tryd.func47 βDa rfl #[.slice A1 l1.length c1, .int .i64 (l0.length : Int)] rfl zs_ ?_; (with_reducible refine (spec_StepsCode.calls kj2 _ _ l1 (l0.length : Int) t588 _ ?side1 ?side2 A13.out).mono ?_); (case side1 => exact zc_ (Kd.C_below HR1.out HB.out)); (case side2 => exact HC1.out); rintro e w16 ⟨rfl, hb⟩; refine ⟨_, rfl, ?_⟩; have n0_ := zA_ (blk_below (g := gb578) (o := .cells #[.slice none 0 0, .int .i64 0] 37 (0, 0)) (zb_ BK578.out) hb); have n1_ := zA_ (below_step (zg1_ HB.out GE578.out) hb); clear BK578 HB; have BK578 := n0_; have HB := n1_; clear n0_ n1_; (try clear hb); (try clear hb2); (try clear hk); (try clear hi)) | ((with_reducible refine gate_callee (f := 48) rfl ?_); refine goesL_ (some 29) rfl rfl Tryd.func48 βDa rfl #[.slice A0 l0.length c0, .slice A1 l1.length c1] rfl zs_ ?_; (with_reducible refine (spec_l07Apply.calls kj2 _ _ l0 _ _ l1 t589 _ ?side1 ?side2 ?side3 ?side4 A15.out).mono ?_); (case side1 => exact zc_ (Kd.C_below HR0.out HB.out)); (case side2 => exact HC0.out); (case side3 => exact zc_ (Kd.C_below HR1.out HB.out)); (case side4 => exact HC1.out); rintro e w17 ⟨v590, rfl, ho0, hb⟩; refine ⟨_, rfl, ?_⟩; have n0_ := zA_ (Kd.R_lower ho0 (below_size (zg1_ HB.out GE578.out))); have n1_ := zA_ (blk_below (g := gb578) (o := .cells #[.slice none 0 0, .int .i64 0] 37 (0, 0)) (zb_ BK578.out) hb); have n2_ := zA_ (below_step (zg1_ HB.out GE578.out) hb); clear BK578 HB; have HO591 := n0_; have BK578 := n1_; have HB := n2_; clear n0_ n1_ n2_; (try clear hb); (try clear hb2); (try clear hk); (try clear hi); (try clear ho0); obtain ⟨Ao18, co18, eo18⟩ := Kd.R_slice HO591.out; subst eo18; have hcz19_0 := cz_ BK578.out 0 (.slice none 0 0) rfl; have hcz19_1 := cz_ BK578.out 1 (.int .i64 0) rfl; have hfz19_0 := blk_frozen BK578.out 0; have hfz19_1 := blk_frozen BK578.out 1))
         refine bodyPost_ret (results_cell_row rfl _ _ gb578 37 #[.slice Ao18 t589.length co18, .int .i64 0] (0, 0) _ rfl (by (with_reducible repeat (first | refine blk_drewN ?_ _ | refine blk_drew ?_ | refine blk_alloc ?_ _)); refine blk_put (cs := #[.slice Ao18 t589.length co18, .int .i64 0]) ?_ 1 _ rfl; (with_reducible repeat (first | refine blk_drewN ?_ _ | refine blk_drew ?_ | refine blk_alloc ?_ _)); refine blk_put (cs := #[.slice none 0 0, .int .i64 0]) ?_ 0 _ rfl; (with_reducible repeat (first | refine blk_drewN ?_ _ | refine blk_drew ?_ | refine blk_alloc ?_ _)); exact BK578.out) Tryd.underlying37 rfl βDa) rfl ?_
         exact ⟨_, βsa, (by (with_reducible repeat (first | apply Kd.R_alloc | apply Kd.R_drewN | apply Kd.R_drew)); exact Kd.R_mono (Kd.R_far (p := ⟨gb578, 1, none⟩) (Kd.R_far (p := ⟨gb578, 0, none⟩) (Kd.R_types HO591.out BK578.out (by decide)) (fun _ hk => hk.2) (.slice Ao18 t589.length co18)) (fun _ hk => hk.2) (.int .i64 0)) (fun _ hk => trivial)), βW⟩
       · rw [if_neg c14] at H
         have c14b0 : (t588 == 0) = false := beq_eq_false_iff_ne.mpr c14
         have c14b1 : (t588 != 0) = true := bne_iff_ne.mpr c14
         replace H := Option.bind_eq_some_iff.mp H
         obtain ⟨⟨t592, t595⟩, A200, H⟩ := H
         replace H : (some (t592, t595)) = some (r1, r2) := H
         have A20 := zA_ A200
         clear A200
         simp only [Option.some.injEq, Prod.mk.injEq] at H
         obtain ⟨rfl, rfl⟩ := H
         go_wp2_with (first | ((with_reducible refine gate_callee (f := 27) rfl ?_); refine goesL_ (some 16) rfl rfl Tryd.func27 βDa rfl #[.slice A0 l0.length c0] rfl zs_ ?_; (with_reducible refine (spec_ImageRight.calls kj2 _ _ l0 true _ ?side1 ?side2 A11.out).mono ?_); (case side1 => exact zc_ (Kd.C_below HR0.out HB.out)); (case side2 => exact HC0.out); rintro e w' ⟨rfl, ⟨nd, rfl⟩⟩; refine ⟨_, rfl, ?_⟩; (try (rw [drewN_self wc]; generalize hq_ : World.drewN wc _ = wc; have n0_ : Aside0 (wc.heap[gb578]? = some (.cells #[.slice none 0 0, .int .i64 0] 37 (0, 0))) := ⟨(by rw [← hq_]; exact (zb_ BK578.out))⟩; have n1_ : Aside0 (Below w.heap.size w wc) := ⟨(by rw [← hq_]; exact (zg1_ HB.out GE578.out))⟩; clear BK578 HB hq_; have BK578 := n0_; have HB := n1_; clear n0_ n1_))) | ((with_reducible refine gate_callee (f := 47) rfl ?_); refine goesL_ (some 22) rfl rfl Tryd.func47 βDa rfl #[.slice A1 l1.length c1, .int .i64 (l0.length : Int)] rfl zs_ ?_; (with_reducible refine (spec_StepsCode.calls kj2 _ _ l1 (l0.length : Int) t588 _ ?side1 ?side2 A13.out).mono ?_); (case side1 => exact zc_ (Kd.C_below HR1.out HB.out)); (case side2 => exact HC1.out); rintro e w21 ⟨rfl, hb⟩; refine ⟨_, rfl, ?_⟩; have n0_ := zA_ (blk_below (g := gb578) (o := .cells #[.slice none 0 0, .int .i64 0] 37 (0, 0)) (zb_ BK578.out) hb); have n1_ := zA_ (below_step (zg1_ HB.out GE578.out) hb); clear BK578 HB; have BK578 := n0_; have HB := n1_; clear n0_ n1_; (try clear hb); (try clear hb2); (try clear hk); (try clear hi)) | ((with_reducible refine gate_callee (f := 46) rfl ?_); refine goesL_ (some 26) rfl rfl Tryd.func46 βDa rfl #[.int .i64 t588] rfl zs_ ?_; (with_reducible refine (spec_l07Ill.calls t588 t592 t595 _ A20.out).mono ?_); rintro e w22 ⟨v593, rfl, ho0, hb⟩; refine ⟨_, rfl, ?_⟩; have n0_ := zA_ (Kd.R_lower ho0 (below_size (zg1_ HB.out GE578.out))); have n1_ := zA_ (blk_below (g := gb578) (o := .cells #[.slice none 0 0, .int .i64 0] 37 (0, 0)) (zb_ BK578.out) hb); have n2_ := zA_ (below_step (zg1_ HB.out GE578.out) hb); clear BK578 HB; have HO594 := n0_; have BK578 := n1_; have HB := n2_; clear n0_ n1_ n2_; (try clear hb); (try clear hb2); (try clear hk); (try clear hi); (try clear ho0); obtain ⟨Ao23, co23, eo23⟩ := Kd.R_slice HO594.out; subst eo23; have hcz24_0 := cz_ BK578.out 0 (.slice none 0 0) rfl; have hcz24_1 := cz_ BK578.out 1 (.int .i64 0) rfl; have hfz24_0 := blk_frozen BK578.out 0; have hfz24_1 := blk_frozen BK578.out 1))
         refine bodyPost_ret (results_cell_row rfl _ _ gb578 37 #[.slice Ao23 t592.length co23, .int .i64 t595] (0, 0) _ rfl (by (with_reducible repeat (first | refine blk_drewN ?_ _ | refine blk_drew ?_ | refine blk_alloc ?_ _)); refine blk_put (cs := #[.slice Ao23 t592.length co23, .int .i64 0]) ?_ 1 _ rfl; (with_reducible repeat (first | refine blk_drewN ?_ _ | refine blk_drew ?_ | refine blk_alloc ?_ _)); refine blk_put (cs := #[.slice none 0 0, .int .i64 0]) ?_ 0 _ rfl; (with_reducible repeat (first | refine blk_drewN ?_ _ | refine blk_drew ?_ | refine blk_alloc ?_ _)); exact BK578.out) Tryd.underlying37 rfl βDa) rfl ?_
         exact ⟨_, βsa, (by (with_reducible repeat (first | apply Kd.R_alloc | apply Kd.R_drewN | apply Kd.R_drew)); exact Kd.R_mono (Kd.R_far (p := ⟨gb578, 1, none⟩) (Kd.R_far (p := ⟨gb578, 0, none⟩) (Kd.R_types HO594.out BK578.out (by decide)) (fun _ hk => hk.2) (.slice Ao23 t592.length co23)) (fun _ hk => hk.2) (.int .i64 t595)) (fun _ hk => trivial)), βW⟩
     · replace c12 := Bool.eq_false_iff.mpr c12
       subst c12
       have H1 : ((spec_l07Ill.f 1).bind fun bt584 => (some (bt584.1, bt584.2))) = some (r1, r2) := by rw [if_neg (show ¬ (false = true) by decide)] at H; exact H
       clear H
       have H := H1
       clear H1
       replace H := Option.bind_eq_some_iff.mp H
       obtain ⟨⟨t584, t587⟩, A250, H⟩ := H
       replace H : (some (t584, t587)) = some (r1, r2) := H
       have A25 := zA_ A250
       clear A250
       simp only [Option.some.injEq, Prod.mk.injEq] at H
       obtain ⟨rfl, rfl⟩ := H
       go_wp2_with (first | ((with_reducible refine gate_callee (f := 27) rfl ?_); refine goesL_ (some 16) rfl rfl Tryd.func27 βDa rfl #[.slice A0 l0.length c0] rfl zs_ ?_; (with_reducible refine (spec_ImageRight.calls kj2 _ _ l0 false _ ?side1 ?side2 A11.out).mono ?_); (case side1 => exact zc_ (Kd.C_below HR0.out HB.out)); (case side2 => exact HC0.out); rintro e w' ⟨rfl, ⟨nd, rfl⟩⟩; refine ⟨_, rfl, ?_⟩; (try (rw [drewN_self wc]; generalize hq_ : World.drewN wc _ = wc; have n0_ : Aside0 (wc.heap[gb578]? = some (.cells #[.slice none 0 0, .int .i64 0] 37 (0, 0))) := ⟨(by rw [← hq_]; exact (zb_ BK578.out))⟩; have n1_ : Aside0 (Below w.heap.size w wc) := ⟨(by rw [← hq_]; exact (zg1_ HB.out GE578.out))⟩; clear BK578 HB hq_; have BK578 := n0_; have HB := n1_; clear n0_ n1_))) | ((with_reducible refine gate_callee (f := 46) rfl ?_); refine goesL_ (some 18) rfl rfl Tryd.func46 βDa rfl #[.int .i64 1] rfl zs_ ?_; (with_reducible refine (spec_l07Ill.calls 1 t584 t587 _ A25.out).mono ?_); rintro e w26 ⟨v585, rfl, ho0, hb⟩; refine ⟨_, rfl, ?_⟩; have n0_ := zA_ (Kd.R_lower ho0 (below_size (zg1_ HB.out GE578.out))); have n1_ := zA_ (blk_below (g := gb578) (o := .cells #[.slice none 0 0, .int .i64 0] 37 (0, 0)) (zb_ BK578.out) hb); have n2_ := zA_ (below_step (zg1_ HB.out GE578.out) hb); clear BK578 HB; have HO586 := n0_; have BK578 := n1_; have HB := n2_; clear n0_ n1_ n2_; (try clear hb); (try clear hb2); (try clear hk); (try clear hi); (try clear ho0); obtain ⟨Ao27, co27, eo27⟩ := Kd.R_slice HO586.out; subst eo27; have hcz28_0 := cz_ BK578.out 0 (.slice none 0 0) rfl; have hcz28_1 := cz_ BK578.out 1 (.int .i64 0) rfl; have hfz28_0 := blk_frozen BK578.out 0; have hfz28_1 := blk_frozen BK578.out 1))
       refine bodyPost_ret (results_cell_row rfl _ _ gb578 37 #[.slice Ao27 t584.length co27, .int .i64 t587] (0, 0) _ rfl (by (with_reducible repeat (first | refine blk_drewN ?_ _ | refine blk_drew ?_ | refine blk_alloc ?_ _)); refine blk_put (cs := #[.slice Ao27 t584.length co27, .int .i64 0]) ?_ 1 _ rfl; (with_reducible repeat (first | refine blk_drewN ?_ _ | refine blk_drew ?_ | refine blk_alloc ?_ _)); refine blk_put (cs := #[.slice none 0 0, .int .i64 0]) ?_ 0 _ rfl; (with_reducible repeat (first | refine blk_drewN ?_ _ | refine blk_drew ?_ | refine blk_alloc ?_ _)); exact BK578.out) Tryd.underlying37 rfl βDa) rfl ?_
       exact ⟨_, βsa, (by (with_reducible repeat (first | apply Kd.R_alloc | apply Kd.R_drewN | apply Kd.R_drew)); exact Kd.R_mono (Kd.R_far (p := ⟨gb578, 1, none⟩) (Kd.R_far (p := ⟨gb578, 0, none⟩) (Kd.R_types HO586.out BK578.out (by decide)) (fun _ hk => hk.2) (.slice Ao27 t584.length co27)) (fun _ hk => hk.2) (.int .i64 t587)) (fun _ hk => trivial)), βW⟩
def impl_Xored.f (a0 : ByteArray) (a1 : ByteArray) : Option (ByteArray) := if (a0.size : Int) = 8 then (if (a1.size : Int) = 8 then ((impl_xored.f a0 a1).bind fun t596 => (some t596)) else (some (⟨#[]⟩ : ByteArray))) else (some (⟨#[]⟩ : ByteArray))
theorem impl_Xored.calls (a0 : ByteArray) (a1 : ByteArray) (r : ByteArray) (w : World) (h : impl_Xored.f a0 a1 = some r) :
 Calls Tryd.prog 22 #[.string a0, .string a1] w fun e w' => e = .returned (.string r) ∧ Below w.heap.size w w' := by
 have HB := zA_ (Below.refl w.heap.size w)
 have H : (if (a0.size : Int) = 8 then (if (a1.size : Int) = 8 then ((impl_xored.f a0 a1).bind fun t596 => (some t596)) else (some (⟨#[]⟩ : ByteArray))) else (some (⟨#[]⟩ : ByteArray))) = some r := h
 clear h
 by_cases c3 : (a0.size : Int) = 8
 · rw [if_pos c3] at H
   have c3b0 : ((a0.size : Int) == 8) = true := beq_iff_eq.mpr c3
   have c3b1 : ((a0.size : Int) != 8) = false := bne_eq_false_iff_eq.mpr c3
   clear c3
   by_cases c4 : (a1.size : Int) = 8
   · rw [if_pos c4] at H
     have c4b0 : ((a1.size : Int) == 8) = true := beq_iff_eq.mpr c4
     have c4b1 : ((a1.size : Int) != 8) = false := bne_eq_false_iff_eq.mpr c4
     clear c4
     replace H := Option.bind_eq_some_iff.mp H
     obtain ⟨t596, A50, H⟩ := H
     replace H : (some t596) = some r := H
     have A5 := zA_ A50
     clear A50
     obtain rfl := Option.some.inj H
     go_enter Tryd.func22, Tryd.ntmps22
     go_wp2_with (first | ((with_reducible refine gate_callee (f := 49) rfl ?_); refine goesL_ (some 15) rfl rfl Tryd.func49 βDa rfl #[.string a0, .string a1] rfl zs_ ?_; (with_reducible refine (impl_xored.calls a0 a1 t596 _ A5.out).mono ?_); rintro e w6 ⟨rfl, hb⟩; refine ⟨_, rfl, ?_⟩; have n0_ := zA_ (below_step (zh_ HB.out) hb); clear HB; have HB := n0_; clear n0_; (try clear hb); (try clear hb2); (try clear hk); (try clear hi)))
     go_ret
     exact ⟨βsa, βoa⟩
   · rw [if_neg c4] at H
     have c4b0 : ((a1.size : Int) == 8) = false := beq_eq_false_iff_ne.mpr c4
     have c4b1 : ((a1.size : Int) != 8) = true := bne_iff_ne.mpr c4
     obtain rfl := Option.some.inj H
     go_enter Tryd.func22, Tryd.ntmps22
     go_wp2
     go_ret
     exact ⟨βsa, βoa⟩
 · rw [if_neg c3] at H
   have c3b0 : ((a0.size : Int) == 8) = false := beq_eq_false_iff_ne.mpr c3
   have c3b1 : ((a0.size : Int) != 8) = true := bne_iff_ne.mpr c3
   obtain rfl := Option.some.inj H
   go_enter Tryd.func22, Tryd.ntmps22
   go_wp2
   go_ret
   exact ⟨βsa, βoa⟩
end Go.Proofs.YtldhjbjbjoomcaaDoor.Q
