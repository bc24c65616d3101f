/- An image's update keeps the number of blocks, leaves what no step writes and makes the rest of the old image; a block exclusive-ored twice comes back; for every draw. Part 1. -/
import Derived.Test.YtldhjbjbjoomcaaDoorKFnImage0
import Derived.Test.YtldhjbjbjoomcaaDoorProg
import Derived.StillTailTactics
import Derived.Lib.Bytealg
import Derived.Shelf.Abstract
import Derived.Lib.SliceRun
import Derived.Laws.BitsAllLaws
import Derived.Laws.Strings
namespace Go.Proofs.YtldhjbjbjoomcaaDoor.Q
open Go.RowKit Go.Proofs.YtldhjbjbjoomcaaDoorW.PrintWords Go.Proofs.YtldhjbjbjoomcaaDoorW.PrintLast Go.Proofs.YtldhjbjbjoomcaaDoorW.PrintMore
attribute [local go_sem] max2_int min2_int max_two min_two max_three min_three max_four min_four Instr.field asAgg
set_option linter.unusedVariables false
set_option linter.unusedSimpArgs false
def mrGo_ : Bool → List Nat → List Bool
  | _, [] => []
  | b, n :: l => List.replicate n b ++ mrGo_ (!b) l
abbrev mr_ (l : List Nat) : Array Bool := (mrGo_ true l).toArray
theorem zb_ {P Q : Prop} (h : Q) (f : Q → P := by intro h; (with_reducible repeat (first | refine blk_drewN ?_ _ | refine blk_drew ?_ | refine blk_alloc ?_ _)); exact h) : P := f h
theorem zr_ {P Q : Prop} (h : Q) (f : Q → P := by intro h; (with_reducible repeat (first | apply Kd.R_alloc | apply Kd.R_drewN | apply Kd.R_drew)); exact h) : P := f h
theorem zh_ {P Q : Prop} (h : Q) (f : Q → P := by intro h; repeat (first | (with_reducible first | exact h | apply below_alloc | apply pw_below_drewN | apply below_drew1) | exact h)) : P := f h
theorem zc_ {P Q : Prop} (h : Q) (f : Q → P := by intro h; repeat (first | exact h | (with_reducible refine Kd.C_alloc ?_ _) | (with_reducible refine Kd.C_drewN ?_ _) | (with_reducible refine Kd.C_drew ?_))) : P := f h
theorem zs_ {P : Prop} (h : P := by (try simp only [List.map_toArray, List.map_cons, List.map_nil]); first | done | rfl | (simp only [List.length_drop, List.length_take]; rfl)) : P := h
theorem zg1_ {P Q G0 : Prop} (h : Q) (g0 : G0) (f : Q → G0 → P := by intro h g0; repeat (first | (with_reducible first | exact h | apply below_alloc | apply pw_below_drewN | apply below_drew1 | refine below_set ?_ g0) | exact h)) : P := f h g0
theorem zg2_ {P Q G0 G1 : Prop} (h : Q) (g0 : G0) (g1 : G1) (f : Q → G0 → G1 → P := by intro h g0 g1; repeat (first | (with_reducible first | exact h | apply below_alloc | apply pw_below_drewN | apply below_drew1 | refine below_set ?_ g0 | refine below_set ?_ g1) | exact h)) : P := f h g0 g1
theorem zg3_ {P Q G0 G1 G2 : Prop} (h : Q) (g0 : G0) (g1 : G1) (g2 : G2) (f : Q → G0 → G1 → G2 → P := by intro h g0 g1 g2; repeat (first | (with_reducible first | exact h | apply below_alloc | apply pw_below_drewN | apply below_drew1 | refine below_set ?_ g0 | refine below_set ?_ g1 | refine below_set ?_ g2) | exact h)) : P := f h g0 g1 g2
theorem zg4_ {P Q G0 G1 G2 G3 : Prop} (h : Q) (g0 : G0) (g1 : G1) (g2 : G2) (g3 : G3) (f : Q → G0 → G1 → G2 → G3 → P := by intro h g0 g1 g2 g3; repeat (first | (with_reducible first | exact h | apply below_alloc | apply pw_below_drewN | apply below_drew1 | refine below_set ?_ g0 | refine below_set ?_ g1 | refine below_set ?_ g2 | refine below_set ?_ g3) | exact h)) : P := f h g0 g1 g2 g3
theorem zg5_ {P Q G0 G1 G2 G3 G4 : Prop} (h : Q) (g0 : G0) (g1 : G1) (g2 : G2) (g3 : G3) (g4 : G4) (f : Q → G0 → G1 → G2 → G3 → G4 → P := by intro h g0 g1 g2 g3 g4; repeat (first | (with_reducible first | exact h | apply below_alloc | apply pw_below_drewN | apply below_drew1 | refine below_set ?_ g0 | refine below_set ?_ g1 | refine below_set ?_ g2 | refine below_set ?_ g3 | refine below_set ?_ g4) | exact h)) : P := f h g0 g1 g2 g3 g4
theorem zg6_ {P Q G0 G1 G2 G3 G4 G5 : Prop} (h : Q) (g0 : G0) (g1 : G1) (g2 : G2) (g3 : G3) (g4 : G4) (g5 : G5) (f : Q → G0 → G1 → G2 → G3 → G4 → G5 → P := by intro h g0 g1 g2 g3 g4 g5; repeat (first | (with_reducible first | exact h | apply below_alloc | apply pw_below_drewN | apply below_drew1 | refine below_set ?_ g0 | refine below_set ?_ g1 | refine below_set ?_ g2 | refine below_set ?_ g3 | refine below_set ?_ g4 | refine below_set ?_ g5) | exact h)) : P := f h g0 g1 g2 g3 g4 g5
theorem zf1_ {P Q N0 : Prop} (n0 : N0) (h : Q) (f : N0 → Q → P := by intro n0 h; (with_reducible repeat (first | refine blk_drewN ?_ _ | refine blk_drew ?_ | refine blk_alloc ?_ _)); refine blk_far ?_ n0 _; (with_reducible repeat (first | refine blk_drewN ?_ _ | refine blk_drew ?_ | refine blk_alloc ?_ _)); exact h) : P := f n0 h
theorem zf2_ {P Q N0 N1 : Prop} (n0 : N0) (n1 : N1) (h : Q) (f : N0 → N1 → Q → P := by intro n0 n1 h; (with_reducible repeat (first | refine blk_drewN ?_ _ | refine blk_drew ?_ | refine blk_alloc ?_ _)); refine blk_far ?_ n0 _; (with_reducible repeat (first | refine blk_drewN ?_ _ | refine blk_drew ?_ | refine blk_alloc ?_ _)); refine blk_far ?_ n1 _; (with_reducible repeat (first | refine blk_drewN ?_ _ | refine blk_drew ?_ | refine blk_alloc ?_ _)); exact h) : P := f n0 n1 h
theorem zf3_ {P Q N0 N1 N2 : Prop} (n0 : N0) (n1 : N1) (n2 : N2) (h : Q) (f : N0 → N1 → N2 → Q → P := by intro n0 n1 n2 h; (with_reducible repeat (first | refine blk_drewN ?_ _ | refine blk_drew ?_ | refine blk_alloc ?_ _)); refine blk_far ?_ n0 _; (with_reducible repeat (first | refine blk_drewN ?_ _ | refine blk_drew ?_ | refine blk_alloc ?_ _)); refine blk_far ?_ n1 _; (with_reducible repeat (first | refine blk_drewN ?_ _ | refine blk_drew ?_ | refine blk_alloc ?_ _)); refine blk_far ?_ n2 _; (with_reducible repeat (first | refine blk_drewN ?_ _ | refine blk_drew ?_ | refine blk_alloc ?_ _)); exact h) : P := f n0 n1 n2 h
theorem zf4_ {P Q N0 N1 N2 N3 : Prop} (n0 : N0) (n1 : N1) (n2 : N2) (n3 : N3) (h : Q) (f : N0 → N1 → N2 → N3 → Q → P := by intro n0 n1 n2 n3 h; (with_reducible repeat (first | refine blk_drewN ?_ _ | refine blk_drew ?_ | refine blk_alloc ?_ _)); refine blk_far ?_ n0 _; (with_reducible repeat (first | refine blk_drewN ?_ _ | refine blk_drew ?_ | refine blk_alloc ?_ _)); refine blk_far ?_ n1 _; (with_reducible repeat (first | refine blk_drewN ?_ _ | refine blk_drew ?_ | refine blk_alloc ?_ _)); refine blk_far ?_ n2 _; (with_reducible repeat (first | refine blk_drewN ?_ _ | refine blk_drew ?_ | refine blk_alloc ?_ _)); refine blk_far ?_ n3 _; (with_reducible repeat (first | refine blk_drewN ?_ _ | refine blk_drew ?_ | refine blk_alloc ?_ _)); exact h) : P := f n0 n1 n2 n3 h
theorem zf5_ {P Q N0 N1 N2 N3 N4 : Prop} (n0 : N0) (n1 : N1) (n2 : N2) (n3 : N3) (n4 : N4) (h : Q) (f : N0 → N1 → N2 → N3 → N4 → Q → P := by intro n0 n1 n2 n3 n4 h; (with_reducible repeat (first | refine blk_drewN ?_ _ | refine blk_drew ?_ | refine blk_alloc ?_ _)); refine blk_far ?_ n0 _; (with_reducible repeat (first | refine blk_drewN ?_ _ | refine blk_drew ?_ | refine blk_alloc ?_ _)); refine blk_far ?_ n1 _; (with_reducible repeat (first | refine blk_drewN ?_ _ | refine blk_drew ?_ | refine blk_alloc ?_ _)); refine blk_far ?_ n2 _; (with_reducible repeat (first | refine blk_drewN ?_ _ | refine blk_drew ?_ | refine blk_alloc ?_ _)); refine blk_far ?_ n3 _; (with_reducible repeat (first | refine blk_drewN ?_ _ | refine blk_drew ?_ | refine blk_alloc ?_ _)); refine blk_far ?_ n4 _; (with_reducible repeat (first | refine blk_drewN ?_ _ | refine blk_drew ?_ | refine blk_alloc ?_ _)); exact h) : P := f n0 n1 n2 n3 n4 h
theorem zA_ {p : Prop} (h : p) : Aside0 p := Aside0.mk h
theorem pv_ {P : Prop} (h : P := by intro w'; go_simp; with_reducible rfl) : P := h
theorem pp_ {P : Prop} (h : P := by (simp only [Act.put, List.setIfInBounds_toArray, List.set_cons_zero, List.set_cons_succ, i64_w, i32_w]); rfl) : P := h
theorem cz_ {w : World} {g : Nat} {cs : Array Value} {t : TypeId} (h : w.heap[g]? = some (.cells cs t (0, 0))) (i : Nat) (v : Value) (e : cs[i]? = some v) : w.cell? ⟨g, i, none⟩ = some v := (blk_cell h i).trans e
theorem cy_ {w : World} {g : Nat} {cs : Array Value} {t : TypeId} (h : w.heap[g]? = some (.cells cs t (0, 0))) (i : Nat) {v : Value} (e : cs[i]? = some v := by rfl) : w.cell? ⟨g, i, none⟩ = some v := (blk_cell h i).trans e
theorem bc_ {w w' : World} {p : Addr} {v : Value} (hb : Below w.heap.size w w') (h : w.cell? p = some v) : w'.cell? p = some v := (hb.cell (World.block_lt_of_cell? _ _ h)).trans h
theorem βa {P : Prop} (h : P := by (with_reducible repeat (first | refine blk_drewN ?_ _ | refine blk_drew ?_ | refine blk_alloc ?_ _)); refine blk_put (cs := #[.int .i64 x299000_3, .int .i64 x299001_3, .int .i64 x299002_3, .string (⟨#[]⟩ : ByteArray)]) ?_ 3 _ rfl; (with_reducible repeat (first | refine blk_drewN ?_ _ | refine blk_drew ?_ | refine blk_alloc ?_ _)); refine blk_put (cs := #[.int .i64 x299000_3, .int .i64 x299001_3, .int .i64 0, .string (⟨#[]⟩ : ByteArray)]) ?_ 2 _ rfl; (with_reducible repeat (first | refine blk_drewN ?_ _ | refine blk_drew ?_ | refine blk_alloc ?_ _)); refine blk_put (cs := #[.int .i64 x299000_3, .int .i64 0, .int .i64 0, .string (⟨#[]⟩ : ByteArray)]) ?_ 1 _ rfl; (with_reducible repeat (first | refine blk_drewN ?_ _ | refine blk_drew ?_ | refine blk_alloc ?_ _)); refine blk_put (cs := #[.int .i64 0, .int .i64 0, .int .i64 0, .string (⟨#[]⟩ : ByteArray)]) ?_ 0 _ rfl; (with_reducible repeat (first | refine blk_drewN ?_ _ | refine blk_drew ?_ | refine blk_alloc ?_ _)); refine blk_far ?_ NB290_298.out _; (with_reducible repeat (first | refine blk_drewN ?_ _ | refine blk_drew ?_ | refine blk_alloc ?_ _)); exact BK290.out) : P := h
theorem βb {P : Prop} (h : P := by (with_reducible repeat (first | refine blk_drewN ?_ _ | refine blk_drew ?_ | refine blk_alloc ?_ _)); refine blk_put (cs := #[.int .i64 (wrap64 (1 + t273)), .int .i64 t277, .int .i64 0, .string (⟨#[]⟩ : ByteArray)]) ?_ 3 _ rfl; (with_reducible repeat (first | refine blk_drewN ?_ _ | refine blk_drew ?_ | refine blk_alloc ?_ _)); refine blk_put (cs := #[.int .i64 (wrap64 (1 + t273)), .int .i64 t277, .int .i64 0, .string (⟨#[]⟩ : ByteArray)]) ?_ 2 _ rfl; (with_reducible repeat (first | refine blk_drewN ?_ _ | refine blk_drew ?_ | refine blk_alloc ?_ _)); refine blk_put (cs := #[.int .i64 (wrap64 (1 + t273)), .int .i64 0, .int .i64 0, .string (⟨#[]⟩ : ByteArray)]) ?_ 1 _ rfl; (with_reducible repeat (first | refine blk_drewN ?_ _ | refine blk_drew ?_ | refine blk_alloc ?_ _)); refine blk_put (cs := #[.int .i64 0, .int .i64 0, .int .i64 0, .string (⟨#[]⟩ : ByteArray)]) ?_ 0 _ rfl; (with_reducible repeat (first | refine blk_drewN ?_ _ | refine blk_drew ?_ | refine blk_alloc ?_ _)); exact BK281.out) : P := h
theorem βc {P : Prop} (h : P := by (with_reducible repeat (first | refine blk_drewN ?_ _ | refine blk_drew ?_ | refine blk_alloc ?_ _)); refine blk_put (cs := #[.slice A0 l0.length c0, .int .i64 0, .int .u64 x159002_1, .int .i64 (wrap64 ((l0.length : Int) / 20))]) ?_ 3 _ rfl; (with_reducible repeat (first | refine blk_drewN ?_ _ | refine blk_drew ?_ | refine blk_alloc ?_ _)); refine blk_put (cs := #[.slice A0 l0.length c0, .int .i64 0, .int .u64 x159002_1, .int .i64 0]) ?_ 3 _ rfl; (with_reducible repeat (first | refine blk_drewN ?_ _ | refine blk_drew ?_ | refine blk_alloc ?_ _)); exact BK158.out) : P := h
theorem βd {P : Prop} (h : P := by (with_reducible repeat (first | refine blk_drewN ?_ _ | refine blk_drew ?_ | refine blk_alloc ?_ _)); refine blk_put (cs := #[.slice none 0 0, .int .i64 0]) ?_ 1 _ rfl; (with_reducible repeat (first | refine blk_drewN ?_ _ | refine blk_drew ?_ | refine blk_alloc ?_ _)); refine blk_put (cs := #[.slice none 0 0, .int .i64 0]) ?_ 0 _ rfl; (with_reducible repeat (first | refine blk_drewN ?_ _ | refine blk_drew ?_ | refine blk_alloc ?_ _)); exact BK476.out) : P := h
theorem βe {P : Prop} (h : P := by (with_reducible repeat (first | apply Kd.R_alloc | apply Kd.R_drewN | apply Kd.R_drew)); exact (Kd.R_mono (Kd.R_far (p := ⟨gb629, 3, none⟩) (Kd.R_far (p := ⟨gb629, 2, none⟩) (Kd.R_far (p := ⟨gb629, 1, none⟩) (Kd.R_far (p := ⟨gb629, 0, none⟩) (Kd.R_types HO612.out BK629.out (by decide)) (fun _ hk => hk.2) (.int .i64 t625)) (fun _ hk => hk.2) (.int .i64 t626)) (fun _ hk => hk.2) (.int .i64 t627)) (fun _ hk => hk.2) (.string t628)) (fun _ h_ => h_.1))) : P := h
theorem βf {P : Prop} (h : P := by (with_reducible repeat (first | apply Kd.R_alloc | apply Kd.R_drewN | apply Kd.R_drew)); exact (Kd.R_mono (Kd.R_far (p := ⟨gb629, 3, none⟩) (Kd.R_far (p := ⟨gb629, 2, none⟩) (Kd.R_far (p := ⟨gb629, 1, none⟩) (Kd.R_far (p := ⟨gb629, 0, none⟩) (Kd.R_types HO617.out BK629.out (by decide)) (fun _ hk => hk.2) (.int .i64 t625)) (fun _ hk => hk.2) (.int .i64 t626)) (fun _ hk => hk.2) (.int .i64 t627)) (fun _ hk => hk.2) (.string t628)) (fun _ h_ => h_.1))) : P := h
theorem βg {P : Prop} (h : P := by (with_reducible repeat (first | apply Kd.R_alloc | apply Kd.R_drewN | apply Kd.R_drew)); exact (Kd.R_mono (Kd.R_far (p := ⟨gb629, 3, none⟩) (Kd.R_far (p := ⟨gb629, 2, none⟩) (Kd.R_far (p := ⟨gb629, 1, none⟩) (Kd.R_far (p := ⟨gb629, 0, none⟩) (Kd.R_types HO624.out BK629.out (by decide)) (fun _ hk => hk.2) (.int .i64 t625)) (fun _ hk => hk.2) (.int .i64 t626)) (fun _ hk => hk.2) (.int .i64 t627)) (fun _ hk => hk.2) (.string t628)) (fun _ h_ => h_.1))) : P := h
theorem βh {P : Prop} (h : P := by (with_reducible repeat (first | refine blk_drewN ?_ _ | refine blk_drew ?_ | refine blk_alloc ?_ _)); refine blk_put (cs := #[.slice A0 l0.length c0, .int .i64 0, .int .u64 x159002_1, .int .i64 0]) ?_ 3 _ rfl; (with_reducible repeat (first | refine blk_drewN ?_ _ | refine blk_drew ?_ | refine blk_alloc ?_ _)); exact BK158.out) : P := h
theorem βi {P : Prop} (h : P := by repeat (first | (with_reducible first | exact HI0.out | apply IsS78.alloc | apply IsS78.drewN | apply IsS78.drew | apply IsS78.set_1 | apply IsS78.set_2 | apply IsS78.set_3 | refine IsS78.far ?_ NB0_272.out _ | refine IsS78.far ?_ NB0_281.out _) | exact HI0.out)) : P := h
theorem βj {P : Prop} (h : P := by repeat (first | (with_reducible first | exact HI0.out | apply IsS78.alloc | apply IsS78.drewN | apply IsS78.drew | apply IsS78.set_1 | apply IsS78.set_2 | apply IsS78.set_3 | refine IsS78.far ?_ NB0_290.out _ | refine IsS78.far ?_ NB0_298.out _) | exact HI0.out)) : P := h
theorem βk {P : Prop} (h : P := by repeat (first | (with_reducible first | exact HB.out | apply below_alloc | apply pw_below_drewN | apply below_drew1 | refine below_set ?_ (IsS78.ge HI0.out) | refine below_set ?_ GE272.out | refine below_set ?_ GE281.out) | exact HB.out)) : P := h
theorem βl {P : Prop} (h : P := by repeat (first | (with_reducible first | exact HB.out | apply below_alloc | apply pw_below_drewN | apply below_drew1 | refine below_set ?_ (IsS78.ge HI0.out) | refine below_set ?_ GE290.out | refine below_set ?_ GE298.out) | exact HB.out)) : P := h
theorem βm {P : Prop} (h : P := by repeat (first | (with_reducible first | exact HI513.out | apply IsS78.alloc | apply IsS78.drewN | apply IsS78.drew | apply IsS78.set_1 | apply IsS78.set_2 | apply IsS78.set_3 | refine IsS78.far ?_ NB513_508.out _) | exact HI513.out)) : P := h
theorem βn {P : Prop} (h : P := by repeat (first | (with_reducible first | exact HI0.out | apply IsS78.alloc | apply IsS78.drewN | apply IsS78.drew | apply IsS78.set_1 | apply IsS78.set_2 | apply IsS78.set_3 | refine IsS78.far ?_ NB0_272.out _) | exact HI0.out)) : P := h
theorem βo {P : Prop} (h : P := by repeat (first | (with_reducible first | exact HI0.out | apply IsS78.alloc | apply IsS78.drewN | apply IsS78.drew | apply IsS78.set_1 | apply IsS78.set_2 | apply IsS78.set_3 | refine IsS78.far ?_ NB0_290.out _) | exact HI0.out)) : P := h
theorem βp {P : Prop} (h : P := by repeat (first | (with_reducible first | exact HI0.out | apply IsS78.alloc | apply IsS78.drewN | apply IsS78.drew | apply IsS78.set_1 | apply IsS78.set_2 | apply IsS78.set_3 | refine IsS78.far ?_ NB0_372.out _) | exact HI0.out)) : P := h
theorem βq {P : Prop} (h : P := by repeat (first | (with_reducible first | exact HK.out | apply KeepBut.set_ | apply keep_drewN | apply keep_drew | apply keep_alloc | refine keep_far ?_ GW272.out _ | refine keep_far ?_ GW281.out _) | exact HK.out)) : P := h
theorem βr {P : Prop} (h : P := by repeat (first | (with_reducible first | exact HK.out | apply KeepBut.set_ | apply keep_drewN | apply keep_drew | apply keep_alloc | refine keep_far ?_ GW290.out _ | refine keep_far ?_ GW298.out _) | exact HK.out)) : P := h
theorem βs {P : Prop} (h : P := by repeat (first | (with_reducible first | exact HB.out | apply below_alloc | apply pw_below_drewN | apply below_drew1 | refine below_set ?_ (IsS78.ge HI513.out) | refine below_set ?_ GE508.out) | exact HB.out)) : P := h
theorem βt {P : Prop} (h : P := by repeat (first | (with_reducible first | exact HB.out | apply below_alloc | apply pw_below_drewN | apply below_drew1 | refine below_set ?_ (IsS78.ge HI0.out) | refine below_set ?_ GE272.out) | exact HB.out)) : P := h
theorem βu {P : Prop} (h : P := by repeat (first | (with_reducible first | exact HB.out | apply below_alloc | apply pw_below_drewN | apply below_drew1 | refine below_set ?_ (IsS78.ge HI0.out) | refine below_set ?_ GE290.out) | exact HB.out)) : P := h
theorem βv {P : Prop} (h : P := by repeat (first | (with_reducible first | exact HB.out | apply below_alloc | apply pw_below_drewN | apply below_drew1 | refine below_set ?_ (IsS78.ge HI0.out) | refine below_set ?_ GE372.out) | exact HB.out)) : P := h
theorem βw {P : Prop} (h : P := by repeat (first | (with_reducible first | exact HB.out | apply below_alloc | apply pw_below_drewN | apply below_drew1 | refine below_set ?_ GE551.out | refine below_set ?_ GE552.out) | exact HB.out)) : P := h
theorem βx {P : Prop} (h : P := by repeat (first | (with_reducible first | exact HB.out | apply below_alloc | apply pw_below_drewN | apply below_drew1 | refine below_set ?_ GE619.out | refine below_set ?_ GE629.out) | exact HB.out)) : P := h
theorem βy {P : Prop} (h : P := by repeat (first | (with_reducible first | exact HI443.out | apply IsS78.alloc | apply IsS78.drewN | apply IsS78.drew | apply IsS78.set_1 | apply IsS78.set_2 | apply IsS78.set_3) | exact HI443.out)) : P := h
theorem βz {P : Prop} (h : P := by repeat (first | (with_reducible first | exact HI487.out | apply IsS78.alloc | apply IsS78.drewN | apply IsS78.drew | apply IsS78.set_1 | apply IsS78.set_2 | apply IsS78.set_3) | exact HI487.out)) : P := h
theorem βA {P : Prop} (h : P := by repeat (first | (with_reducible first | exact HI0.out | apply IsS78.alloc | apply IsS78.drewN | apply IsS78.drew | apply IsS78.set_1 | apply IsS78.set_2 | apply IsS78.set_3) | exact HI0.out)) : P := h
theorem βB {P : Prop} (h : P := by repeat (first | (with_reducible first | exact HK.out | apply KeepBut.set_ | apply keep_drewN | apply keep_drew | apply keep_alloc | refine keep_far ?_ GW272.out _) | exact HK.out)) : P := h
theorem βC {P : Prop} (h : P := by repeat (first | (with_reducible first | exact HK.out | apply KeepBut.set_ | apply keep_drewN | apply keep_drew | apply keep_alloc | refine keep_far ?_ GW290.out _) | exact HK.out)) : P := h
theorem βD {P : Prop} (h : P := by repeat (first | (with_reducible first | exact HK.out | apply KeepBut.set_ | apply keep_drewN | apply keep_drew | apply keep_alloc | refine keep_far ?_ GW372.out _) | exact HK.out)) : P := h
theorem βE {P : Prop} (h : P := by repeat (first | (with_reducible first | exact HB.out | apply below_alloc | apply pw_below_drewN | apply below_drew1 | refine below_set ?_ (IsS78.ge HI443.out)) | exact HB.out)) : P := h
theorem βF {P : Prop} (h : P := by repeat (first | (with_reducible first | exact HB.out | apply below_alloc | apply pw_below_drewN | apply below_drew1 | refine below_set ?_ (IsS78.ge HI487.out)) | exact HB.out)) : P := h
theorem βG {P : Prop} (h : P := by repeat (first | (with_reducible first | exact HB.out | apply below_alloc | apply pw_below_drewN | apply below_drew1 | refine below_set ?_ (IsS78.ge HI542.out)) | exact HB.out)) : P := h
theorem βH {P : Prop} (h : P := by repeat (first | (with_reducible first | exact HB.out | apply below_alloc | apply pw_below_drewN | apply below_drew1 | refine below_set ?_ (IsS78.ge HI0.out)) | exact HB.out)) : P := h
theorem βI {P : Prop} (h : P := by repeat (first | exact (Kd.R_reads' HO389.out).2.2 | (with_reducible refine Kd.C_alloc ?_ _) | (with_reducible refine Kd.C_drewN ?_ _) | (with_reducible refine Kd.C_drew ?_))) : P := h
theorem βJ {P : Prop} (h : P := by repeat (first | exact (Kd.C_below HR0.out HB.out) | (with_reducible refine Kd.C_alloc ?_ _) | (with_reducible refine Kd.C_drewN ?_ _) | (with_reducible refine Kd.C_drew ?_))) : P := h
theorem βK {P : Prop} (h : P := by repeat (first | exact (Kd.R_reads' HO_5.out).2.2 | (with_reducible refine Kd.C_alloc ?_ _) | (with_reducible refine Kd.C_drewN ?_ _) | (with_reducible refine Kd.C_drew ?_))) : P := h
theorem βL {P : Prop} (h : P := by (try simp only [List.map_toArray, List.map_cons, List.map_nil]); first | done | (simp only [hji29]; rfl) | rfl | (simp only [List.length_drop, List.length_take]; rfl)) : P := h
theorem βM {P : Prop} (h : P := by (try simp only [List.map_toArray, List.map_cons, List.map_nil]); first | done | (simp only [hji32]; rfl) | rfl | (simp only [List.length_drop, List.length_take]; rfl)) : P := h
theorem βN {P : Prop} (h : P := by repeat (first | (with_reducible first | exact HBW.out | apply below_alloc | apply pw_below_drewN | apply below_drew1 | refine below_set ?_ GW158.out) | exact HBW.out)) : P := h
theorem βO {P : Prop} (h : P := by repeat (first | (with_reducible first | exact HB.out | apply below_alloc | apply pw_below_drewN | apply below_drew1 | refine below_set ?_ GE158.out) | exact HB.out)) : P := h
theorem βP {P : Prop} (h : P := by repeat (first | (with_reducible first | exact HB.out | apply below_alloc | apply pw_below_drewN | apply below_drew1 | refine below_set ?_ GE343.out) | exact HB.out)) : P := h
theorem βQ {P : Prop} (h : P := by repeat (first | (with_reducible first | exact HB.out | apply below_alloc | apply pw_below_drewN | apply below_drew1 | refine below_set ?_ GE457.out) | exact HB.out)) : P := h
theorem βR {P : Prop} (h : P := by repeat (first | (with_reducible first | exact HB.out | apply below_alloc | apply pw_below_drewN | apply below_drew1 | refine below_set ?_ GE463.out) | exact HB.out)) : P := h
theorem βS {P : Prop} (h : P := by repeat (first | (with_reducible first | exact HB.out | apply below_alloc | apply pw_below_drewN | apply below_drew1 | refine below_set ?_ GE562.out) | exact HB.out)) : P := h
theorem βT {P : Prop} (h : P := by repeat (first | (with_reducible first | exact HB.out | apply below_alloc | apply pw_below_drewN | apply below_drew1 | refine below_set ?_ GE597.out) | exact HB.out)) : P := h
theorem βU {P : Prop} (h : P := by repeat (first | (with_reducible first | exact HB.out | apply below_alloc | apply pw_below_drewN | apply below_drew1 | refine below_set ?_ GE603.out) | exact HB.out)) : P := h
theorem βV {P : Prop} (h : P := by repeat (first | (with_reducible first | exact HB.out | apply below_alloc | apply pw_below_drewN | apply below_drew1 | refine below_set ?_ GE476.out) | exact HB.out)) : P := h
theorem βW {P : Prop} (h : P := by repeat (first | (with_reducible first | exact HB.out | apply below_alloc | apply pw_below_drewN | apply below_drew1 | refine below_set ?_ GE578.out) | exact HB.out)) : P := h
theorem βX {P : Prop} (h : P := by (with_reducible repeat (first | apply Kd.R_alloc | apply Kd.R_drewN | apply Kd.R_drew)); exact Kd.R_mono HO389.out (fun _ hk => ⟨hk.1.2, ⟨hk.1.1.2, hk.2⟩⟩)) : P := h
theorem βY {P : Prop} (h : P := by (with_reducible repeat (first | apply Kd.R_alloc | apply Kd.R_drewN | apply Kd.R_drew)); exact Kd.R_mono HO383.out (fun _ hk => ⟨hk.1.1.2, ⟨hk.2, hk.1.2⟩⟩)) : P := h
theorem βZ {P : Prop} (h : P := by (with_reducible repeat (first | apply Kd.R_alloc | apply Kd.R_drewN | apply Kd.R_drew)); exact Kd.R_mono HO389.out (fun _ hk => ⟨⟨hk.1.1.2, hk.2⟩, hk.1.2⟩)) : P := h
theorem βaa {P : Prop} (h : P := by (with_reducible repeat (first | apply Kd.R_alloc | apply Kd.R_drewN | apply Kd.R_drew)); exact Kd.R_mono HO383.out (fun _ hk => ⟨hk.1.1.2, ⟨hk.1.2, hk.2⟩⟩)) : P := h
theorem βba {P : Prop} (h : P := by (with_reducible repeat (first | apply Kd.R_alloc | apply Kd.R_drewN | apply Kd.R_drew)); exact Kd.R_mono HO389.out (fun _ hk => ⟨⟨hk.1.1.2, hk.1.2⟩, hk.2⟩)) : P := h
theorem βca {P : Prop} (h : P := by (with_reducible repeat (first | apply Kd.R_alloc | apply Kd.R_drewN | apply Kd.R_drew)); exact Kd.R_mono HO386.out (fun _ hk => ⟨hk.2, ⟨hk.1.1, hk.1.2⟩⟩)) : P := h
theorem βda {P : Prop} (h : P := by (with_reducible repeat (first | apply Kd.R_alloc | apply Kd.R_drewN | apply Kd.R_drew)); exact Kd.R_mono HO386.out (fun _ hk => ⟨hk.2.1, ⟨hk.1, hk.2.2⟩⟩)) : P := h
theorem βea {P : Prop} (h : P := by (with_reducible repeat (first | apply Kd.R_alloc | apply Kd.R_drewN | apply Kd.R_drew)); exact Kd.R_mono HO389.out (fun _ hk => ⟨hk.2, ⟨hk.1.1, hk.1.2⟩⟩)) : P := h
theorem βfa {P : Prop} (h : P := by (with_reducible repeat (first | apply Kd.R_alloc | apply Kd.R_drewN | apply Kd.R_drew)); exact Kd.R_mono HO389.out (fun _ hk => ⟨⟨hk.2.1, hk.2.2⟩, hk.1⟩)) : P := h
theorem βga {P : Prop} (h : P := by repeat (first | exact HR0.out | (with_reducible refine Kd.C_alloc ?_ _) | (with_reducible refine Kd.C_drewN ?_ _) | (with_reducible refine Kd.C_drew ?_))) : P := h
theorem βha {P : Prop} (h : P := by (with_reducible repeat (first | apply Kd.R_alloc | apply Kd.R_drewN | apply Kd.R_drew)); exact Kd.R_mono HO_5.out (fun _ hk => ⟨hk.2, ⟨hk.1.1, hk.1.2⟩⟩)) : P := h
theorem βia {P : Prop} (h : P := by first | exact ⟨rfl, _, World.drewN_drewN _ _ _⟩ | exact ⟨rfl, _, Eq.trans (World.drewN_drewN _ _ _) (congrArg (World.drewN _) (Nat.add_assoc _ _ _))⟩) : P := h
theorem βja {P : Prop} (h : P := by repeat (first | (with_reducible first | exact HK.out | apply KeepBut.set_ | apply keep_drewN | apply keep_drew | apply keep_alloc) | exact HK.out)) : P := h
theorem βka {P : Prop} (h : P := by first | exact Kd.R_nil _ _ _ _ _ | exact Kd.N_nil _ _ _ _ _ | exact Kd.V_nil _ _ _ _ _ | exact Kd.Q_nil _ _ _ _ _ | exact Kd.S_nil _ _ _ _ _) : P := h
theorem βla {P : Prop} (h : P := by (with_reducible repeat (first | apply Kd.R_alloc | apply Kd.R_drewN | apply Kd.R_drew)); exact Kd.R_mono HO612.out (fun _ hk => hk.1.1.1.2)) : P := h
theorem βma {P : Prop} (h : P := by (with_reducible repeat (first | apply Kd.R_alloc | apply Kd.R_drewN | apply Kd.R_drew)); exact Kd.R_mono HO617.out (fun _ hk => hk.1.1.1.2)) : P := h
theorem βna {P : Prop} (h : P := by (with_reducible repeat (first | apply Kd.R_alloc | apply Kd.R_drewN | apply Kd.R_drew)); exact Kd.R_mono HO614.out (fun _ hk => hk.2)) : P := h
theorem βoa {P : Prop} (h : P := by repeat (first | (with_reducible first | exact HB.out | apply below_alloc | apply pw_below_drewN | apply below_drew1) | exact HB.out)) : P := h
theorem βpa {P : Prop} (h : P := by (with_reducible repeat (first | apply Kd.R_alloc | apply Kd.R_drewN | apply Kd.R_drew)); exact HO_5.out) : P := h
theorem βqa {P : Prop} (h : P := by repeat (first | exact Below.refl _ _ | apply pw_below_drewN | apply below_drew1 | apply below_alloc)) : P := h
theorem βra {P : Prop} (h : P := by simp only [putAll, Act.put, List.setIfInBounds_toArray, List.set_cons_zero, List.set_cons_succ]) : P := h
theorem βsa {P : Prop} (h : P := by first | rfl | (simp [errW_none, errW_some] <;> rfl) | (simp [*, errW_none, errW_some] <;> rfl)) : P := h
theorem βta {P : Prop} (h : P := by repeat (first | exact HB.out | apply pw_below_drewN | apply below_drew1 | apply below_alloc)) : P := h
theorem βua {P : Prop} (h : P := by have := HJ2.out; have := HJ25.out; have := HK3.out; have := HK4.out; omega) : P := h
theorem βva {P : Prop} (h : P := by have := HJ2.out; have := HK2.out; have := HK3.out; have := HK4.out; omega) : P := h
theorem βwa {P : Prop} (h : P := by repeat (first | exact Drawn0.refl _ | apply Drawn0.step)) : P := h
theorem βxa {P : Prop} (h : P := by first | (with_reducible assumption) | assumption) : P := h
theorem βya {P : Prop} (h : P := by first | rfl | (simp; done) | (simp [*]; done)) : P := h
theorem βza {P : Prop} (h : P := by rw [← hq_]; exact (zg1_ HB.out GE476.out)) : P := h
theorem βAa {P : Prop} (h : P := by first | (go_simp; done) | (go_simp; rfl)) : P := h
theorem βBa {P : Prop} (h : P := by first | omega | exact Nat.le_refl _) : P := h
theorem βCa {P : Prop} (h : P := by have := HK1.out; omega) : P := h
theorem βDa {P : Prop} (h : P := by kernel_rfl) : P := h
set_option maxHeartbeats 8000000
set_option maxRecDepth 100000
def errW : Option Int → Value
 | none => .nilIface
 | some c => .iface 0 (.int .i64 c)
theorem errW_none : errW none = .nilIface := rfl
theorem errW_some (c : Int) : errW (some c) = .iface 0 (.int .i64 c) := rfl
theorem info2 : (Tryd.prog.info? 2).map (fun i => (i.zero, i.size, i.bytes)) = some (some (.int .i64 0), 1, 8) := by kernel_rfl
theorem info5 : (Tryd.prog.info? 5).map (fun i => (i.zero, i.size, i.bytes)) = some (some (.int .u8 0), 1, 1) := by kernel_rfl
theorem info9 : (Tryd.prog.info? 9).map (fun i => (i.zero, i.size, i.bytes)) = some (some (.string ⟨#[]⟩), 1, 16) := by kernel_rfl
theorem info42 : (Tryd.prog.info? 42).map (fun i => (i.zero, i.size, i.bytes)) = some (some (.agg #[(.int .i64 0), (.int .i64 0), (.int .i64 0), (.string ⟨#[]⟩)]), 4, 40) := by kernel_rfl
theorem info71 : (Tryd.prog.info? 71).map (fun i => (i.zero, i.size, i.bytes)) = some (some (.int .u32 0), 1, 4) := by kernel_rfl
structure S42 where
 f0 : Int
 f1 : Int
 f2 : Int
 f3 : ByteArray
def z42 : S42 := ⟨(0 : Int), (0 : Int), (0 : Int), (⟨#[]⟩ : ByteArray)⟩
def k42 : Kd S42 := Kd.iso (Kd.pair (Kd.int .i64) (Kd.pair (Kd.int .i64) (Kd.pair (Kd.int .i64) Kd.string))) (fun x : S42 => (x.f0, x.f1, x.f2, x.f3))
theorem k42_open {w : World} {x : S42} {cs : List Value} (h : k42.K w x cs) : cs = [.int .i64 x.f0, .int .i64 x.f1, .int .i64 x.f2, .string x.f3] := by
 obtain ⟨_, _, rfl, rfl, ⟨_, _, rfl, rfl, ⟨_, _, rfl, rfl, rfl⟩⟩⟩ := h
 exact rfl
theorem k42_openM {w : World} {base : Nat} {ok : Nat → Prop} {x : S42} {cs : List Value} (h : k42.M w base ok x cs) : cs = [.int .i64 x.f0, .int .i64 x.f1, .int .i64 x.f2, .string x.f3] := by
 obtain ⟨_, _, rfl, rfl, ⟨_, _, rfl, rfl, ⟨_, _, rfl, rfl, rfl⟩⟩⟩ := h
 exact rfl
theorem k42_mkM (w : World) (base : Nat) (ok : Nat → Prop) (x : S42)  : k42.M w base ok x [.int .i64 x.f0, .int .i64 x.f1, .int .i64 x.f2, .string x.f3] := ⟨[.int .i64 x.f0], [.int .i64 x.f1, .int .i64 x.f2, .string x.f3], rfl, rfl, ⟨[.int .i64 x.f1], [.int .i64 x.f2, .string x.f3], rfl, rfl, ⟨[.int .i64 x.f2], [.string x.f3], rfl, rfl, rfl⟩⟩⟩
def rd_T42 (xs : List S42) (i : Int) : S42 := xs.getD i.toNat z42
theorem at_T42 {w : World} {A : Option Addr} {n : Nat} {xs : List S42} (h : Kd.C k42 w A n xs) (i : Int) (h0 : 0 ≤ i) (h1 : i < n) : ∃ ad , A = some ad ∧ w.cell? (ad.add (i.toNat * 4)) = some (.int .i64 (rd_T42 xs i).f0) ∧ w.cell? ⟨(ad.add (i.toNat * 4)).block, (ad.add (i.toNat * 4)).off + 1, none⟩ = some (.int .i64 (rd_T42 xs i).f1) ∧ w.cell? ⟨(ad.add (i.toNat * 4)).block, (ad.add (i.toNat * 4)).off + 2, none⟩ = some (.int .i64 (rd_T42 xs i).f2) ∧ w.cell? ⟨(ad.add (i.toNat * 4)).block, (ad.add (i.toNat * 4)).off + 3, none⟩ = some (.string (rd_T42 xs i).f3) := by
 obtain ⟨ad, c, e, _, hK, hc0⟩ := Kd.C_get h z42 i h0 h1
 have hc : ∀ j u, c[j]? = some u → w.cell? (ad.add (i.toNat * 4 + j)) = some u := hc0
 obtain rfl := k42_open hK
 exact ⟨ad, e, hc 0 _ rfl, (by rw [← add_field _ _ 1 (by omega)]; exact hc 1 _ rfl), (by rw [← add_field _ _ 2 (by omega)]; exact hc 2 _ rfl), (by rw [← add_field _ _ 3 (by omega)]; exact hc 3 _ rfl)⟩
end Go.Proofs.YtldhjbjbjoomcaaDoor.Q
namespace Go.Proofs.YtldhjbjbjoomcaaDoor.Q
open Go.RowKit Go.Proofs.YtldhjbjbjoomcaaDoorW.PrintWords Go.Proofs.YtldhjbjbjoomcaaDoorW.PrintLast Go.Proofs.YtldhjbjbjoomcaaDoorW.PrintMore
attribute [local go_sem] max2_int min2_int max_two min_two max_three min_three max_four min_four Instr.field asAgg
set_option linter.unusedVariables false
set_option linter.unusedSimpArgs false
set_option maxHeartbeats 8000000
set_option maxRecDepth 100000
def impl_bigBytes.l0 : Nat → Int → List Int → Int → Option (ByteArray)
 | 0, _, _, _ => none
 | k + 1, x0, x5, x6 => if x6 ≥ 0 then (if 0 ≤ x6 then (if x6 < (x5.length : Int) then (impl_bigBytes.l0 k (x0 / 256) (x5.set (x6 : Int).toNat ((x0) % 256)) (wrap64 (x6 - 1))) else (none)) else (none)) else (some (strOfNums x5))
def impl_bigBytes.f (k : Nat) (a0 : Int) (a1 : Int) : Option (ByteArray) := if 0 ≤ a1 then (if (a1 : Int).toNat ≤ 281474976710656 then (impl_bigBytes.l0 k a0 (List.replicate (a1 : Int).toNat 0) (wrap64 (a1 - 1))) else (none)) else (none)
theorem impl_bigBytes.calls (k : Nat) (a0 : Int) (a1 : Int) (r : ByteArray) (w : World) (h : impl_bigBytes.f k a0 a1 = some r) :
 Calls Tryd.prog 57 #[.int .u64 a0, .int .i64 a1] w fun e w' => e = .returned (.string r) ∧ Below w.heap.size w w' := by
 have HB := zA_ (Below.refl w.heap.size w)
 have H : (if 0 ≤ a1 then (if (a1 : Int).toNat ≤ 281474976710656 then (impl_bigBytes.l0 k a0 (List.replicate (a1 : Int).toNat 0) (wrap64 (a1 - 1))) else (none)) else (none)) = some r := h
 clear h
 by_cases c3 : 0 ≤ a1
 · rw [if_pos c3] at H
   have c3b0 := eq_true c3
   have c3b1 : decide (0 ≤ a1) = true := decide_eq_true c3
   clear c3
   by_cases c4 : (a1 : Int).toNat ≤ 281474976710656
   · rw [if_pos c4] at H
     have c4b0 := eq_true c4
     have c4b1 : decide ((a1 : Int).toNat ≤ 281474976710656) = true := decide_eq_true c4
     clear c4
     obtain ⟨y153, hy153⟩ : ∃ y_ : List Int, y_ = (List.replicate (a1 : Int).toNat 0) := ⟨_, rfl⟩
     replace H : (impl_bigBytes.l0 k a0 y153 (wrap64 (a1 - 1))) = some r := by first | (rw [hy153]; with_reducible exact H) | (have H2_ := (Option.bind_some _ _).symm.trans H; rw [hy153]; with_reducible exact H2_) | (have H2_ := (Option.bind_some _ _).symm.trans H; with_reducible exact H2_) | with_reducible exact H | (rw [hy153]; exact H) | exact H
     have Ny153 := zA_ hy153
     clear hy153
     have H' := zA_ H
     clear H
     go_enter Tryd.func57, Tryd.ntmps57
     go_wp2_with (first | ((with_reducible refine gate_dst (N := 8) rfl ?_); refine Kd.R_make (Kd.int .u8) _ 5 rfl (N := 8) rfl 24 _ _ rfl a1 rfl rfl Tryd.underlying24 (.int .u8 0) 1 info5 rfl (by decide) (by omega) 0 (ok := fun _ => True) (okp := fun _ => True) rfl (fun _ hk => hk) trivial (of_decide_eq_true βxa) (Nat.le_trans (Nat.mul_le_mul_right _ (of_decide_eq_true βxa : a1.toNat ≤ 281474976710656)) (by omega)) (Below.refl _ _) (Nat.le_refl _) ?_; intro v154 w5 ho6 hb hg_ hnew_; clear hg_ hnew_; (first | rw [← Ny153.out] at ho6 | (simp only [Int.reduceToNat] at ho6; rw [← Ny153.out] at ho6)); have n0_ := zA_ (Kd.R_lower ho6 (below_size (zh_ HB.out))); have n1_ := zA_ (below_step (zh_ HB.out) hb); clear HB; have HO155 := n0_; have HB := n1_; clear n0_ n1_; clear hb ho6))
     go_loopg [0, 6] k (fun kq v0 v6 w' => ∃ (x0_1 : Int) (x5_1 : List Int) (x6_1 : Int), v0 = .int .u64 x0_1 ∧ v6 = .int .i64 x6_1 ∧ Aside0 (impl_bigBytes.l0 kq x0_1 x5_1 x6_1 = some r) ∧ Aside0 (kq ≤ k) ∧ Aside0 (Kd.R (Kd.int .u8) 5 w' w.heap.size (fun _ => True) v154 x5_1) ∧ Aside0 (Below w.heap.size w w'))
     case atStart => exact ⟨(a0), (y153), (wrap64 (a1 - 1)), βya, βya, H', ⟨Nat.le_refl _⟩, ⟨zr_ HO155.out⟩, ⟨zh_ HB.out⟩⟩
     case round =>
      clear H'
      try clear p2
      try clear c3
      try clear c3b0
      try clear c3b1
      try clear c4
      try clear c4b0
      try clear c4b1
      try clear c5
      try clear p6
      obtain ⟨x0_1, x5_1, x6_1, rfl, rfl, HA, HK1, HO_5, HB⟩ := hrel
      cases gk with
      | zero => exact absurd HA.out (by simp [impl_bigBytes.l0])
      | succ k1 =>
       have H := HA.out
       clear HA
       simp only [impl_bigBytes.l0] at H
       by_cases c7 : x6_1 ≥ 0
       · rw [if_pos c7] at H
         have c7b0 : decide (0 ≤ x6_1) = true := decide_eq_true c7
         clear c7
         by_cases c8 : 0 ≤ x6_1
         · rw [if_pos c8] at H
           have c8b0 : decide (0 ≤ x6_1) = true := decide_eq_true c8
           clear c8
           by_cases c9 : x6_1 < (x5_1.length : Int)
           · rw [if_pos c9] at H
             have c9b0 : decide (x6_1 < (x5_1.length : Int)) = true := decide_eq_true c9
             clear c9
             obtain ⟨y156, hy156⟩ : ∃ y_ : List Int, y_ = (x5_1.set (x6_1 : Int).toNat ((x0_1) % 256)) := ⟨_, rfl⟩
             replace H : (impl_bigBytes.l0 k1 (x0_1 / 256) y156 (wrap64 (x6_1 - 1))) = some r := by first | (rw [hy156]; with_reducible exact H) | (have H2_ := (Option.bind_some _ _).symm.trans H; rw [hy156]; with_reducible exact H2_) | (have H2_ := (Option.bind_some _ _).symm.trans H; with_reducible exact H2_) | with_reducible exact H | (rw [hy156]; exact H) | exact H
             have Ny156 := zA_ hy156
             clear hy156
             have H' := zA_ H
             clear H
             have p10 : 0 ≤ (x6_1 : Int) := of_decide_eq_true βxa
             have q10 : (x6_1 : Int) < ((x5_1.length : Int) : Int) := of_decide_eq_true βxa
             obtain ⟨go10, co10, eo10, gb10, gl10, cl10, HG10⟩ := Kd.R_form HO_5.out (by omega)
             (first | cases eo10 | (injection eo10 with ea_ en_ ec_; (first | subst ea_ | (injection ea_ with ea_; subst ea_)); subst ec_; clear en_))
             have GB10 := zA_ gb10
             have GG10 := zA_ HG10
             clear gb10 gl10 HG10
             obtain ⟨hx10_0, hf10_0⟩ := Kd.R_celln 0 HO_5.out (x6_1 : Int) p10 q10
             replace p10 := eq_true p10
             replace q10 := eq_true q10
             have HP11 := Kd.R_putg HO_5.out (x6_1 : Int) ((x0_1) % 256)
             go_wp2_with (first | ((with_reducible refine gate_store (t := 5) (p := 19) rfl ?_); refine store_event (t := 5) (p := 19) (v := ?vo_w12) (w1 := (wr.setCell ⟨go10, (x6_1 : Int).toNat, none⟩ (.int .u8 ((x0_1) % 256)))) ?hg ?ho ?hn ?hr ?_; (case ho => exact (by rfl)); (case hg => exact (by rfl)); (case hn => exact (by rfl)); (case hr => exact (by first | (go_simp; done) | (go_simp; rfl) | (have hq_ := HQ_.out; subst hq_; go_simp; done) | (have hq_ := HQ_.out; subst hq_; go_simp; rfl))); intro w12 hw; have hg : wr.grownBy w12 (some go10) := (by rw [hw]; exact HP11.2); have hp_ : Kd.R (Kd.int .u8) 5 w12 w.heap.size (fun _ => True) (.slice (some ⟨go10, 0, none⟩) x5_1.length co10) y156 := (by rw [hw, Ny156.out]; exact HP11.1); clear HP11; have n0_ := zA_ (hp_); have n1_ := zA_ ((by rw [hw]; exact below_set (HB.out) GB10.out : Below w.heap.size w w12)); clear HO_5 HB; have HO_5 := n0_; have HB := n1_; clear n0_ n1_; clear hg hw hp_))
             go_roundg k1
             case measure => have := HK1.out; omega
             case rel => exact ⟨(x0_1 / 256), (y156), (wrap64 (x6_1 - 1)), βya, βya, H', ⟨βCa⟩, ⟨zr_ HO_5.out⟩, ⟨zh_ HB.out⟩⟩
           · rw [if_neg c9] at H
             exact absurd H (by simp)
         · rw [if_neg c8] at H
           exact absurd H (by simp)
       · rw [if_neg c7] at H
         have c7b0 : decide (0 ≤ x6_1) = false := decide_eq_false c7
         clear c7
         obtain rfl := Option.some.inj H
         have hcv13 := own_string (P := Tryd.prog) Tryd.underlying24 Tryd.underlying5 Tryd.underlying9 (Kd.own_of_R HO_5.out)
         go_wp2
         go_ret
         exact ⟨βsa, βoa⟩
   · rw [if_neg c4] at H
     exact absurd H (by simp)
 · rw [if_neg c3] at H
   exact absurd H (by simp)
def impl_bigWord.f (a0 : ByteArray) : Option (Int) := if 0 < (a0.size : Int) then (if 1 < (a0.size : Int) then (if 2 < (a0.size : Int) then (if 3 < (a0.size : Int) then (some (Go.bits .or .u32 (Go.bits .or .u32 (Go.bits .or .u32 ((((bt a0 0) % 4294967296) * 16777216) % 4294967296) ((((bt a0 1) % 4294967296) * 65536) % 4294967296)) ((((bt a0 2) % 4294967296) * 256) % 4294967296)) ((bt a0 3) % 4294967296))) else (none)) else (none)) else (none)) else (none)
theorem impl_bigWord.calls (a0 : ByteArray) (r : Int) (w : World) (h : impl_bigWord.f a0 = some r) :
 Calls Tryd.prog 83 #[.string a0] w fun e w' => e = .returned (.int .u32 r) ∧ Drawn0 w w' := by
 have H : (if 0 < (a0.size : Int) then (if 1 < (a0.size : Int) then (if 2 < (a0.size : Int) then (if 3 < (a0.size : Int) then (some (Go.bits .or .u32 (Go.bits .or .u32 (Go.bits .or .u32 ((((bt a0 0) % 4294967296) * 16777216) % 4294967296) ((((bt a0 1) % 4294967296) * 65536) % 4294967296)) ((((bt a0 2) % 4294967296) * 256) % 4294967296)) ((bt a0 3) % 4294967296))) else (none)) else (none)) else (none)) else (none)) = some r := h
 clear h
 by_cases c2 : 0 < (a0.size : Int)
 · rw [if_pos c2] at H
   have c2b0 : decide (0 < (a0.size : Int)) = true := decide_eq_true c2
   have c2b1 : decide (0 < a0.size) = true := decide_eq_true (by omega)
   clear c2
   by_cases c4 : 1 < (a0.size : Int)
   · rw [if_pos c4] at H
     have c4b0 : decide (1 < (a0.size : Int)) = true := decide_eq_true c4
     have c4b1 : decide (1 < a0.size) = true := decide_eq_true (by omega)
     clear c4
     by_cases c6 : 2 < (a0.size : Int)
     · rw [if_pos c6] at H
       have c6b0 : decide (2 < (a0.size : Int)) = true := decide_eq_true c6
       have c6b1 : decide (2 < a0.size) = true := decide_eq_true (by omega)
       clear c6
       by_cases c8 : 3 < (a0.size : Int)
       · rw [if_pos c8] at H
         have c8b0 : decide (3 < (a0.size : Int)) = true := decide_eq_true c8
         have c8b1 : decide (3 < a0.size) = true := decide_eq_true (by omega)
         clear c8
         obtain rfl := Option.some.inj H
         have p3 : 0 ≤ (0 : Int) := (by omega)
         have q3 : 0 < a0.size := (by have : (0 : Int) < (a0.size : Int) := of_decide_eq_true βxa; omega)
         have hx3 : ∀ h : 0 < a0.size, ((a0[0]'h).toNat : Int) = bt a0 0 := bt_at a0 0
         clear p3
         have qi3 : (0 < (a0.size : Int)) = True := eq_true (of_decide_eq_true βxa)
         replace q3 := eq_true q3
         have p5 : 0 ≤ (1 : Int) := (by omega)
         have q5 : 1 < a0.size := (by have : (1 : Int) < (a0.size : Int) := of_decide_eq_true βxa; omega)
         have hx5 : ∀ h : 1 < a0.size, ((a0[1]'h).toNat : Int) = bt a0 1 := bt_at a0 1
         clear p5
         have qi5 : (1 < (a0.size : Int)) = True := eq_true (of_decide_eq_true βxa)
         replace q5 := eq_true q5
         have p7 : 0 ≤ (2 : Int) := (by omega)
         have q7 : 2 < a0.size := (by have : (2 : Int) < (a0.size : Int) := of_decide_eq_true βxa; omega)
         have hx7 : ∀ h : 2 < a0.size, ((a0[2]'h).toNat : Int) = bt a0 2 := bt_at a0 2
         clear p7
         have qi7 : (2 < (a0.size : Int)) = True := eq_true (of_decide_eq_true βxa)
         replace q7 := eq_true q7
         have p9 : 0 ≤ (3 : Int) := (by omega)
         have q9 : 3 < a0.size := (by have : (3 : Int) < (a0.size : Int) := of_decide_eq_true βxa; omega)
         have hx9 : ∀ h : 3 < a0.size, ((a0[3]'h).toNat : Int) = bt a0 3 := bt_at a0 3
         clear p9
         have qi9 : (3 < (a0.size : Int)) = True := eq_true (of_decide_eq_true βxa)
         replace q9 := eq_true q9
         go_enter Tryd.func83, Tryd.ntmps83
         go_wp2
         repeat (go_quiet (fail); try go_wp2)
         go_ret
         exact ⟨βya, βwa⟩
       · rw [if_neg c8] at H
         exact absurd H (by simp)
     · rw [if_neg c6] at H
       exact absurd H (by simp)
   · rw [if_neg c4] at H
     exact absurd H (by simp)
 · rw [if_neg c2] at H
   exact absurd H (by simp)
end Go.Proofs.YtldhjbjbjoomcaaDoor.Q
namespace Go.Proofs.YtldhjbjbjoomcaaDoor.Q
open Go.RowKit Go.Proofs.YtldhjbjbjoomcaaDoorW.PrintWords Go.Proofs.YtldhjbjbjoomcaaDoorW.PrintLast Go.Proofs.YtldhjbjbjoomcaaDoorW.PrintMore
attribute [local go_sem] max2_int min2_int max_two min_two max_three min_three max_four min_four Instr.field asAgg
set_option linter.unusedVariables false
set_option linter.unusedSimpArgs false
def dg.tn (x : Int) (k : Nat) : Int := Go.bits .or .u32 (x * 2 ^ (32 - k) % 4294967296) (x / 2 ^ k)
def dg.cells (xs : List Int) : Array Value := (xs.map (fun x => Value.int .u32 x)).toArray
theorem dg.cells_get (xs : List Int) (i : Nat) (h : i < xs.length) : (dg.cells xs)[i]? = some (.int .u32 (rd xs (i : Int))) := by
  simp [dg.cells, rd, h]
theorem dg.cells_set (xs : List Int) (i : Nat) (x : Int) : (dg.cells xs).setIfInBounds i (.int .u32 x) = dg.cells (xs.set i x) := by
  simp [dg.cells, List.map_set]
theorem dg.blk_read {w : World} {g : Nat} {t : TypeId} {xs : List Int} (h : w.heap[g]? = some (.cells (dg.cells xs) t (0, 0))) (i : Nat) (hi : i < xs.length) : w.cell? ⟨g, i, none⟩ = some (.int .u32 (rd xs (i : Int))) := (blk_cell h i).trans (dg.cells_get xs i hi)
theorem dg.blk_write {w : World} {g : Nat} {t : TypeId} {xs : List Int} (h : w.heap[g]? = some (.cells (dg.cells xs) t (0, 0))) (i : Nat) (x : Int) : (w.setCell ⟨g, i, none⟩ (.int .u32 x)).heap[g]? = some (.cells (dg.cells (xs.set i x)) t (0, 0)) := blk_put h i _ (dg.cells_set xs i x)
theorem dg.amt : ∀ k : Fin 32, 0 < k.val → Go.bits .and .u64 (IntKind.u64.wrap (wrap64 (-(k.val : Int)))) 31 = 32 - (k.val : Int) := by decide +kernel
theorem dg.turned (x : Int) (k : Nat) (K : Int) (hK : (k : Int) = K) (h0 : 0 < k) (h1 : k < 32) (w : World) : Calls Tryd.prog 84 #[.int .u32 x, .int .i64 K] w fun e w' => e = .returned (.int .u32 (dg.tn x k)) ∧ w' = w := by
  subst hK
  have ha := dg.amt ⟨k, h1⟩ h0
  have hn : IntKind.i64.wrap (-(k : Int)) = wrap64 (-(k : Int)) := i64_w _
  have hs : (0 : Int) ≤ 32 - (k : Int) := by omega
  have e : IntKind.u64.wrap (32 - (32 - (k : Int))) = (k : Int) := by simp [IntKind.wrap, IntKind.bits, IntKind.signed]; omega
  have hk : (0 : Int) ≤ (k : Int) := by omega
  go_enter Tryd.func84, Tryd.ntmps84
  go_wp2
  go_ret
  exact ⟨rfl, rfl⟩
def dg.w4 (s : ByteArray) : Int := Go.bits .or .u32 (Go.bits .or .u32 (Go.bits .or .u32 ((((bt s 0) % 4294967296) * 16777216) % 4294967296) ((((bt s 1) % 4294967296) * 65536) % 4294967296)) ((((bt s 2) % 4294967296) * 256) % 4294967296)) ((bt s 3) % 4294967296)
theorem dg.word (s : ByteArray) (h : 4 ≤ s.size) : impl_bigWord.f s = some (dg.w4 s) := by
  unfold impl_bigWord.f
  rw [if_pos (by omega), if_pos (by omega), if_pos (by omega), if_pos (by omega)]; rfl
def dg.nxt (L : List Int) (i : Nat) : Int :=
  (rd L ((i - 16 : Nat) : Int) + Go.bits .xor .u32 (Go.bits .xor .u32 (dg.tn (rd L ((i - 15 : Nat) : Int)) 7) (dg.tn (rd L ((i - 15 : Nat) : Int)) 18)) (rd L ((i - 15 : Nat) : Int) / 8) + rd L ((i - 7 : Nat) : Int) + Go.bits .xor .u32 (Go.bits .xor .u32 (dg.tn (rd L ((i - 2 : Nat) : Int)) 17) (dg.tn (rd L ((i - 2 : Nat) : Int)) 19)) (rd L ((i - 2 : Nat) : Int) / 1024)) % 4294967296
def dg.W (b : ByteArray) : Nat → List Int
  | 0 => List.replicate 64 0
  | i + 1 => (dg.W b i).set i (if i < 16 then dg.w4 (b.extract (4 * i) 64) else dg.nxt (dg.W b i) i)
theorem dg.W_length (b : ByteArray) : ∀ i, (dg.W b i).length = 64
  | 0 => List.length_replicate
  | i + 1 => by rw [dg.W, List.length_set]; exact dg.W_length b i
theorem dg.at_ {P : Program} {c : Code} {Q : Exit → Act → World → Prop} {a : Act} {W : World} (h : ∀ W1, W = W1 → Code.wp P c Q a W1) : Code.wp P c Q a W := h W rfl
theorem dg.still {P : Program} {id : Nat} {Q : Exit → Act → World → Prop} {a : Act} {w : World} {l : List Oper} (n : Nat) (hm : P.follows .mixedOrders = true) (hB : Region.lexTailB .any l.toArray n = true)
    (h : wpStill P l.toArray w.drew (fun a' => wpList P l.toArray Q (l.drop n) a' w.drew) (l.take n) a) : (Code.region id l.toArray true).wp P Q a w := wp_region_still_tail n hm hB h
structure dg.St where
  a : Int
  b : Int
  c : Int
  d : Int
  e : Int
  f : Int
  g : Int
  h : Int
def dg.t1 (s : dg.St) (kx wx : Int) : Int := (s.h + Go.bits .xor .u32 (Go.bits .xor .u32 (dg.tn s.e 6) (dg.tn s.e 11)) (dg.tn s.e 25) + Go.bits .xor .u32 (Go.bits .and .u32 s.e s.f) (Go.bits .and .u32 (Go.bits .xor .u32 IntKind.u32.max s.e) s.g) + kx + wx)
def dg.t2 (s : dg.St) : Int := (Go.bits .xor .u32 (Go.bits .xor .u32 (dg.tn s.a 2) (dg.tn s.a 13)) (dg.tn s.a 22) + Go.bits .xor .u32 (Go.bits .xor .u32 (Go.bits .and .u32 s.a s.b) (Go.bits .and .u32 s.a s.c)) (Go.bits .and .u32 s.b s.c))
def dg.rnd (s : dg.St) (kx wx : Int) : dg.St := ⟨(dg.t1 s kx wx + dg.t2 s) % 4294967296, s.a, s.b, s.c, (s.d + dg.t1 s kx wx) % 4294967296, s.e, s.f, s.g⟩
def dg.keys : List Int := [1116352408, 1899447441, 3049323471, 3921009573, 961987163, 1508970993, 2453635748, 2870763221, 3624381080, 310598401, 607225278, 1426881987, 1925078388, 2162078206, 2614888103, 3248222580, 3835390401, 4022224774, 264347078, 604807628, 770255983, 1249150122, 1555081692, 1996064986, 2554220882, 2821834349, 2952996808, 3210313671, 3336571891, 3584528711, 113926993, 338241895, 666307205, 773529912, 1294757372, 1396182291, 1695183700, 1986661051, 2177026350, 2456956037, 2730485921, 2820302411, 3259730800, 3345764771, 3516065817, 3600352804, 4094571909, 275423344, 430227734, 506948616, 659060556, 883997877, 958139571, 1322822218, 1537002063, 1747873779, 1955562222, 2024104815, 2227730452, 2361852424, 2428436474, 2756734187, 3204031479, 3329325298]
def dg.init (xs : List Int) : dg.St := ⟨rd xs 0, rd xs 1, rd xs 2, rd xs 3, rd xs 4, rd xs 5, rd xs 6, rd xs 7⟩
def dg.rnds (ws : List Int) (s : dg.St) : Nat → dg.St
  | 0 => s
  | n + 1 => dg.rnd (dg.rnds ws s n) (rd dg.keys (n : Int)) (rd ws (n : Int))
def dg.out (s : dg.St) : List Int := [s.a, s.b, s.c, s.d, s.e, s.f, s.g, s.h]
def dg.add (xs vs : List Int) : Nat → List Int
  | 0 => xs
  | n + 1 => (dg.add xs vs n).set n ((rd (dg.add xs vs n) (n : Int) + rd vs (n : Int)) % 4294967296)
theorem dg.add_length (xs vs : List Int) : ∀ n, (dg.add xs vs n).length = xs.length
  | 0 => rfl
  | n + 1 => by rw [dg.add, List.length_set]; exact dg.add_length xs vs n
theorem Below.trans_le_ {b b' : Nat} {w w' : World} (h : Below b w w') (hb : b' ≤ b) : Below b' w w' := ⟨h.os, h.tape, h.output, h.size, fun i hi => h.block i (Nat.lt_of_lt_of_le hi hb)⟩
def dg.block (xs : List Int) (b : ByteArray) : List Int := dg.add xs (dg.out (dg.rnds (dg.W b 64) (dg.init xs) 64)) 8
theorem dg.run_index (S : dg.St) (i : Nat) (hi : i < 8) (W : World) : (Instr.index 72 (.agg #[.int .u32 S.a, .int .u32 S.b, .int .u32 S.c, .int .u32 S.d, .int .u32 S.e, .int .u32 S.f, .int .u32 S.g, .int .u32 S.h]) (.int .i64 (i : Int))).run Tryd.prog W = .ok (.int .u32 (rd (dg.out S) (i : Int))) W := by
  have hu : Tryd.prog.underlying 72 = some (.array 8 71) := Tryd.underlying72
  have hc : i = 0 ∨ i = 1 ∨ i = 2 ∨ i = 3 ∨ i = 4 ∨ i = 5 ∨ i = 6 ∨ i = 7 := by omega
  rcases hc with rfl | rfl | rfl | rfl | rfl | rfl | rfl | rfl <;> simp [Instr.index, run_underlying hu, asIntOf, go_sem, rd, dg.out]
theorem dg.still0 {P : Program} {id : Nat} {Q : Exit → Act → World → Prop} {a : Act} {w : World} {l : List Oper} (hm : P.follows .mixedOrders = true) (hB : Region.lexB .any l.toArray = true)
    (h : wpStill P l.toArray w.drew (fun a' => Q .normal a' w.drew) l a) : (Code.region id l.toArray true).wp P Q a w := wp_region_still_lit hm hB h
set_option maxHeartbeats 8000000 in
set_option maxRecDepth 100000 in
theorem impl_digestBlock.calls (g : Nat) (xs : List Int) (b : ByteArray) (w : World) (hx : xs.length = 8) (hb : b.size = 64) (hS : w.heap[g]? = some (.cells (dg.cells xs) 72 (0, 0))) (hK : Aside0 (∀ i : Nat, i < 64 → w.cell? ⟨1, i, none⟩ = some (.int .u32 (rd dg.keys (i : Int))))) :
    Calls Tryd.prog 58 #[.pointer (some ⟨g, 0, none⟩), .string b] w fun e w' => e = .returned (.tuple #[]) ∧ w'.heap[g]? = some (.cells (dg.cells (dg.block xs b)) 72 (0, 0)) ∧ Below g w w' := by
  have R7 := Aside0.mk (fun (x : Int) (w : World) => dg.turned x 7 7 rfl (by decide) (by decide) w)
  have R18 := Aside0.mk (fun (x : Int) (w : World) => dg.turned x 18 18 rfl (by decide) (by decide) w)
  have R17 := Aside0.mk (fun (x : Int) (w : World) => dg.turned x 17 17 rfl (by decide) (by decide) w)
  have R19 := Aside0.mk (fun (x : Int) (w : World) => dg.turned x 19 19 rfl (by decide) (by decide) w)
  have R6 := Aside0.mk (fun (x : Int) (w : World) => dg.turned x 6 6 rfl (by decide) (by decide) w)
  have R11 := Aside0.mk (fun (x : Int) (w : World) => dg.turned x 11 11 rfl (by decide) (by decide) w)
  have R25 := Aside0.mk (fun (x : Int) (w : World) => dg.turned x 25 25 rfl (by decide) (by decide) w)
  have R2 := Aside0.mk (fun (x : Int) (w : World) => dg.turned x 2 2 rfl (by decide) (by decide) w)
  have R13 := Aside0.mk (fun (x : Int) (w : World) => dg.turned x 13 13 rfl (by decide) (by decide) w)
  have R22 := Aside0.mk (fun (x : Int) (w : World) => dg.turned x 22 22 rfl (by decide) (by decide) w)
  go_enter Tryd.func58, Tryd.ntmps58
  go_wp2
  refine dg.at_ (fun wa hwa => ?_)
  have HW := Aside0.mk (show wa.heap[w.heap.size]? = some (.cells (dg.cells (dg.W b 0)) 102 (0, 0)) from by rw [← hwa]; exact blk_new _ _)
  have HB := Aside0.mk (show Below w.heap.size w wa from by rw [← hwa]; exact below_alloc (Below.refl _ _) _)
  clear hwa
  go_loopg [23] 64 (fun gg v23 wr => ∃ i : Nat, v23 = .int .i64 (i : Int) ∧ Aside0 (i ≤ 64) ∧ Aside0 (64 ≤ i + gg) ∧ Aside0 (wr.heap[w.heap.size]? = some (.cells (dg.cells (dg.W b i)) 102 (0, 0))) ∧ Aside0 (Below w.heap.size w wr))
  case atStart => exact ⟨0, rfl, ⟨by omega⟩, ⟨by omega⟩, HW, HB⟩
  case round =>
    clear HW HB
    obtain ⟨i, rfl, HI, HGG, HW, HB⟩ := hrel
    by_cases hi : i < 64
    · have hz : decide ((i : Int) < 64) = true := decide_eq_true (by omega)
      have hz' : decide (i < 64) = true := decide_eq_true hi
      have p1 : (0 : Int) ≤ (i : Int) := by omega
      have q1 : (i : Int) < 64 := by omega
      have HLT := Aside0.mk hi
      have hfr := blk_frozen HW.out i
      by_cases h16 : i < 16
      · have hc : decide ((i : Int) < 16) = true := decide_eq_true (by omega)
        have hc' : decide (i < 16) = true := decide_eq_true h16
        have hold := dg.blk_read HW.out i (by rw [dg.W_length]; exact hi)
        have w4 : IntKind.i64.wrap (4 * (i : Int)) = 4 * (i : Int) := by rw [i64_w]; unfold wrap64; omega
        have s0 : (0 : Int) ≤ 4 * (i : Int) := by omega
        have s1 : 4 * (i : Int) ≤ 64 := by omega
        have hb' : (b.size : Int) = 64 := by omega
        have HWD := Aside0.mk (dg.word (b.extract (4 * i) 64) (by rw [ByteArray.size_extract]; omega))
        have HST := Aside0.mk (show dg.W b (i + 1) = (dg.W b i).set i (dg.w4 (b.extract (4 * i) 64)) by rw [dg.W, if_pos h16])
        clear hi h16
        go_wp2_with (go_at_call 83; (with_reducible refine (impl_bigWord.calls _ _ _ HWD.out).mono ?_); rintro e w1 ⟨rfl, ⟨nd, rfl⟩⟩)
        go_roundg (64 - (i + 1))
        case measure => have := HGG.out; have := HLT.out; omega
        case rel => exact ⟨i + 1, by first | rfl | (have := HLT.out; rw [show wrap64 ((i : Int) + 1) = ((i + 1 : Nat) : Int) by unfold wrap64; omega]), ⟨by have := HLT.out; omega⟩, ⟨by omega⟩, ⟨by rw [HST.out]; exact dg.blk_write (w := wr.drewN nd) HW.out i _⟩, ⟨below_set (pw_below_drewN HB.out nd) (Nat.le_refl _)⟩⟩
      · have hc : decide ((i : Int) < 16) = false := decide_eq_false (by omega)
        have hc' : decide (i < 16) = false := decide_eq_false h16
        have HST := Aside0.mk (show dg.W b (i + 1) = (dg.W b i).set i (dg.nxt (dg.W b i) i) by rw [dg.W, if_neg h16])
        have hl := dg.W_length b i
        generalize dg.W b i = L at HW HST hl
        have a15 : IntKind.i64.wrap ((i : Int) - 15) = ((i - 15 : Nat) : Int) := by rw [i64_w]; unfold wrap64; omega
        have a2 : IntKind.i64.wrap ((i : Int) - 2) = ((i - 2 : Nat) : Int) := by rw [i64_w]; unfold wrap64; omega
        have a16 : IntKind.i64.wrap ((i : Int) - 16) = ((i - 16 : Nat) : Int) := by rw [i64_w]; unfold wrap64; omega
        have a7 : IntKind.i64.wrap ((i : Int) - 7) = ((i - 7 : Nat) : Int) := by rw [i64_w]; unfold wrap64; omega
        have c15 := dg.blk_read HW.out (i - 15) (by omega)
        have c2 := dg.blk_read HW.out (i - 2) (by omega)
        have c16 := dg.blk_read HW.out (i - 16) (by omega)
        have c7 := dg.blk_read HW.out (i - 7) (by omega)
        have hold := dg.blk_read HW.out i (by omega)
        have b15 : ((i - 15 : Nat) : Int) < 64 := by omega
        have b2 : ((i - 2 : Nat) : Int) < 64 := by omega
        have b16 : ((i - 16 : Nat) : Int) < 64 := by omega
        have b7 : ((i - 7 : Nat) : Int) < 64 := by omega
        have n15 : i - 15 < 64 := by omega
        have n2 : i - 2 < 64 := by omega
        have n16 : i - 16 < 64 := by omega
        have n7 : i - 7 < 64 := by omega
        have H16 := Aside0.mk h16
        clear hi h16
        go_wp2
        refine dg.still0 (by kernel_rfl) (by kernel_rfl) ?_
        repeat still_step
        refine wpStill_nil ?_
        go_wp2_with (first
          | (go_at_call 84; (with_reducible refine (R7.out _ _).mono ?_); rintro e w1 ⟨rfl, rfl⟩)
          | (go_at_call 84; (with_reducible refine (R18.out _ _).mono ?_); rintro e w1 ⟨rfl, rfl⟩)
          | (go_at_call 84; (with_reducible refine (R17.out _ _).mono ?_); rintro e w1 ⟨rfl, rfl⟩)
          | (go_at_call 84; (with_reducible refine (R19.out _ _).mono ?_); rintro e w1 ⟨rfl, rfl⟩))
        refine dg.still 15 (by kernel_rfl) (by kernel_rfl) ?_
        simp only [List.take_succ_cons, List.take_zero, List.drop_succ_cons, List.drop_zero]
        repeat still_step
        refine wpStill_nil ?_
        go_wp2
        go_roundg (64 - (i + 1))
        case measure => have := HGG.out; have := HLT.out; omega
        case rel => exact ⟨i + 1, by first | rfl | (have := HLT.out; rw [show wrap64 ((i : Int) + 1) = ((i + 1 : Nat) : Int) by unfold wrap64; omega]), ⟨by have := HLT.out; omega⟩, ⟨by omega⟩, ⟨by rw [HST.out]; first | exact dg.blk_write (w := wr) HW.out i _ | exact blk_drewN (dg.blk_write (w := wr) HW.out i _) _ | exact dg.blk_write (w := wr.drewN _) HW.out i _ | exact dg.blk_write (w := wr.drew) HW.out i _⟩, ⟨by repeat (first | exact HB.out | (refine below_set ?_ (Nat.le_refl _)) | apply pw_below_drewN | apply below_drew1)⟩⟩
    · have hz : decide ((i : Int) < 64) = false := decide_eq_false (by omega)
      obtain rfl : i = 64 := by have := HI.out; omega
      clear hi HGG HI
      have HWL := Aside0.mk (dg.W_length b 64)
      have HRES := Aside0.mk (show dg.block xs b = dg.add xs (dg.out (dg.rnds (dg.W b 64) (dg.init xs) 64)) 8 from rfl)
      generalize dg.W b 64 = W64 at HW HWL HRES
      have HS := Aside0.mk (show wr.heap[g]? = some (.cells (dg.cells xs) 72 (0, 0)) from (HB.out.block g (blk_lt hS)).trans hS)
      have x0 : wr.cell? ⟨g, 0, none⟩ = some (.int .u32 (rd xs 0)) := dg.blk_read HS.out 0 (by omega)
      have x1 : wr.cell? ⟨g, 1, none⟩ = some (.int .u32 (rd xs 1)) := dg.blk_read HS.out 1 (by omega)
      have x2 : wr.cell? ⟨g, 2, none⟩ = some (.int .u32 (rd xs 2)) := dg.blk_read HS.out 2 (by omega)
      have x3 : wr.cell? ⟨g, 3, none⟩ = some (.int .u32 (rd xs 3)) := dg.blk_read HS.out 3 (by omega)
      have x4 : wr.cell? ⟨g, 4, none⟩ = some (.int .u32 (rd xs 4)) := dg.blk_read HS.out 4 (by omega)
      have x5 : wr.cell? ⟨g, 5, none⟩ = some (.int .u32 (rd xs 5)) := dg.blk_read HS.out 5 (by omega)
      have x6 : wr.cell? ⟨g, 6, none⟩ = some (.int .u32 (rd xs 6)) := dg.blk_read HS.out 6 (by omega)
      have x7 : wr.cell? ⟨g, 7, none⟩ = some (.int .u32 (rd xs 7)) := dg.blk_read HS.out 7 (by omega)
      go_wp2
      refine dg.still0 (by kernel_rfl) (by kernel_rfl) ?_
      repeat still_step
      refine wpStill_nil ?_
      clear x0 x1 x2 x3 x4 x5 x6 x7
      go_wp2
      go_loopg [10, 11, 12, 13, 14, 15, 16, 17, 107] 64 (fun gg v10 v11 v12 v13 v14 v15 v16 v17 v107 wr => ∃ i : Nat, (v10 = .int .u32 (dg.rnds W64 (dg.init xs) i).a ∧ v11 = .int .u32 (dg.rnds W64 (dg.init xs) i).b ∧ v12 = .int .u32 (dg.rnds W64 (dg.init xs) i).c ∧ v13 = .int .u32 (dg.rnds W64 (dg.init xs) i).d ∧ v14 = .int .u32 (dg.rnds W64 (dg.init xs) i).e ∧ v15 = .int .u32 (dg.rnds W64 (dg.init xs) i).f ∧ v16 = .int .u32 (dg.rnds W64 (dg.init xs) i).g ∧ v17 = .int .u32 (dg.rnds W64 (dg.init xs) i).h) ∧ v107 = .int .i64 (i : Int) ∧ Aside0 (i ≤ 64) ∧ Aside0 (64 ≤ i + gg) ∧ Aside0 (wr.heap[w.heap.size]? = some (.cells (dg.cells W64) 102 (0, 0))) ∧ Aside0 (Below w.heap.size w wr))
      case atStart => exact ⟨0, ⟨rfl, rfl, rfl, rfl, rfl, rfl, rfl, rfl⟩, rfl, ⟨by omega⟩, ⟨by omega⟩, ⟨blk_drew HW.out⟩, ⟨below_drew1 HB.out⟩⟩
      case round =>
        clear HW HB HS
        obtain ⟨i, ⟨rfl, rfl, rfl, rfl, rfl, rfl, rfl, rfl⟩, rfl, HI, HGG, HW, HB⟩ := hrel
        by_cases hi : i < 64
        · have hz : decide ((i : Int) < 64) = true := decide_eq_true (by omega)
          have hz' : decide (i < 64) = true := decide_eq_true hi
          have p1 : (0 : Int) ≤ (i : Int) := by omega
          have q1 : (i : Int) < 64 := by omega
          have HLT := Aside0.mk hi
          have hl := HWL.out
          have HST := Aside0.mk (show dg.rnds W64 (dg.init xs) (i + 1) = dg.rnd (dg.rnds W64 (dg.init xs) i) (rd dg.keys (i : Int)) (rd W64 (i : Int)) from rfl)
          have cw := dg.blk_read HW.out i (by omega)
          have ck := (HB.out.cell (World.block_lt_of_cell? _ _ (hK.out i hi))).trans (hK.out i hi)
          generalize rd dg.keys (i : Int) = kx at HST ck
          generalize rd W64 (i : Int) = wx at HST cw
          generalize dg.rnds W64 (dg.init xs) i = S at HST
          obtain ⟨a, bb, c, d, ee, f, gx, hh⟩ := S
          clear hi
          go_wp2
          refine dg.still0 (by kernel_rfl) (by kernel_rfl) ?_
          repeat still_step
          still_call (R6.out _ _)
          repeat still_step
          still_call (R11.out _ _)
          repeat still_step
          still_call (R25.out _ _)
          repeat still_step
          refine wpStill_nil ?_
          go_wp2_with (first
            | (go_at_call 84; (with_reducible refine (R2.out _ _).mono ?_); rintro e w1 ⟨rfl, rfl⟩)
            | (go_at_call 84; (with_reducible refine (R13.out _ _).mono ?_); rintro e w1 ⟨rfl, rfl⟩)
            | (go_at_call 84; (with_reducible refine (R22.out _ _).mono ?_); rintro e w1 ⟨rfl, rfl⟩))
          go_roundg (64 - (i + 1))
          case measure => have := HGG.out; have := HLT.out; omega
          case rel => exact ⟨i + 1, by rw [HST.out]; exact ⟨rfl, rfl, rfl, rfl, rfl, rfl, rfl, rfl⟩, by first | rfl | (have := HLT.out; rw [show wrap64 ((i : Int) + 1) = ((i + 1 : Nat) : Int) by unfold wrap64; omega]), ⟨by have := HLT.out; omega⟩, ⟨by omega⟩, ⟨HW.out⟩, ⟨by repeat (first | exact HB.out | apply pw_below_drewN | apply below_drew1)⟩⟩
        · have hz : decide ((i : Int) < 64) = false := decide_eq_false (by omega)
          obtain rfl : i = 64 := by have := HI.out; omega
          have HS2 := Aside0.mk (show wr.heap[g]? = some (.cells (dg.cells xs) 72 (0, 0)) from (HB.out.block g (blk_lt hS)).trans hS)
          have HBg := Aside0.mk (Below.trans_le_ HB.out (Nat.le_of_lt (blk_lt hS)))
          clear hi HGG HI HW HB
          generalize dg.rnds W64 (dg.init xs) 64 = S at HRES
          go_wp2
          go_loopg [179] 8 (fun gg v179 wr => ∃ i : Nat, v179 = .int .i64 (i : Int) ∧ Aside0 (i ≤ 8) ∧ Aside0 (8 ≤ i + gg) ∧ Aside0 (wr.heap[g]? = some (.cells (dg.cells (dg.add xs (dg.out S) i)) 72 (0, 0))) ∧ Aside0 (Below g w wr))
          case atStart => exact ⟨0, rfl, ⟨by omega⟩, ⟨by omega⟩, HS2, HBg⟩
          case round =>
            clear HS2 HBg
            obtain ⟨i, rfl, HI, HGG, HW, HB⟩ := hrel
            by_cases hi : i < 8
            · have HX := Aside0.mk (show dg.add xs (dg.out S) (i + 1) = (dg.add xs (dg.out S) i).set i ((rd (dg.add xs (dg.out S) i) (i : Int) + rd (dg.out S) (i : Int)) % 4294967296) from rfl)
              have HL := Aside0.mk (dg.add_length xs (dg.out S) i)
              generalize dg.add xs (dg.out S) i = L at HW HX HL
              have cg := dg.blk_read HW.out i (by have := HL.out; omega)
              have fg := blk_frozen HW.out i
              have hx1 := fun W => dg.run_index S i hi W
              have hz : decide ((i : Int) < 8) = true := decide_eq_true (by omega)
              have hz' : decide (i < 8) = true := decide_eq_true hi
              have p1 : (0 : Int) ≤ (i : Int) := by omega
              have q1 : (i : Int) < 8 := by omega
              have HLT := Aside0.mk hi
              generalize rd (dg.out S) (i : Int) = y at hx1 HX
              go_wp2
              refine dg.still 9 (by kernel_rfl) (by kernel_rfl) ?_
              simp only [List.take_succ_cons, List.take_zero, List.drop_succ_cons, List.drop_zero]
              repeat still_step
              refine wpStill_nil ?_
              go_wp2
              go_roundg (8 - (i + 1))
              case measure => have := HGG.out; have := HLT.out; omega
              case rel => exact ⟨i + 1, by first | rfl | (have := HLT.out; rw [show wrap64 ((i : Int) + 1) = ((i + 1 : Nat) : Int) by unfold wrap64; omega]), ⟨by have := HLT.out; omega⟩, ⟨by omega⟩, ⟨by rw [HX.out]; first | exact dg.blk_write (w := wr) HW.out i _ | exact blk_drewN (dg.blk_write (w := wr) HW.out i _) _ | exact dg.blk_write (w := wr.drewN _) HW.out i _ | exact dg.blk_write (w := wr.drew) HW.out i _⟩, ⟨by first | exact HB.out.setCell (p := ⟨g, i, none⟩) (Nat.le_refl g) _ | exact (below_drew HB.out).setCell (p := ⟨g, i, none⟩) (Nat.le_refl g) _ | exact below_drew (HB.out.setCell (p := ⟨g, i, none⟩) (Nat.le_refl g) _) | exact pw_below_drewN (HB.out.setCell (p := ⟨g, i, none⟩) (Nat.le_refl g) _) _⟩⟩
            · have hz : decide ((i : Int) < 8) = false := decide_eq_false (by omega)
              obtain rfl : i = 8 := by have := HI.out; omega
              clear hi HGG HI
              go_wp2
              first | go_end0 | ((try simp only [Exit.inBlock, Exit.then]); refine bodyPost_ret (results_none rfl _ _ _) rfl ?_)
              exact ⟨rfl, by rw [HRES.out]; exact HW.out, HB.out⟩
end Go.Proofs.YtldhjbjbjoomcaaDoor.Q
namespace Go.Proofs.YtldhjbjbjoomcaaDoor.Q
open Go.RowKit Go.Proofs.YtldhjbjbjoomcaaDoorW.PrintWords Go.Proofs.YtldhjbjbjoomcaaDoorW.PrintLast Go.Proofs.YtldhjbjbjoomcaaDoorW.PrintMore
attribute [local go_sem] max2_int min2_int max_two min_two max_three min_three max_four min_four Instr.field asAgg
set_option linter.unusedVariables false
set_option linter.unusedSimpArgs false
set_option maxHeartbeats 8000000
set_option maxRecDepth 100000
def spec_l02Start.f  : Option (List Int) := some (([1779033703, 3144134277, 1013904242, 2773480762, 1359893119, 2600822924, 528734635, 1541459225] : List Int))
theorem spec_l02Start.calls  (r : List Int) (w : World) (h : spec_l02Start.f  = some r) :
 Calls Tryd.prog 54 #[] w fun e w' => ∃ v0_ : Value, e = .returned (v0_) ∧ Kd.R (Kd.int .i64) 2 w' w.heap.size (fun _ => True) v0_ r ∧ Below w.heap.size w w' := by
 have HB := zA_ (Below.refl w.heap.size w)
 have H : (some (([1779033703, 3144134277, 1013904242, 2773480762, 1359893119, 2600822924, 528734635, 1541459225] : List Int))) = some r := h
 clear h
 obtain ⟨y101, hy101⟩ : ∃ y_ : List Int, y_ = (([1779033703, 3144134277, 1013904242, 2773480762, 1359893119, 2600822924, 528734635, 1541459225] : List Int)) := ⟨_, rfl⟩
 replace H : (some y101) = some r := by first | (rw [hy101]; with_reducible exact H) | (have H2_ := (Option.bind_some _ _).symm.trans H; rw [hy101]; with_reducible exact H2_) | (have H2_ := (Option.bind_some _ _).symm.trans H; with_reducible exact H2_) | with_reducible exact H | (rw [hy101]; exact H) | exact H
 have Ny101 := zA_ hy101
 clear hy101
 obtain rfl := Option.some.inj H
 go_enter Tryd.func54, Tryd.ntmps54
 go_wp2_with (first | ((with_reducible refine gate_dst (N := 1) rfl ?_); refine Kd.R_lit (Kd.int .i64) _ 2 ?hg (N := 1) ?hd (xs := ([1779033703, 3144134277, 1013904242, 2773480762, 1359893119, 2600822924, 528734635, 1541459225] : List Int)) (inner := [.int .i64 1779033703, .int .i64 3144134277, .int .i64 1013904242, .int .i64 2773480762, .int .i64 1359893119, .int .i64 2600822924, .int .i64 528734635, .int .i64 1541459225]) (ok := fun _ => True) (okp := fun _ => True) ?hr ?hp (fun _ hk => hk) trivial (Below.refl _ _) (Nat.le_refl _) (by simp) ?_; (case hd => exact (by rfl)); (case hg => exact (by rfl)); (case hr => exact βAa); (case hp => exact (Reps.one (show Kd.M (Kd.int .i64) _ _ _ 1779033703 [.int .i64 1779033703] from rfl) (Reps.one (show Kd.M (Kd.int .i64) _ _ _ 3144134277 [.int .i64 3144134277] from rfl) (Reps.one (show Kd.M (Kd.int .i64) _ _ _ 1013904242 [.int .i64 1013904242] from rfl) (Reps.one (show Kd.M (Kd.int .i64) _ _ _ 2773480762 [.int .i64 2773480762] from rfl) (Reps.one (show Kd.M (Kd.int .i64) _ _ _ 1359893119 [.int .i64 1359893119] from rfl) (Reps.one (show Kd.M (Kd.int .i64) _ _ _ 2600822924 [.int .i64 2600822924] from rfl) (Reps.one (show Kd.M (Kd.int .i64) _ _ _ 528734635 [.int .i64 528734635] from rfl) (Reps.one (show Kd.M (Kd.int .i64) _ _ _ 1541459225 [.int .i64 1541459225] from rfl) (Reps.none _ _)))))))))); intro v102 w1 ho2 hb hg_ hnew_; clear hg_ hnew_; (first | rw [← Ny101.out] at ho2 | (simp only [Int.reduceToNat] at ho2; rw [← Ny101.out] at ho2)); have n0_ := zA_ (Kd.R_lower ho2 (below_size (zh_ HB.out))); have n1_ := zA_ (below_step (zh_ HB.out) hb); clear HB; have HO103 := n0_; have HB := n1_; clear n0_ n1_; clear hb ho2))
 go_ret
 exact ⟨_, βsa, (by (with_reducible repeat (first | apply Kd.R_alloc | apply Kd.R_drewN | apply Kd.R_drew)); exact HO103.out), βoa⟩
def spec_l02Turn.f (a0 : Int) (a1 : Int) : Option (Int) := if 0 ≤ a1 then (if 0 ≤ (IntKind.u64.wrap (32 - a1)) then (some (Go.bits .or .u32 (shr .u32 a0 a1) (shl .u32 a0 (IntKind.u64.wrap (32 - a1))))) else (none)) else (none)
theorem spec_l02Turn.calls (a0 : Int) (a1 : Int) (r : Int) (w : World) (h : spec_l02Turn.f a0 a1 = some r) :
 Calls Tryd.prog 75 #[.int .u32 a0, .int .u64 a1] w fun e w' => e = .returned (.int .u32 r) ∧ Drawn0 w w' := by
 have H : (if 0 ≤ a1 then (if 0 ≤ (IntKind.u64.wrap (32 - a1)) then (some (Go.bits .or .u32 (shr .u32 a0 a1) (shl .u32 a0 (IntKind.u64.wrap (32 - a1))))) else (none)) else (none)) = some r := h
 clear h
 by_cases c3 : 0 ≤ a1
 · rw [if_pos c3] at H
   have c3b0 := eq_true c3
   have c3b1 : decide (0 ≤ a1) = true := decide_eq_true c3
   clear c3
   obtain ⟨ji4, hji4⟩ : ∃ j_ : Int, (shr .u32 a0 a1) = j_ := ⟨_, rfl⟩
   replace H : (if 0 ≤ (IntKind.u64.wrap (32 - a1)) then (some (Go.bits .or .u32 (ji4) (shl .u32 a0 (IntKind.u64.wrap (32 - a1))))) else (none)) = some r := by first | (rw [hji4] at H; exact H) | (simp only [hji4] at H ⊢; exact H)
   have hji4_ : (a0 / 2 ^ min a1.toNat 32) = ji4 := hji4
   have hji4z : a1 ≤ 32 → (a0 / 2 ^ a1.toNat) = ji4 := shr_small hji4
   obtain ⟨ji5, hji5⟩ : ∃ j_ : Int, (IntKind.u64.wrap (32 - a1)) = j_ := ⟨_, rfl⟩
   replace H : (if 0 ≤ (ji5) then (some (Go.bits .or .u32 (ji4) (shl .u32 a0 (ji5)))) else (none)) = some r := by first | (rw [hji5] at H; exact H) | (simp only [hji5] at H ⊢; exact H)
   by_cases c6 : 0 ≤ (ji5)
   · rw [if_pos c6] at H
     have c6b0 := eq_true c6
     have c6b1 : decide (0 ≤ (ji5)) = true := decide_eq_true c6
     clear c6
     obtain ⟨ji7, hji7⟩ : ∃ j_ : Int, (shl .u32 a0 (ji5)) = j_ := ⟨_, rfl⟩
     replace H : (some (Go.bits .or .u32 (ji4) (ji7))) = some r := by first | (rw [hji7] at H; exact H) | (simp only [hji7] at H ⊢; exact H)
     have hji7_ : (IntKind.u32.wrap (a0 * 2 ^ min (ji5).toNat 32)) = ji7 := hji7
     have hji7z : (ji5) ≤ 32 → (IntKind.u32.wrap (a0 * 2 ^ (ji5).toNat)) = ji7 := shl_small hji7
     obtain rfl := Option.some.inj H
     go_enter Tryd.func75, Tryd.ntmps75
     go_wp2
     go_ret
     exact ⟨(by first | rfl | (simp; done) | (simp only [← hji4, ← hji5, ← hji7] <;> (first | rfl | simp)) | (simp [*]; done)), βwa⟩
   · rw [if_neg c6] at H
     exact absurd H (by simp)
 · rw [if_neg c3] at H
   exact absurd H (by simp)
def spec_l02Keys.f  : Option (List Int) := some (([1116352408, 1899447441, 3049323471, 3921009573, 961987163, 1508970993, 2453635748, 2870763221, 3624381080, 310598401, 607225278, 1426881987, 1925078388, 2162078206, 2614888103, 3248222580, 3835390401, 4022224774, 264347078, 604807628, 770255983, 1249150122, 1555081692, 1996064986, 2554220882, 2821834349, 2952996808, 3210313671, 3336571891, 3584528711, 113926993, 338241895, 666307205, 773529912, 1294757372, 1396182291, 1695183700, 1986661051, 2177026350, 2456956037, 2730485921, 2820302411, 3259730800, 3345764771, 3516065817, 3600352804, 4094571909, 275423344, 430227734, 506948616, 659060556, 883997877, 958139571, 1322822218, 1537002063, 1747873779, 1955562222, 2024104815, 2227730452, 2361852424, 2428436474, 2756734187, 3204031479, 3329325298] : List Int))
theorem spec_l02Keys.calls  (r : List Int) (w : World) (h : spec_l02Keys.f  = some r) :
 Calls Tryd.prog 76 #[] w fun e w' => ∃ v0_ : Value, e = .returned (v0_) ∧ Kd.R (Kd.int .u32) 71 w' w.heap.size (fun _ => True) v0_ r ∧ Below w.heap.size w w' := by
 have HB := zA_ (Below.refl w.heap.size w)
 have H : (some (([1116352408, 1899447441, 3049323471, 3921009573, 961987163, 1508970993, 2453635748, 2870763221, 3624381080, 310598401, 607225278, 1426881987, 1925078388, 2162078206, 2614888103, 3248222580, 3835390401, 4022224774, 264347078, 604807628, 770255983, 1249150122, 1555081692, 1996064986, 2554220882, 2821834349, 2952996808, 3210313671, 3336571891, 3584528711, 113926993, 338241895, 666307205, 773529912, 1294757372, 1396182291, 1695183700, 1986661051, 2177026350, 2456956037, 2730485921, 2820302411, 3259730800, 3345764771, 3516065817, 3600352804, 4094571909, 275423344, 430227734, 506948616, 659060556, 883997877, 958139571, 1322822218, 1537002063, 1747873779, 1955562222, 2024104815, 2227730452, 2361852424, 2428436474, 2756734187, 3204031479, 3329325298] : List Int))) = some r := h
 clear h
 obtain ⟨y104, hy104⟩ : ∃ y_ : List Int, y_ = (([1116352408, 1899447441, 3049323471, 3921009573, 961987163, 1508970993, 2453635748, 2870763221, 3624381080, 310598401, 607225278, 1426881987, 1925078388, 2162078206, 2614888103, 3248222580, 3835390401, 4022224774, 264347078, 604807628, 770255983, 1249150122, 1555081692, 1996064986, 2554220882, 2821834349, 2952996808, 3210313671, 3336571891, 3584528711, 113926993, 338241895, 666307205, 773529912, 1294757372, 1396182291, 1695183700, 1986661051, 2177026350, 2456956037, 2730485921, 2820302411, 3259730800, 3345764771, 3516065817, 3600352804, 4094571909, 275423344, 430227734, 506948616, 659060556, 883997877, 958139571, 1322822218, 1537002063, 1747873779, 1955562222, 2024104815, 2227730452, 2361852424, 2428436474, 2756734187, 3204031479, 3329325298] : List Int)) := ⟨_, rfl⟩
 replace H : (some y104) = some r := by first | (rw [hy104]; with_reducible exact H) | (have H2_ := (Option.bind_some _ _).symm.trans H; rw [hy104]; with_reducible exact H2_) | (have H2_ := (Option.bind_some _ _).symm.trans H; with_reducible exact H2_) | with_reducible exact H | (rw [hy104]; exact H) | exact H
 have Ny104 := zA_ hy104
 clear hy104
 obtain rfl := Option.some.inj H
 go_enter Tryd.func76, Tryd.ntmps76
 go_wp2_with (first | ((with_reducible refine gate_dst (N := 1) rfl ?_); refine Kd.R_lit (Kd.int .u32) _ 71 ?hg (N := 1) ?hd (xs := ([1116352408, 1899447441, 3049323471, 3921009573, 961987163, 1508970993, 2453635748, 2870763221, 3624381080, 310598401, 607225278, 1426881987, 1925078388, 2162078206, 2614888103, 3248222580, 3835390401, 4022224774, 264347078, 604807628, 770255983, 1249150122, 1555081692, 1996064986, 2554220882, 2821834349, 2952996808, 3210313671, 3336571891, 3584528711, 113926993, 338241895, 666307205, 773529912, 1294757372, 1396182291, 1695183700, 1986661051, 2177026350, 2456956037, 2730485921, 2820302411, 3259730800, 3345764771, 3516065817, 3600352804, 4094571909, 275423344, 430227734, 506948616, 659060556, 883997877, 958139571, 1322822218, 1537002063, 1747873779, 1955562222, 2024104815, 2227730452, 2361852424, 2428436474, 2756734187, 3204031479, 3329325298] : List Int)) (inner := [.int .u32 1116352408, .int .u32 1899447441, .int .u32 3049323471, .int .u32 3921009573, .int .u32 961987163, .int .u32 1508970993, .int .u32 2453635748, .int .u32 2870763221, .int .u32 3624381080, .int .u32 310598401, .int .u32 607225278, .int .u32 1426881987, .int .u32 1925078388, .int .u32 2162078206, .int .u32 2614888103, .int .u32 3248222580, .int .u32 3835390401, .int .u32 4022224774, .int .u32 264347078, .int .u32 604807628, .int .u32 770255983, .int .u32 1249150122, .int .u32 1555081692, .int .u32 1996064986, .int .u32 2554220882, .int .u32 2821834349, .int .u32 2952996808, .int .u32 3210313671, .int .u32 3336571891, .int .u32 3584528711, .int .u32 113926993, .int .u32 338241895, .int .u32 666307205, .int .u32 773529912, .int .u32 1294757372, .int .u32 1396182291, .int .u32 1695183700, .int .u32 1986661051, .int .u32 2177026350, .int .u32 2456956037, .int .u32 2730485921, .int .u32 2820302411, .int .u32 3259730800, .int .u32 3345764771, .int .u32 3516065817, .int .u32 3600352804, .int .u32 4094571909, .int .u32 275423344, .int .u32 430227734, .int .u32 506948616, .int .u32 659060556, .int .u32 883997877, .int .u32 958139571, .int .u32 1322822218, .int .u32 1537002063, .int .u32 1747873779, .int .u32 1955562222, .int .u32 2024104815, .int .u32 2227730452, .int .u32 2361852424, .int .u32 2428436474, .int .u32 2756734187, .int .u32 3204031479, .int .u32 3329325298]) (ok := fun _ => True) (okp := fun _ => True) ?hr ?hp (fun _ hk => hk) trivial (Below.refl _ _) (Nat.le_refl _) (by simp) ?_; (case hd => exact (by rfl)); (case hg => exact (by rfl)); (case hr => exact βAa); (case hp => exact (Reps.one (show Kd.M (Kd.int .u32) _ _ _ 1116352408 [.int .u32 1116352408] from rfl) (Reps.one (show Kd.M (Kd.int .u32) _ _ _ 1899447441 [.int .u32 1899447441] from rfl) (Reps.one (show Kd.M (Kd.int .u32) _ _ _ 3049323471 [.int .u32 3049323471] from rfl) (Reps.one (show Kd.M (Kd.int .u32) _ _ _ 3921009573 [.int .u32 3921009573] from rfl) (Reps.one (show Kd.M (Kd.int .u32) _ _ _ 961987163 [.int .u32 961987163] from rfl) (Reps.one (show Kd.M (Kd.int .u32) _ _ _ 1508970993 [.int .u32 1508970993] from rfl) (Reps.one (show Kd.M (Kd.int .u32) _ _ _ 2453635748 [.int .u32 2453635748] from rfl) (Reps.one (show Kd.M (Kd.int .u32) _ _ _ 2870763221 [.int .u32 2870763221] from rfl) (Reps.one (show Kd.M (Kd.int .u32) _ _ _ 3624381080 [.int .u32 3624381080] from rfl) (Reps.one (show Kd.M (Kd.int .u32) _ _ _ 310598401 [.int .u32 310598401] from rfl) (Reps.one (show Kd.M (Kd.int .u32) _ _ _ 607225278 [.int .u32 607225278] from rfl) (Reps.one (show Kd.M (Kd.int .u32) _ _ _ 1426881987 [.int .u32 1426881987] from rfl) (Reps.one (show Kd.M (Kd.int .u32) _ _ _ 1925078388 [.int .u32 1925078388] from rfl) (Reps.one (show Kd.M (Kd.int .u32) _ _ _ 2162078206 [.int .u32 2162078206] from rfl) (Reps.one (show Kd.M (Kd.int .u32) _ _ _ 2614888103 [.int .u32 2614888103] from rfl) (Reps.one (show Kd.M (Kd.int .u32) _ _ _ 3248222580 [.int .u32 3248222580] from rfl) (Reps.one (show Kd.M (Kd.int .u32) _ _ _ 3835390401 [.int .u32 3835390401] from rfl) (Reps.one (show Kd.M (Kd.int .u32) _ _ _ 4022224774 [.int .u32 4022224774] from rfl) (Reps.one (show Kd.M (Kd.int .u32) _ _ _ 264347078 [.int .u32 264347078] from rfl) (Reps.one (show Kd.M (Kd.int .u32) _ _ _ 604807628 [.int .u32 604807628] from rfl) (Reps.one (show Kd.M (Kd.int .u32) _ _ _ 770255983 [.int .u32 770255983] from rfl) (Reps.one (show Kd.M (Kd.int .u32) _ _ _ 1249150122 [.int .u32 1249150122] from rfl) (Reps.one (show Kd.M (Kd.int .u32) _ _ _ 1555081692 [.int .u32 1555081692] from rfl) (Reps.one (show Kd.M (Kd.int .u32) _ _ _ 1996064986 [.int .u32 1996064986] from rfl) (Reps.one (show Kd.M (Kd.int .u32) _ _ _ 2554220882 [.int .u32 2554220882] from rfl) (Reps.one (show Kd.M (Kd.int .u32) _ _ _ 2821834349 [.int .u32 2821834349] from rfl) (Reps.one (show Kd.M (Kd.int .u32) _ _ _ 2952996808 [.int .u32 2952996808] from rfl) (Reps.one (show Kd.M (Kd.int .u32) _ _ _ 3210313671 [.int .u32 3210313671] from rfl) (Reps.one (show Kd.M (Kd.int .u32) _ _ _ 3336571891 [.int .u32 3336571891] from rfl) (Reps.one (show Kd.M (Kd.int .u32) _ _ _ 3584528711 [.int .u32 3584528711] from rfl) (Reps.one (show Kd.M (Kd.int .u32) _ _ _ 113926993 [.int .u32 113926993] from rfl) (Reps.one (show Kd.M (Kd.int .u32) _ _ _ 338241895 [.int .u32 338241895] from rfl) (Reps.one (show Kd.M (Kd.int .u32) _ _ _ 666307205 [.int .u32 666307205] from rfl) (Reps.one (show Kd.M (Kd.int .u32) _ _ _ 773529912 [.int .u32 773529912] from rfl) (Reps.one (show Kd.M (Kd.int .u32) _ _ _ 1294757372 [.int .u32 1294757372] from rfl) (Reps.one (show Kd.M (Kd.int .u32) _ _ _ 1396182291 [.int .u32 1396182291] from rfl) (Reps.one (show Kd.M (Kd.int .u32) _ _ _ 1695183700 [.int .u32 1695183700] from rfl) (Reps.one (show Kd.M (Kd.int .u32) _ _ _ 1986661051 [.int .u32 1986661051] from rfl) (Reps.one (show Kd.M (Kd.int .u32) _ _ _ 2177026350 [.int .u32 2177026350] from rfl) (Reps.one (show Kd.M (Kd.int .u32) _ _ _ 2456956037 [.int .u32 2456956037] from rfl) (Reps.one (show Kd.M (Kd.int .u32) _ _ _ 2730485921 [.int .u32 2730485921] from rfl) (Reps.one (show Kd.M (Kd.int .u32) _ _ _ 2820302411 [.int .u32 2820302411] from rfl) (Reps.one (show Kd.M (Kd.int .u32) _ _ _ 3259730800 [.int .u32 3259730800] from rfl) (Reps.one (show Kd.M (Kd.int .u32) _ _ _ 3345764771 [.int .u32 3345764771] from rfl) (Reps.one (show Kd.M (Kd.int .u32) _ _ _ 3516065817 [.int .u32 3516065817] from rfl) (Reps.one (show Kd.M (Kd.int .u32) _ _ _ 3600352804 [.int .u32 3600352804] from rfl) (Reps.one (show Kd.M (Kd.int .u32) _ _ _ 4094571909 [.int .u32 4094571909] from rfl) (Reps.one (show Kd.M (Kd.int .u32) _ _ _ 275423344 [.int .u32 275423344] from rfl) (Reps.one (show Kd.M (Kd.int .u32) _ _ _ 430227734 [.int .u32 430227734] from rfl) (Reps.one (show Kd.M (Kd.int .u32) _ _ _ 506948616 [.int .u32 506948616] from rfl) (Reps.one (show Kd.M (Kd.int .u32) _ _ _ 659060556 [.int .u32 659060556] from rfl) (Reps.one (show Kd.M (Kd.int .u32) _ _ _ 883997877 [.int .u32 883997877] from rfl) (Reps.one (show Kd.M (Kd.int .u32) _ _ _ 958139571 [.int .u32 958139571] from rfl) (Reps.one (show Kd.M (Kd.int .u32) _ _ _ 1322822218 [.int .u32 1322822218] from rfl) (Reps.one (show Kd.M (Kd.int .u32) _ _ _ 1537002063 [.int .u32 1537002063] from rfl) (Reps.one (show Kd.M (Kd.int .u32) _ _ _ 1747873779 [.int .u32 1747873779] from rfl) (Reps.one (show Kd.M (Kd.int .u32) _ _ _ 1955562222 [.int .u32 1955562222] from rfl) (Reps.one (show Kd.M (Kd.int .u32) _ _ _ 2024104815 [.int .u32 2024104815] from rfl) (Reps.one (show Kd.M (Kd.int .u32) _ _ _ 2227730452 [.int .u32 2227730452] from rfl) (Reps.one (show Kd.M (Kd.int .u32) _ _ _ 2361852424 [.int .u32 2361852424] from rfl) (Reps.one (show Kd.M (Kd.int .u32) _ _ _ 2428436474 [.int .u32 2428436474] from rfl) (Reps.one (show Kd.M (Kd.int .u32) _ _ _ 2756734187 [.int .u32 2756734187] from rfl) (Reps.one (show Kd.M (Kd.int .u32) _ _ _ 3204031479 [.int .u32 3204031479] from rfl) (Reps.one (show Kd.M (Kd.int .u32) _ _ _ 3329325298 [.int .u32 3329325298] from rfl) (Reps.none _ _)))))))))))))))))))))))))))))))))))))))))))))))))))))))))))))))))); intro v105 w1 ho2 hb hg_ hnew_; clear hg_ hnew_; (first | rw [← Ny104.out] at ho2 | (simp only [Int.reduceToNat] at ho2; rw [← Ny104.out] at ho2)); have n0_ := zA_ (Kd.R_lower ho2 (below_size (zh_ HB.out))); have n1_ := zA_ (below_step (zh_ HB.out) hb); clear HB; have HO106 := n0_; have HB := n1_; clear n0_ n1_; clear hb ho2))
 go_ret
 exact ⟨_, βsa, (by (with_reducible repeat (first | apply Kd.R_alloc | apply Kd.R_drewN | apply Kd.R_drew)); exact HO106.out), βoa⟩
mutual
def spec_l02Block.l0 : Nat → List Int → ByteArray → List Int → Int → Option (List Int)
 | 0, _, _, _, _ => none
 | k + 1, x0, x1, x5, x6 => if x6 < 16 then (if 0 ≤ (wrap64 (4 * x6)) then (if (wrap64 (4 * x6)) < (x1.size : Int) then (if 0 ≤ (wrap64 ((wrap64 (4 * x6)) + 1)) then (if (wrap64 ((wrap64 (4 * x6)) + 1)) < (x1.size : Int) then (if 0 ≤ (wrap64 ((wrap64 (4 * x6)) + 2)) then (if (wrap64 ((wrap64 (4 * x6)) + 2)) < (x1.size : Int) then (if 0 ≤ (wrap64 ((wrap64 (4 * x6)) + 3)) then (if (wrap64 ((wrap64 (4 * x6)) + 3)) < (x1.size : Int) then (if 0 ≤ x6 then (if x6 < (x5.length : Int) then (spec_l02Block.l0 k x0 x1 (x5.set (x6 : Int).toNat (Go.bits .or .u32 (Go.bits .or .u32 (Go.bits .or .u32 ((((bt x1 (wrap64 (4 * x6))) % 4294967296) * 16777216) % 4294967296) ((((bt x1 (wrap64 ((wrap64 (4 * x6)) + 1))) % 4294967296) * 65536) % 4294967296)) ((((bt x1 (wrap64 ((wrap64 (4 * x6)) + 2))) % 4294967296) * 256) % 4294967296)) ((bt x1 (wrap64 ((wrap64 (4 * x6)) + 3))) % 4294967296))) (wrap64 (x6 + 1))) else (none)) else (none)) else (none)) else (none)) else (none)) else (none)) else (none)) else (none)) else (none)) else (none)) else (spec_l02Block.l1 k x0 x5 16)
def spec_l02Block.l1 : Nat → List Int → List Int → Int → Option (List Int)
 | 0, _, _, _ => none
 | k + 1, x0, x5, x7 => if x7 < 64 then (if 0 ≤ (wrap64 (x7 - 15)) then (if (wrap64 (x7 - 15)) < (x5.length : Int) then (if 0 ≤ (wrap64 (x7 - 2)) then (if (wrap64 (x7 - 2)) < (x5.length : Int) then (if 0 ≤ (wrap64 (x7 - 16)) then (if (wrap64 (x7 - 16)) < (x5.length : Int) then ((spec_l02Turn.f (rd x5 (wrap64 (x7 - 15))) 7).bind fun t114 => ((spec_l02Turn.f (rd x5 (wrap64 (x7 - 15))) 18).bind fun t115 => (if 0 ≤ (wrap64 (x7 - 7)) then (if (wrap64 (x7 - 7)) < (x5.length : Int) then ((spec_l02Turn.f (rd x5 (wrap64 (x7 - 2))) 17).bind fun t117 => ((spec_l02Turn.f (rd x5 (wrap64 (x7 - 2))) 19).bind fun t118 => (if 0 ≤ x7 then (if x7 < (x5.length : Int) then (spec_l02Block.l1 k x0 (x5.set (x7 : Int).toNat (((((rd x5 (wrap64 (x7 - 16))) + (Go.bits .xor .u32 (Go.bits .xor .u32 t114 t115) ((rd x5 (wrap64 (x7 - 15))) / 8))) + (rd x5 (wrap64 (x7 - 7)))) + (Go.bits .xor .u32 (Go.bits .xor .u32 t117 t118) ((rd x5 (wrap64 (x7 - 2))) / 1024))) % 4294967296)) (wrap64 (x7 + 1))) else (none)) else (none)))) else (none)) else (none)))) else (none)) else (none)) else (none)) else (none)) else (none)) else (none)) else (if 0 < (x0.length : Int) then (if 1 < (x0.length : Int) then (if 2 < (x0.length : Int) then (if 3 < (x0.length : Int) then (if 4 < (x0.length : Int) then (if 5 < (x0.length : Int) then (if 6 < (x0.length : Int) then (if 7 < (x0.length : Int) then ((spec_l02Keys.f).bind fun t128 => (spec_l02Block.l2 k x0 x5 ((rd x0 0) % 4294967296) ((rd x0 1) % 4294967296) ((rd x0 2) % 4294967296) ((rd x0 3) % 4294967296) ((rd x0 4) % 4294967296) ((rd x0 5) % 4294967296) ((rd x0 6) % 4294967296) ((rd x0 7) % 4294967296) t128 0)) else (none)) else (none)) else (none)) else (none)) else (none)) else (none)) else (none)) else (none))
def spec_l02Block.l2 : Nat → List Int → List Int → Int → Int → Int → Int → Int → Int → Int → Int → List Int → Int → Option (List Int)
 | 0, _, _, _, _, _, _, _, _, _, _, _, _ => none
 | k + 1, x0, x5, x10, x11, x12, x13, x14, x15, x16, x17, x18, x19 => if x19 < 64 then ((spec_l02Turn.f x14 6).bind fun t131 => ((spec_l02Turn.f x14 11).bind fun t132 => ((spec_l02Turn.f x14 25).bind fun t133 => (if 0 ≤ x19 then (if x19 < (x18.length : Int) then (if x19 < (x5.length : Int) then ((spec_l02Turn.f x10 2).bind fun t136 => ((spec_l02Turn.f x10 13).bind fun t137 => ((spec_l02Turn.f x10 22).bind fun t138 => (spec_l02Block.l2 k x0 x5 ((((((x17 + (Go.bits .xor .u32 (Go.bits .xor .u32 t131 t132) t133)) + (Go.bits .xor .u32 (Go.bits .and .u32 x14 x15) (Go.bits .and .u32 (Go.bits .xor .u32 4294967295 x14) x16))) + (rd x18 x19)) + (rd x5 x19)) + ((Go.bits .xor .u32 (Go.bits .xor .u32 t136 t137) t138) + (Go.bits .xor .u32 (Go.bits .xor .u32 (Go.bits .and .u32 x10 x11) (Go.bits .and .u32 x10 x12)) (Go.bits .and .u32 x11 x12)))) % 4294967296) x10 x11 x12 ((x13 + ((((x17 + (Go.bits .xor .u32 (Go.bits .xor .u32 t131 t132) t133)) + (Go.bits .xor .u32 (Go.bits .and .u32 x14 x15) (Go.bits .and .u32 (Go.bits .xor .u32 4294967295 x14) x16))) + (rd x18 x19)) + (rd x5 x19))) % 4294967296) x14 x15 x16 x18 (wrap64 (x19 + 1)))))) else (none)) else (none)) else (none))))) else (spec_l02Block.l3 k x0 (([x10, x11, x12, x13, x14, x15, x16, x17] : List Int)) (([] : List Int)) 0)
def spec_l02Block.l3 : Nat → List Int → List Int → List Int → Int → Option (List Int)
 | 0, _, _, _, _ => none
 | k + 1, x0, x22, x23, x24 => if x24 < 8 then (if 0 ≤ x24 then (if x24 < (x0.length : Int) then (if x24 < (x22.length : Int) then (if x23.length < 17592186044416 then (spec_l02Block.l3 k x0 x22 (x23 ++ [((rd x0 x24) + (rd x22 x24)) % 4294967296]) (wrap64 (x24 + 1))) else (none)) else (none)) else (none)) else (none)) else (some x23)
end
def spec_l02Block.f (k : Nat) (l0 : List Int) (a1 : ByteArray) : Option (List Int) := if 64 ≤ 70368744177664 then (spec_l02Block.l0 k l0 a1 (List.replicate 64 0) 0) else (none)
def spec_l02Block.T5 : Bool × List (List Nat × List Nat) := (true, [([], []), ([], []), ([], []), ([], []), ([3], [3]), ([2, 4], [2, 4]), ([5], [5]), ([6], [6]), ([], []), ([], []), ([9], [9]), ([10], [10]), ([8, 11], [8, 11]), ([12], [12]), ([13], [13]), ([7, 14], [7, 14]), ([], []), ([], []), ([17], [17]), ([18], [18]), ([16, 19], [16, 19]), ([20], [20]), ([21], [21]), ([15, 22], [15, 22]), ([], []), ([], []), ([25], [25]), ([26], [26]), ([24, 27], [24, 27]), ([28], [28]), ([23, 29], [23, 29]), ([0, 1, 0, 1, 2, 3, 4, 5, 6, 7, 8, 9, 10, 11, 12, 13, 14, 15, 16, 17, 18, 19, 20, 21, 22, 23, 24, 25, 26, 27, 28, 29, 30], [0, 1]), ([31, 30, 0, 1, 2, 3, 4, 5, 6, 7, 8, 9, 10, 11, 12, 13, 14, 15, 16, 17, 18, 19, 20, 21, 22, 23, 24, 25, 26, 27, 28, 29, 30], [30, 31])])
def spec_l02Block.B5 : List Nat := [0, 0, 0, 0, 8, 28, 60, 124, 0, 0, 512, 1536, 3840, 7936, 16128, 32764, 0, 0, 131072, 393216, 983040, 2031616, 4128768, 8388604, 0, 0, 33554432, 100663296, 251658240, 520093696, 1073741820, 2147483647, 4294967295]
theorem spec_l02Block.tab5 : rtab .any (opsOf Tryd.f55 5) = spec_l02Block.T5 := by kernel_rfl
theorem spec_l02Block.bits5 : waitsOk spec_l02Block.T5.2 spec_l02Block.B5 = true := by kernel_rfl
def spec_l02Block.T11 : Bool × List (List Nat × List Nat) := (true, [([], []), ([], []), ([], []), ([], []), ([3], [3]), ([2, 4], [2, 4]), ([5], [5]), ([], []), ([7], [7]), ([], []), ([9, 8], [9]), ([8, 10], [8, 10]), ([], []), ([12], [12]), ([11, 13], [11, 13]), ([6, 14], [6, 14]), ([], []), ([], []), ([17], [17]), ([16, 18], [16, 18]), ([19], [19]), ([15, 20], [15, 20]), ([], []), ([22, 10], [22]), ([], []), ([24, 23], [24]), ([23, 25], [23, 25]), ([], []), ([27], [27]), ([26, 28], [26, 28]), ([21, 29], [21, 29]), ([0, 1, 0, 1, 2, 3, 4, 5, 6, 7, 8, 9, 10, 11, 12, 13, 14, 15, 16, 17, 18, 19, 20, 21, 22, 23, 24, 25, 26, 27, 28, 29, 30], [0, 1]), ([31, 30, 25, 0, 1, 2, 3, 4, 5, 6, 7, 8, 9, 10, 11, 12, 13, 14, 15, 16, 17, 18, 19, 20, 21, 22, 23, 24, 25, 26, 27, 28, 29, 30], [30, 31])])
def spec_l02Block.B11 : List Nat := [0, 0, 0, 0, 8, 28, 60, 0, 128, 0, 896, 1920, 0, 4096, 16256, 32764, 0, 0, 131072, 458752, 983040, 2097148, 0, 4196224, 0, 29362048, 62916480, 0, 134217728, 532678528, 1073741820, 2147483647, 4294967295]
theorem spec_l02Block.tab11 : rtab .any (opsOf Tryd.f55 11) = spec_l02Block.T11 := by kernel_rfl
theorem spec_l02Block.bits11 : waitsOk spec_l02Block.T11.2 spec_l02Block.B11 = true := by kernel_rfl
def spec_l02Block.T12 : Bool × List (List Nat × List Nat) := (true, [([], []), ([0], [0]), ([1], [1]), ([2], [2]), ([], []), ([4], [4]), ([5], [5]), ([6], [6]), ([], []), ([8], [8]), ([9], [9]), ([10], [10]), ([], []), ([12], [12]), ([13], [13]), ([14], [14]), ([3, 0, 1, 2, 3], [3]), ([7, 16, 0, 1, 2, 3, 4, 5, 6, 7, 16], [7]), ([11, 17, 0, 1, 2, 3, 4, 5, 6, 7, 8, 9, 10, 11, 16, 17], [11]), ([15, 18, 0, 1, 2, 3, 4, 5, 6, 7, 8, 9, 10, 11, 12, 13, 14, 15, 16, 17, 18], [15])])
def spec_l02Block.B12 : List Nat := [0, 1, 3, 7, 0, 16, 48, 112, 0, 256, 768, 1792, 0, 4096, 12288, 28672, 15, 65791, 200703, 524287]
theorem spec_l02Block.tab12 : rtab .any (opsOf Tryd.f55 12) = spec_l02Block.T12 := by kernel_rfl
theorem spec_l02Block.bits12 : waitsOk spec_l02Block.T12.2 spec_l02Block.B12 = true := by kernel_rfl
def spec_l02Block.T13 : Bool × List (List Nat × List Nat) := (true, [([], []), ([0], [0]), ([1], [1]), ([2], [2]), ([], []), ([4], [4]), ([5], [5]), ([6], [6]), ([], []), ([8], [8]), ([9], [9]), ([10], [10]), ([], []), ([12], [12]), ([13], [13]), ([14], [14]), ([3, 0, 1, 2, 3], [3]), ([7, 16, 0, 1, 2, 3, 4, 5, 6, 7, 16], [7]), ([11, 17, 0, 1, 2, 3, 4, 5, 6, 7, 8, 9, 10, 11, 16, 17], [11]), ([15, 18, 0, 1, 2, 3, 4, 5, 6, 7, 8, 9, 10, 11, 12, 13, 14, 15, 16, 17, 18], [15])])
def spec_l02Block.B13 : List Nat := [0, 1, 3, 7, 0, 16, 48, 112, 0, 256, 768, 1792, 0, 4096, 12288, 28672, 15, 65791, 200703, 524287]
theorem spec_l02Block.tab13 : rtab .any (opsOf Tryd.f55 13) = spec_l02Block.T13 := by kernel_rfl
theorem spec_l02Block.bits13 : waitsOk spec_l02Block.T13.2 spec_l02Block.B13 = true := by kernel_rfl
def spec_l02Block.T18 : Bool × List (List Nat × List Nat) := (true, [([], []), ([], []), ([1], [1]), ([], []), ([3, 2], [3]), ([2, 4], [2, 4]), ([], []), ([6, 4], [6]), ([5, 7], [5, 7]), ([0, 8], [0, 8]), ([], []), ([], []), ([10, 11], [10, 11]), ([], []), ([13], [13]), ([], []), ([14, 15], [14, 15]), ([12, 16], [12, 16]), ([9, 17], [9, 17]), ([], []), ([], []), ([19, 20], [19, 20]), ([21], [21]), ([18, 22], [18, 22]), ([], []), ([], []), ([24, 25], [24, 25]), ([26], [26]), ([23, 27], [23, 27]), ([28, 7, 0, 1, 2, 3, 4, 5, 6, 7, 8, 9, 10, 11, 12, 13, 14, 15, 16, 17, 18, 19, 20, 21, 22, 23, 24, 25, 26, 27, 28], [28])])
def spec_l02Block.B18 : List Nat := [0, 0, 2, 0, 14, 30, 0, 94, 254, 511, 0, 0, 3072, 0, 8192, 0, 57344, 130048, 262143, 0, 0, 1572864, 3670016, 8388607, 0, 0, 50331648, 117440512, 268435455, 536870911]
theorem spec_l02Block.tab18 : rtab .any (opsOf Tryd.f55 18) = spec_l02Block.T18 := by kernel_rfl
theorem spec_l02Block.bits18 : waitsOk spec_l02Block.T18.2 spec_l02Block.B18 = true := by kernel_rfl
def spec_l02Block.T33 : Bool × List (List Nat × List Nat) := (true, [([], []), ([], []), ([], []), ([1, 2], [1, 2]), ([3], [3]), ([4], [4]), ([], []), ([], []), ([6, 7], [6, 7]), ([8], [8]), ([5, 9], [5, 9]), ([10], [10]), ([11], [11]), ([0, 12], [0, 12]), ([13, 13, 0, 1, 2, 3, 4, 5, 6, 7, 8, 9, 10, 11, 12, 13], [0, 13])])
def spec_l02Block.B33 : List Nat := [0, 0, 0, 6, 14, 30, 0, 0, 192, 448, 1022, 2046, 4094, 8191, 16383]
theorem spec_l02Block.tab33 : rtab .any (opsOf Tryd.f55 33) = spec_l02Block.T33 := by kernel_rfl
theorem spec_l02Block.bits33 : waitsOk spec_l02Block.T33.2 spec_l02Block.B33 = true := by kernel_rfl
theorem spec_l02Block.calls (k : Nat) (A0 : Option Addr) (c0 : Nat) (l0 : List Int) (a1 : ByteArray) (r : List Int) (w : World) (hr0 : Kd.C (Kd.int .i64) w A0 l0.length l0) (hc0 : l0.length ≤ c0) (h : spec_l02Block.f k l0 a1 = some r) :
 Calls Tryd.prog 55 #[.slice A0 l0.length c0, .string a1] w fun e w' => ∃ v0_ : Value, e = .returned (v0_) ∧ Kd.R (Kd.int .i64) 2 w' w.heap.size (fun _ => True) v0_ r ∧ Below w.heap.size w w' := by
 have HR0 := zA_ hr0
 have HC0 := zA_ hc0
 clear hr0 hc0
 have HB := zA_ (Below.refl w.heap.size w)
 have H : (if 64 ≤ 70368744177664 then (spec_l02Block.l0 k l0 a1 (List.replicate 64 0) 0) else (none)) = some r := h
 clear h
 by_cases c3 : 64 ≤ 70368744177664
 · rw [if_pos c3] at H
   have c3b0 := eq_true c3
   have c3b1 : decide (64 ≤ 70368744177664) = true := decide_eq_true c3
   clear c3
   obtain ⟨y107, hy107⟩ : ∃ y_ : List Int, y_ = (List.replicate 64 0) := ⟨_, rfl⟩
   replace H : (spec_l02Block.l0 k l0 a1 y107 0) = some r := by first | (rw [hy107]; with_reducible exact H) | (have H2_ := (Option.bind_some _ _).symm.trans H; rw [hy107]; with_reducible exact H2_) | (have H2_ := (Option.bind_some _ _).symm.trans H; with_reducible exact H2_) | with_reducible exact H | (rw [hy107]; exact H) | exact H
   have Ny107 := zA_ hy107
   clear hy107
   have H' := zA_ H
   clear H
   go_enter Tryd.func55, Tryd.ntmps55
   go_wp2_with (first | ((with_reducible refine gate_dst (N := 25) rfl ?_); refine Kd.R_make (Kd.int .u32) _ 71 rfl (N := 25) rfl 87 _ _ rfl 64 rfl rfl Tryd.underlying87 (.int .u32 0) 4 info71 rfl (by decide) (by omega) 0 (ok := fun _ => True) (okp := fun _ => True) rfl (fun _ hk => hk) trivial (by omega) (by omega) (Below.refl _ _) (Nat.le_refl _) ?_; intro v108 w4 ho5 hb hg_ hnew_; clear hg_ hnew_; (first | rw [← Ny107.out] at ho5 | (simp only [Int.reduceToNat] at ho5; rw [← Ny107.out] at ho5)); have n0_ := zA_ (Kd.R_lower ho5 (below_size (zh_ HB.out))); have n1_ := zA_ (below_step (zh_ HB.out) hb); clear HB; have HO109 := n0_; have HB := n1_; clear n0_ n1_; clear hb ho5))
   go_loopg [6] k (fun kq v6 w' => ∃ (x5_1 : List Int) (x6_1 : Int), v6 = .int .i64 x6_1 ∧ Aside0 (spec_l02Block.l0 kq l0 a1 x5_1 x6_1 = some r) ∧ Aside0 (kq ≤ k) ∧ Aside0 (Kd.R (Kd.int .u32) 71 w' w.heap.size (fun _ => True) v108 x5_1) ∧ Aside0 (Below w.heap.size w w'))
   case atStart => exact ⟨(y107), (0), βya, H', ⟨Nat.le_refl _⟩, ⟨zr_ HO109.out⟩, ⟨zh_ HB.out⟩⟩
   case round =>
    clear H'
    try clear p2
    try clear c3
    try clear c3b0
    try clear c3b1
    try clear c5
    obtain ⟨x5_1, x6_1, rfl, HA, HK1, HO_5, HB⟩ := hrel
    cases gk with
    | zero => exact absurd HA.out (by simp [spec_l02Block.l0])
    | succ k1 =>
     have H := HA.out
     clear HA
     simp only [spec_l02Block.l0] at H
     by_cases c6 : x6_1 < 16
     · rw [if_pos c6] at H
       have c6b0 : decide (x6_1 < 16) = true := decide_eq_true c6
       clear c6
       obtain ⟨ji7, hji7⟩ : ∃ j_ : Int, (wrap64 (4 * x6_1)) = j_ := ⟨_, rfl⟩
       replace H : (if 0 ≤ (ji7) then (if (ji7) < (a1.size : Int) then (if 0 ≤ (wrap64 ((ji7) + 1)) then (if (wrap64 ((ji7) + 1)) < (a1.size : Int) then (if 0 ≤ (wrap64 ((ji7) + 2)) then (if (wrap64 ((ji7) + 2)) < (a1.size : Int) then (if 0 ≤ (wrap64 ((ji7) + 3)) then (if (wrap64 ((ji7) + 3)) < (a1.size : Int) then (if 0 ≤ x6_1 then (if x6_1 < (x5_1.length : Int) then (spec_l02Block.l0 k1 l0 a1 (x5_1.set (x6_1 : Int).toNat (Go.bits .or .u32 (Go.bits .or .u32 (Go.bits .or .u32 ((((bt a1 (ji7)) % 4294967296) * 16777216) % 4294967296) ((((bt a1 (wrap64 ((ji7) + 1))) % 4294967296) * 65536) % 4294967296)) ((((bt a1 (wrap64 ((ji7) + 2))) % 4294967296) * 256) % 4294967296)) ((bt a1 (wrap64 ((ji7) + 3))) % 4294967296))) (wrap64 (x6_1 + 1))) else (none)) else (none)) else (none)) else (none)) else (none)) else (none)) else (none)) else (none)) else (none)) else (none)) = some r := by first | (rw [hji7] at H; exact H) | (simp only [hji7] at H ⊢; exact H)
       have hji7w : (IntKind.i64.wrap (4 * x6_1)) = ji7 := (i64_w _).trans hji7
       by_cases c8 : 0 ≤ (ji7)
       · rw [if_pos c8] at H
         have c8b0 : decide (0 ≤ (ji7)) = true := decide_eq_true c8
         clear c8
         by_cases c9 : (ji7) < (a1.size : Int)
         · rw [if_pos c9] at H
           have c9b0 : decide ((ji7) < (a1.size : Int)) = true := decide_eq_true c9
           clear c9
           obtain ⟨ji11, hji11⟩ : ∃ j_ : Int, (wrap64 ((ji7) + 1)) = j_ := ⟨_, rfl⟩
           replace H : (if 0 ≤ (ji11) then (if (ji11) < (a1.size : Int) then (if 0 ≤ (wrap64 ((ji7) + 2)) then (if (wrap64 ((ji7) + 2)) < (a1.size : Int) then (if 0 ≤ (wrap64 ((ji7) + 3)) then (if (wrap64 ((ji7) + 3)) < (a1.size : Int) then (if 0 ≤ x6_1 then (if x6_1 < (x5_1.length : Int) then (spec_l02Block.l0 k1 l0 a1 (x5_1.set (x6_1 : Int).toNat (Go.bits .or .u32 (Go.bits .or .u32 (Go.bits .or .u32 ((((bt a1 (ji7)) % 4294967296) * 16777216) % 4294967296) ((((bt a1 (ji11)) % 4294967296) * 65536) % 4294967296)) ((((bt a1 (wrap64 ((ji7) + 2))) % 4294967296) * 256) % 4294967296)) ((bt a1 (wrap64 ((ji7) + 3))) % 4294967296))) (wrap64 (x6_1 + 1))) else (none)) else (none)) else (none)) else (none)) else (none)) else (none)) else (none)) else (none)) = some r := by first | (rw [hji11] at H; exact H) | (simp only [hji11] at H ⊢; exact H)
           have hji11w : (IntKind.i64.wrap ((ji7) + 1)) = ji11 := (i64_w _).trans hji11
           by_cases c12 : 0 ≤ (ji11)
           · rw [if_pos c12] at H
             have c12b0 : decide (0 ≤ (ji11)) = true := decide_eq_true c12
             clear c12
             by_cases c13 : (ji11) < (a1.size : Int)
             · rw [if_pos c13] at H
               have c13b0 : decide ((ji11) < (a1.size : Int)) = true := decide_eq_true c13
               clear c13
               obtain ⟨ji15, hji15⟩ : ∃ j_ : Int, (wrap64 ((ji7) + 2)) = j_ := ⟨_, rfl⟩
               replace H : (if 0 ≤ (ji15) then (if (ji15) < (a1.size : Int) then (if 0 ≤ (wrap64 ((ji7) + 3)) then (if (wrap64 ((ji7) + 3)) < (a1.size : Int) then (if 0 ≤ x6_1 then (if x6_1 < (x5_1.length : Int) then (spec_l02Block.l0 k1 l0 a1 (x5_1.set (x6_1 : Int).toNat (Go.bits .or .u32 (Go.bits .or .u32 (Go.bits .or .u32 ((((bt a1 (ji7)) % 4294967296) * 16777216) % 4294967296) ((((bt a1 (ji11)) % 4294967296) * 65536) % 4294967296)) ((((bt a1 (ji15)) % 4294967296) * 256) % 4294967296)) ((bt a1 (wrap64 ((ji7) + 3))) % 4294967296))) (wrap64 (x6_1 + 1))) else (none)) else (none)) else (none)) else (none)) else (none)) else (none)) = some r := by first | (rw [hji15] at H; exact H) | (simp only [hji15] at H ⊢; exact H)
               have hji15w : (IntKind.i64.wrap ((ji7) + 2)) = ji15 := (i64_w _).trans hji15
               by_cases c16 : 0 ≤ (ji15)
               · rw [if_pos c16] at H
                 have c16b0 : decide (0 ≤ (ji15)) = true := decide_eq_true c16
                 clear c16
                 by_cases c17 : (ji15) < (a1.size : Int)
                 · rw [if_pos c17] at H
                   have c17b0 : decide ((ji15) < (a1.size : Int)) = true := decide_eq_true c17
                   clear c17
                   obtain ⟨ji19, hji19⟩ : ∃ j_ : Int, (wrap64 ((ji7) + 3)) = j_ := ⟨_, rfl⟩
                   replace H : (if 0 ≤ (ji19) then (if (ji19) < (a1.size : Int) then (if 0 ≤ x6_1 then (if x6_1 < (x5_1.length : Int) then (spec_l02Block.l0 k1 l0 a1 (x5_1.set (x6_1 : Int).toNat (Go.bits .or .u32 (Go.bits .or .u32 (Go.bits .or .u32 ((((bt a1 (ji7)) % 4294967296) * 16777216) % 4294967296) ((((bt a1 (ji11)) % 4294967296) * 65536) % 4294967296)) ((((bt a1 (ji15)) % 4294967296) * 256) % 4294967296)) ((bt a1 (ji19)) % 4294967296))) (wrap64 (x6_1 + 1))) else (none)) else (none)) else (none)) else (none)) = some r := by first | (rw [hji19] at H; exact H) | (simp only [hji19] at H ⊢; exact H)
                   have hji19w : (IntKind.i64.wrap ((ji7) + 3)) = ji19 := (i64_w _).trans hji19
                   by_cases c20 : 0 ≤ (ji19)
                   · rw [if_pos c20] at H
                     have c20b0 : decide (0 ≤ (ji19)) = true := decide_eq_true c20
                     clear c20
                     by_cases c21 : (ji19) < (a1.size : Int)
                     · rw [if_pos c21] at H
                       have c21b0 : decide ((ji19) < (a1.size : Int)) = true := decide_eq_true c21
                       clear c21
                       by_cases c23 : 0 ≤ x6_1
                       · rw [if_pos c23] at H
                         have c23b0 : decide (0 ≤ x6_1) = true := decide_eq_true c23
                         clear c23
                         by_cases c24 : x6_1 < (x5_1.length : Int)
                         · rw [if_pos c24] at H
                           have c24b0 : decide (x6_1 < (x5_1.length : Int)) = true := decide_eq_true c24
                           clear c24
                           obtain ⟨y110, hy110⟩ : ∃ y_ : List Int, y_ = (x5_1.set (x6_1 : Int).toNat (Go.bits .or .u32 (Go.bits .or .u32 (Go.bits .or .u32 ((((bt a1 (ji7)) % 4294967296) * 16777216) % 4294967296) ((((bt a1 (ji11)) % 4294967296) * 65536) % 4294967296)) ((((bt a1 (ji15)) % 4294967296) * 256) % 4294967296)) ((bt a1 (ji19)) % 4294967296))) := ⟨_, rfl⟩
                           replace H : (spec_l02Block.l0 k1 l0 a1 y110 (wrap64 (x6_1 + 1))) = some r := by first | (rw [hy110]; with_reducible exact H) | (have H2_ := (Option.bind_some _ _).symm.trans H; rw [hy110]; with_reducible exact H2_) | (have H2_ := (Option.bind_some _ _).symm.trans H; with_reducible exact H2_) | with_reducible exact H | (rw [hy110]; exact H) | exact H
                           have Ny110 := zA_ hy110
                           clear hy110
                           have H' := zA_ H
                           clear H
                           try go_wp2
                           have n0_ := zA_ (Kd.R_drew HO_5.out)
                           have n1_ := zA_ (below_drew1 HB.out)
                           clear HO_5 HB
                           have HO_5 := n0_
                           have HB := n1_
                           clear n0_ n1_
                           have p10 : 0 ≤ ((ji7) : Int) := of_decide_eq_true βxa
                           have q10 : (ji7) < (a1.size : Int) := of_decide_eq_true βxa
                           have hx10 := bt_at a1 (ji7)
                           replace p10 := eq_true p10
                           replace q10 := eq_true q10
                           have p14 : 0 ≤ ((ji11) : Int) := of_decide_eq_true βxa
                           have q14 : (ji11) < (a1.size : Int) := of_decide_eq_true βxa
                           have hx14 := bt_at a1 (ji11)
                           replace p14 := eq_true p14
                           replace q14 := eq_true q14
                           have p18 : 0 ≤ ((ji15) : Int) := of_decide_eq_true βxa
                           have q18 : (ji15) < (a1.size : Int) := of_decide_eq_true βxa
                           have hx18 := bt_at a1 (ji15)
                           replace p18 := eq_true p18
                           replace q18 := eq_true q18
                           have p22 : 0 ≤ ((ji19) : Int) := of_decide_eq_true βxa
                           have q22 : (ji19) < (a1.size : Int) := of_decide_eq_true βxa
                           have hx22 := bt_at a1 (ji19)
                           replace p22 := eq_true p22
                           replace q22 := eq_true q22
                           have p25 : 0 ≤ (x6_1 : Int) := of_decide_eq_true βxa
                           have q25 : (x6_1 : Int) < ((x5_1.length : Int) : Int) := of_decide_eq_true βxa
                           obtain ⟨go25, co25, eo25, gb25, gl25, cl25, HG25⟩ := Kd.R_form HO_5.out (by omega)
                           (first | cases eo25 | (injection eo25 with ea_ en_ ec_; (first | subst ea_ | (injection ea_ with ea_; subst ea_)); subst ec_; clear en_))
                           have GB25 := zA_ gb25
                           have GG25 := zA_ HG25
                           clear gb25 gl25 HG25
                           obtain ⟨hx25_0, hf25_0⟩ := Kd.R_celln 0 HO_5.out (x6_1 : Int) p25 q25
                           replace p25 := eq_true p25
                           replace q25 := eq_true q25
                           have HP27 := Kd.R_putn HO_5.out (x6_1 : Int) (Go.bits .or .u32 (Go.bits .or .u32 (Go.bits .or .u32 ((((bt a1 (ji7)) % 4294967296) * 16777216) % 4294967296) ((((bt a1 (ji11)) % 4294967296) * 65536) % 4294967296)) ((((bt a1 (ji15)) % 4294967296) * 256) % 4294967296)) ((bt a1 (ji19)) % 4294967296))
                           rw [← Ny110.out] at HP27
                           have HQ27 := zA_ HP27
                           clear HP27
                           refine start_ (n := 33) (S := fun w' => True) (ds := [32]) (mr_ [0, 33]) βDa rfl rfl trivial (fun hHeld => ?_); refine with_tabW spec_l02Block.tab5 spec_l02Block.bits5 (fun HT_ HW_ => ?_)
                           generalize wr.drew = w26 at HO_5 HB GG25 HQ27 hf25_0 hx25_0 hHeld ⊢
                           refine pure_ (i := 0) (N := some 30) (v := ?_) (a' := ?_) (mr_ [1, 32]) rfl rfl (any_of HT_.out βDa) (fun _ _ _ h => h) (Or.inl ⟨(by rfl), ?_⟩) ?_ ?_
                           rotate_left; exact pv_; rotate_left; exact pp_
                           refine pure_ (i := 1) (N := some 31) (v := ?_) (a' := ?_) (mr_ [2, 31]) rfl rfl (any_of HT_.out βDa) (fun _ _ _ h => h) (Or.inl ⟨(by rfl), ?_⟩) ?_ ?_
                           rotate_left; exact pv_; rotate_left; exact pp_
                           refine pure_ (i := 2) (N := some 32) (v := ?_) (a' := ?_) (mr_ [3, 30]) rfl rfl (any_of HT_.out βDa) (fun _ _ _ h => h) (Or.inl ⟨(by rfl), ?_⟩) ?_ ?_
                           rotate_left; exact pv_; rotate_left; exact pp_
                           refine pure_ (i := 3) (N := some 33) (v := ?_) (a' := ?_) (mr_ [4, 29]) rfl rfl (any_of HT_.out βDa) (fun _ _ _ h => h) (Or.inl ⟨(by rfl), ?_⟩) ?_ ?_
                           rotate_left; exact pv_; rotate_left; exact pp_
                           refine pure_ (i := 4) (N := some 34) (v := ?_) (a' := ?_) (mr_ [5, 28]) rfl rfl (any_of HT_.out βDa) (fun _ _ _ h => h) (Or.inl ⟨(by rfl), ?_⟩) ?_ ?_
                           rotate_left; exact pv_; rotate_left; exact pp_
                           refine pure_ (i := 8) (N := some 38) (v := ?_) (a' := ?_) (mr_ [5, 3, 1, 24]) rfl rfl (any_of HT_.out βDa) (fun _ _ _ h => h) (Or.inl ⟨(by rfl), ?_⟩) ?_ ?_
                           rotate_left; exact pv_; rotate_left; exact pp_
                           refine pure_ (i := 9) (N := some 39) (v := ?_) (a' := ?_) (mr_ [5, 3, 2, 23]) rfl rfl (any_of HT_.out βDa) (fun _ _ _ h => h) (Or.inl ⟨(by rfl), ?_⟩) ?_ ?_
                           rotate_left; exact pv_; rotate_left; exact pp_
                           refine pure_ (i := 10) (N := some 40) (v := ?_) (a' := ?_) (mr_ [5, 3, 3, 22]) rfl rfl (any_of HT_.out βDa) (fun _ _ _ h => h) (Or.inl ⟨(by rfl), ?_⟩) ?_ ?_
                           rotate_left; exact pv_; rotate_left; exact pp_
                           refine pure_ (i := 11) (N := some 41) (v := ?_) (a' := ?_) (mr_ [5, 3, 4, 21]) rfl rfl (any_of HT_.out βDa) (fun _ _ _ h => h) (Or.inl ⟨(by rfl), ?_⟩) ?_ ?_
                           rotate_left; exact pv_; rotate_left; exact pp_
                           refine pure_ (i := 16) (N := some 46) (v := ?_) (a' := ?_) (mr_ [5, 3, 4, 4, 1, 16]) rfl rfl (any_of HT_.out βDa) (fun _ _ _ h => h) (Or.inl ⟨(by rfl), ?_⟩) ?_ ?_
                           rotate_left; exact pv_; rotate_left; exact pp_
                           refine pure_ (i := 17) (N := some 47) (v := ?_) (a' := ?_) (mr_ [5, 3, 4, 4, 2, 15]) rfl rfl (any_of HT_.out βDa) (fun _ _ _ h => h) (Or.inl ⟨(by rfl), ?_⟩) ?_ ?_
                           rotate_left; exact pv_; rotate_left; exact pp_
                           refine pure_ (i := 18) (N := some 48) (v := ?_) (a' := ?_) (mr_ [5, 3, 4, 4, 3, 14]) rfl rfl (any_of HT_.out βDa) (fun _ _ _ h => h) (Or.inl ⟨(by rfl), ?_⟩) ?_ ?_
                           rotate_left; exact pv_; rotate_left; exact pp_
                           refine pure_ (i := 19) (N := some 49) (v := ?_) (a' := ?_) (mr_ [5, 3, 4, 4, 4, 13]) rfl rfl (any_of HT_.out βDa) (fun _ _ _ h => h) (Or.inl ⟨(by rfl), ?_⟩) ?_ ?_
                           rotate_left; exact pv_; rotate_left; exact pp_
                           refine pure_ (i := 24) (N := some 54) (v := ?_) (a' := ?_) (mr_ [5, 3, 4, 4, 4, 4, 1, 8]) rfl rfl (any_of HT_.out βDa) (fun _ _ _ h => h) (Or.inl ⟨(by rfl), ?_⟩) ?_ ?_
                           rotate_left; exact pv_; rotate_left; exact pp_
                           refine pure_ (i := 25) (N := some 55) (v := ?_) (a' := ?_) (mr_ [5, 3, 4, 4, 4, 4, 2, 7]) rfl rfl (any_of HT_.out βDa) (fun _ _ _ h => h) (Or.inl ⟨(by rfl), ?_⟩) ?_ ?_
                           rotate_left; exact pv_; rotate_left; exact pp_
                           refine pure_ (i := 26) (N := some 56) (v := ?_) (a' := ?_) (mr_ [5, 3, 4, 4, 4, 4, 3, 6]) rfl rfl (any_of HT_.out βDa) (fun _ _ _ h => h) (Or.inl ⟨(by rfl), ?_⟩) ?_ ?_
                           rotate_left; exact pv_; rotate_left; exact pp_
                           refine pure_ (i := 27) (N := some 57) (v := ?_) (a' := ?_) (mr_ [5, 3, 4, 4, 4, 4, 4, 5]) rfl rfl (any_of HT_.out βDa) (fun _ _ _ h => h) (Or.inl ⟨(by rfl), ?_⟩) ?_ ?_
                           rotate_left; exact pv_; rotate_left; exact pp_
                           refine take_ (i := 5) (N := some 35) (v := ?_) (a' := ?_) (mr_ [6, 2, 4, 4, 4, 4, 4, 5]) rfl rfl (take_ofW HT_.out HW_.out βDa) (fun _ _ _ h => h) (Or.inl ⟨(by rfl), ?_⟩) hHeld ?_ ?_
                           rotate_left
                           · intro w' _
                             go_simp
                             with_reducible rfl
                           rotate_left
                           exact pp_
                           refine pure_ (i := 6) (N := some 36) (v := ?_) (a' := ?_) (mr_ [7, 1, 4, 4, 4, 4, 4, 5]) rfl rfl (any_of HT_.out βDa) (fun _ _ _ h => h) (Or.inl ⟨(by rfl), ?_⟩) ?_ ?_
                           rotate_left; exact pv_; rotate_left; exact pp_
                           refine pure_ (i := 7) (N := some 37) (v := ?_) (a' := ?_) (mr_ [12, 4, 4, 4, 4, 5]) rfl rfl (any_of HT_.out βDa) (fun _ _ _ h => h) (Or.inl ⟨(by rfl), ?_⟩) ?_ ?_
                           rotate_left; exact pv_; rotate_left; exact pp_
                           refine take_ (i := 12) (N := some 42) (v := ?_) (a' := ?_) (mr_ [13, 3, 4, 4, 4, 5]) rfl rfl (take_ofW HT_.out HW_.out βDa) (fun _ _ _ h => h) (Or.inl ⟨(by rfl), ?_⟩) hHeld ?_ ?_
                           rotate_left
                           · intro w' _
                             go_simp
                             with_reducible rfl
                           rotate_left
                           exact pp_
                           refine pure_ (i := 13) (N := some 43) (v := ?_) (a' := ?_) (mr_ [14, 2, 4, 4, 4, 5]) rfl rfl (any_of HT_.out βDa) (fun _ _ _ h => h) (Or.inl ⟨(by rfl), ?_⟩) ?_ ?_
                           rotate_left; exact pv_; rotate_left; exact pp_
                           refine pure_ (i := 14) (N := some 44) (v := ?_) (a' := ?_) (mr_ [15, 1, 4, 4, 4, 5]) rfl rfl (any_of HT_.out βDa) (fun _ _ _ h => h) (Or.inl ⟨(by rfl), ?_⟩) ?_ ?_
                           rotate_left; exact pv_; rotate_left; exact pp_
                           refine pure_ (i := 15) (N := some 45) (v := ?_) (a' := ?_) (mr_ [20, 4, 4, 5]) rfl rfl (any_of HT_.out βDa) (fun _ _ _ h => h) (Or.inl ⟨(by rfl), ?_⟩) ?_ ?_
                           rotate_left; exact pv_; rotate_left; exact pp_
                           refine take_ (i := 20) (N := some 50) (v := ?_) (a' := ?_) (mr_ [21, 3, 4, 5]) rfl rfl (take_ofW HT_.out HW_.out βDa) (fun _ _ _ h => h) (Or.inl ⟨(by rfl), ?_⟩) hHeld ?_ ?_
                           rotate_left
                           · intro w' _
                             go_simp
                             with_reducible rfl
                           rotate_left
                           exact pp_
                           refine pure_ (i := 21) (N := some 51) (v := ?_) (a' := ?_) (mr_ [22, 2, 4, 5]) rfl rfl (any_of HT_.out βDa) (fun _ _ _ h => h) (Or.inl ⟨(by rfl), ?_⟩) ?_ ?_
                           rotate_left; exact pv_; rotate_left; exact pp_
                           refine pure_ (i := 22) (N := some 52) (v := ?_) (a' := ?_) (mr_ [23, 1, 4, 5]) rfl rfl (any_of HT_.out βDa) (fun _ _ _ h => h) (Or.inl ⟨(by rfl), ?_⟩) ?_ ?_
                           rotate_left; exact pv_; rotate_left; exact pp_
                           refine pure_ (i := 23) (N := some 53) (v := ?_) (a' := ?_) (mr_ [28, 5]) rfl rfl (any_of HT_.out βDa) (fun _ _ _ h => h) (Or.inl ⟨(by rfl), ?_⟩) ?_ ?_
                           rotate_left; exact pv_; rotate_left; exact pp_
                           refine take_ (i := 28) (N := some 58) (v := ?_) (a' := ?_) (mr_ [29, 4]) rfl rfl (take_ofW HT_.out HW_.out βDa) (fun _ _ _ h => h) (Or.inl ⟨(by rfl), ?_⟩) hHeld ?_ ?_
                           rotate_left
                           · intro w' _
                             go_simp
                             with_reducible rfl
                           rotate_left
                           exact pp_
                           refine pure_ (i := 29) (N := some 59) (v := ?_) (a' := ?_) (mr_ [30, 3]) rfl rfl (any_of HT_.out βDa) (fun _ _ _ h => h) (Or.inl ⟨(by rfl), ?_⟩) ?_ ?_
                           rotate_left; exact pv_; rotate_left; exact pp_
                           refine pure_ (i := 30) (N := some 60) (v := ?_) (a' := ?_) (mr_ [31, 2]) rfl rfl (any_of HT_.out βDa) (fun _ _ _ h => h) (Or.inl ⟨(by rfl), ?_⟩) ?_ ?_
                           rotate_left; exact pv_; rotate_left; exact pp_
                           refine pure_ (i := 31) (N := some 61) (v := ?_) (a' := ?_) (mr_ [32, 1]) rfl rfl (any_of HT_.out βDa) (fun _ _ _ h => h) (Or.inl ⟨(by rfl), ?_⟩) ?_ ?_
                           rotate_left; exact pv_; rotate_left; exact pp_
                           refine last_ (i := 32) (N := none) (mr_ [33]) rfl rfl (one_of HT_.out βDa) (by decide) (fun K hK => ?_)
                           refine skip_ (w1 := ?_) (by rfl) rfl ?_ ?_
                           rotate_left
                           · go_simp
                             rfl
                           refine hK.out _ _ ?_
                           clear hK K
                           refine done_ (done_of HT_.out βDa) ?_
                           try go_wp2
                           go_roundg k1
                           case measure => have := HK1.out; omega
                           case rel => exact ⟨(y110), (wrap64 (x6_1 + 1)), βya, H', ⟨βCa⟩, ⟨zr_ HQ27.out⟩, ⟨zg1_ HB.out GB25.out⟩⟩
                         · rw [if_neg c24] at H
                           exact absurd H (by simp)
                       · rw [if_neg c23] at H
                         exact absurd H (by simp)
                     · rw [if_neg c21] at H
                       exact absurd H (by simp)
                   · rw [if_neg c20] at H
                     exact absurd H (by simp)
                 · rw [if_neg c17] at H
                   exact absurd H (by simp)
               · rw [if_neg c16] at H
                 exact absurd H (by simp)
             · rw [if_neg c13] at H
               exact absurd H (by simp)
           · rw [if_neg c12] at H
             exact absurd H (by simp)
         · rw [if_neg c9] at H
           exact absurd H (by simp)
       · rw [if_neg c8] at H
         exact absurd H (by simp)
     · rw [if_neg c6] at H
       have c6b0 : decide (x6_1 < 16) = false := decide_eq_false c6
       clear c6
       have H' := zA_ H
       clear H
       go_wp2
       go_loopg [7] k1 (fun kq v7 w' => ∃ (x5_2 : List Int) (x7_2 : Int), v7 = .int .i64 x7_2 ∧ Aside0 (spec_l02Block.l1 kq l0 x5_2 x7_2 = some r) ∧ Aside0 (kq ≤ k1) ∧ Aside0 (Kd.R (Kd.int .u32) 71 w' w.heap.size (fun _ => True) v108 x5_2) ∧ Aside0 (Below w.heap.size w w'))
       case atStart => exact ⟨(x5_1), (16), βya, H', ⟨Nat.le_refl _⟩, ⟨zr_ HO_5.out⟩, ⟨zh_ HB.out⟩⟩
       case round =>
        clear H'
        try clear c1
        try clear p1
        try clear q1
        try clear hx1
        try clear c2
        try clear p2
        try clear q2
        try clear hx2
        try clear hf2
        try clear c3
        try clear c3b0
        try clear c3b1
        try clear c5
        try clear c6
        try clear c6b0
        try clear p6
        try clear c8
        try clear c8b0
        try clear c9
        try clear c9b0
        try clear p10
        try clear q10
        try clear hx10
        try clear c12
        try clear c12b0
        try clear c13
        try clear c13b0
        try clear p14
        try clear q14
        try clear hx14
        try clear c16
        try clear c16b0
        try clear c17
        try clear c17b0
        try clear p18
        try clear q18
        try clear hx18
        try clear c20
        try clear c20b0
        try clear c21
        try clear c21b0
        try clear p22
        try clear q22
        try clear hx22
        try clear c23
        try clear c23b0
        try clear c24
        try clear c24b0
        try clear p25
        try clear q25
        try clear hx25
        try clear hf25
        try clear hx25_0
        try clear p10
        try clear p14
        try clear p18
        try clear p2
        try clear p22
        try clear p25
        try clear q10
        try clear q14
        try clear q18
        try clear q22
        try clear q25
        obtain ⟨x5_2, x7_2, rfl, HA, HK2, HO_5, HB⟩ := hrel
        cases gk with
        | zero => exact absurd HA.out (by simp [spec_l02Block.l1])
        | succ k2 =>
         have H := HA.out
         clear HA
         simp only [spec_l02Block.l1] at H
         by_cases c28 : x7_2 < 64
         · rw [if_pos c28] at H
           have c28b0 : decide (x7_2 < 64) = true := decide_eq_true c28
           clear c28
           obtain ⟨ji29, hji29⟩ : ∃ j_ : Int, (wrap64 (x7_2 - 15)) = j_ := ⟨_, rfl⟩
           replace H : (if 0 ≤ (ji29) then (if (ji29) < (x5_2.length : Int) then (if 0 ≤ (wrap64 (x7_2 - 2)) then (if (wrap64 (x7_2 - 2)) < (x5_2.length : Int) then (if 0 ≤ (wrap64 (x7_2 - 16)) then (if (wrap64 (x7_2 - 16)) < (x5_2.length : Int) then ((spec_l02Turn.f (rd x5_2 (ji29)) 7).bind fun t114 => ((spec_l02Turn.f (rd x5_2 (ji29)) 18).bind fun t115 => (if 0 ≤ (wrap64 (x7_2 - 7)) then (if (wrap64 (x7_2 - 7)) < (x5_2.length : Int) then ((spec_l02Turn.f (rd x5_2 (wrap64 (x7_2 - 2))) 17).bind fun t117 => ((spec_l02Turn.f (rd x5_2 (wrap64 (x7_2 - 2))) 19).bind fun t118 => (if 0 ≤ x7_2 then (if x7_2 < (x5_2.length : Int) then (spec_l02Block.l1 k2 l0 (x5_2.set (x7_2 : Int).toNat (((((rd x5_2 (wrap64 (x7_2 - 16))) + (Go.bits .xor .u32 (Go.bits .xor .u32 t114 t115) ((rd x5_2 (ji29)) / 8))) + (rd x5_2 (wrap64 (x7_2 - 7)))) + (Go.bits .xor .u32 (Go.bits .xor .u32 t117 t118) ((rd x5_2 (wrap64 (x7_2 - 2))) / 1024))) % 4294967296)) (wrap64 (x7_2 + 1))) else (none)) else (none)))) else (none)) else (none)))) else (none)) else (none)) else (none)) else (none)) else (none)) else (none)) = some r := by first | (rw [hji29] at H; exact H) | (simp only [hji29] at H ⊢; exact H)
           have hji29w : (IntKind.i64.wrap (x7_2 - 15)) = ji29 := (i64_w _).trans hji29
           by_cases c30 : 0 ≤ (ji29)
           · rw [if_pos c30] at H
             have c30b0 : decide (0 ≤ (ji29)) = true := decide_eq_true c30
             clear c30
             by_cases c31 : (ji29) < (x5_2.length : Int)
             · rw [if_pos c31] at H
               have c31b0 : decide ((ji29) < (x5_2.length : Int)) = true := decide_eq_true c31
               clear c31
               obtain ⟨ji32, hji32⟩ : ∃ j_ : Int, (wrap64 (x7_2 - 2)) = j_ := ⟨_, rfl⟩
               replace H : (if 0 ≤ (ji32) then (if (ji32) < (x5_2.length : Int) then (if 0 ≤ (wrap64 (x7_2 - 16)) then (if (wrap64 (x7_2 - 16)) < (x5_2.length : Int) then ((spec_l02Turn.f (rd x5_2 (ji29)) 7).bind fun t114 => ((spec_l02Turn.f (rd x5_2 (ji29)) 18).bind fun t115 => (if 0 ≤ (wrap64 (x7_2 - 7)) then (if (wrap64 (x7_2 - 7)) < (x5_2.length : Int) then ((spec_l02Turn.f (rd x5_2 (ji32)) 17).bind fun t117 => ((spec_l02Turn.f (rd x5_2 (ji32)) 19).bind fun t118 => (if 0 ≤ x7_2 then (if x7_2 < (x5_2.length : Int) then (spec_l02Block.l1 k2 l0 (x5_2.set (x7_2 : Int).toNat (((((rd x5_2 (wrap64 (x7_2 - 16))) + (Go.bits .xor .u32 (Go.bits .xor .u32 t114 t115) ((rd x5_2 (ji29)) / 8))) + (rd x5_2 (wrap64 (x7_2 - 7)))) + (Go.bits .xor .u32 (Go.bits .xor .u32 t117 t118) ((rd x5_2 (ji32)) / 1024))) % 4294967296)) (wrap64 (x7_2 + 1))) else (none)) else (none)))) else (none)) else (none)))) else (none)) else (none)) else (none)) else (none)) = some r := by first | (rw [hji32] at H; exact H) | (simp only [hji32] at H ⊢; exact H)
               have hji32w : (IntKind.i64.wrap (x7_2 - 2)) = ji32 := (i64_w _).trans hji32
               by_cases c33 : 0 ≤ (ji32)
               · rw [if_pos c33] at H
                 have c33b0 : decide (0 ≤ (ji32)) = true := decide_eq_true c33
                 clear c33
                 by_cases c34 : (ji32) < (x5_2.length : Int)
                 · rw [if_pos c34] at H
                   have c34b0 : decide ((ji32) < (x5_2.length : Int)) = true := decide_eq_true c34
                   clear c34
                   obtain ⟨ji35, hji35⟩ : ∃ j_ : Int, (wrap64 (x7_2 - 16)) = j_ := ⟨_, rfl⟩
                   replace H : (if 0 ≤ (ji35) then (if (ji35) < (x5_2.length : Int) then ((spec_l02Turn.f (rd x5_2 (ji29)) 7).bind fun t114 => ((spec_l02Turn.f (rd x5_2 (ji29)) 18).bind fun t115 => (if 0 ≤ (wrap64 (x7_2 - 7)) then (if (wrap64 (x7_2 - 7)) < (x5_2.length : Int) then ((spec_l02Turn.f (rd x5_2 (ji32)) 17).bind fun t117 => ((spec_l02Turn.f (rd x5_2 (ji32)) 19).bind fun t118 => (if 0 ≤ x7_2 then (if x7_2 < (x5_2.length : Int) then (spec_l02Block.l1 k2 l0 (x5_2.set (x7_2 : Int).toNat (((((rd x5_2 (ji35)) + (Go.bits .xor .u32 (Go.bits .xor .u32 t114 t115) ((rd x5_2 (ji29)) / 8))) + (rd x5_2 (wrap64 (x7_2 - 7)))) + (Go.bits .xor .u32 (Go.bits .xor .u32 t117 t118) ((rd x5_2 (ji32)) / 1024))) % 4294967296)) (wrap64 (x7_2 + 1))) else (none)) else (none)))) else (none)) else (none)))) else (none)) else (none)) = some r := by first | (rw [hji35] at H; exact H) | (simp only [hji35] at H ⊢; exact H)
                   have hji35w : (IntKind.i64.wrap (x7_2 - 16)) = ji35 := (i64_w _).trans hji35
                   by_cases c36 : 0 ≤ (ji35)
                   · rw [if_pos c36] at H
                     have c36b0 : decide (0 ≤ (ji35)) = true := decide_eq_true c36
                     clear c36
                     by_cases c37 : (ji35) < (x5_2.length : Int)
                     · rw [if_pos c37] at H
                       have c37b0 : decide ((ji35) < (x5_2.length : Int)) = true := decide_eq_true c37
                       clear c37
                       replace H := Option.bind_eq_some_iff.mp H
                       obtain ⟨t114, A380, H⟩ := H
                       replace H : ((spec_l02Turn.f (rd x5_2 (ji29)) 18).bind fun t115 => (if 0 ≤ (wrap64 (x7_2 - 7)) then (if (wrap64 (x7_2 - 7)) < (x5_2.length : Int) then ((spec_l02Turn.f (rd x5_2 (ji32)) 17).bind fun t117 => ((spec_l02Turn.f (rd x5_2 (ji32)) 19).bind fun t118 => (if 0 ≤ x7_2 then (if x7_2 < (x5_2.length : Int) then (spec_l02Block.l1 k2 l0 (x5_2.set (x7_2 : Int).toNat (((((rd x5_2 (ji35)) + (Go.bits .xor .u32 (Go.bits .xor .u32 t114 t115) ((rd x5_2 (ji29)) / 8))) + (rd x5_2 (wrap64 (x7_2 - 7)))) + (Go.bits .xor .u32 (Go.bits .xor .u32 t117 t118) ((rd x5_2 (ji32)) / 1024))) % 4294967296)) (wrap64 (x7_2 + 1))) else (none)) else (none)))) else (none)) else (none))) = some r := H
                       have A38 := zA_ A380
                       clear A380
                       replace H := Option.bind_eq_some_iff.mp H
                       obtain ⟨t115, A390, H⟩ := H
                       replace H : (if 0 ≤ (wrap64 (x7_2 - 7)) then (if (wrap64 (x7_2 - 7)) < (x5_2.length : Int) then ((spec_l02Turn.f (rd x5_2 (ji32)) 17).bind fun t117 => ((spec_l02Turn.f (rd x5_2 (ji32)) 19).bind fun t118 => (if 0 ≤ x7_2 then (if x7_2 < (x5_2.length : Int) then (spec_l02Block.l1 k2 l0 (x5_2.set (x7_2 : Int).toNat (((((rd x5_2 (ji35)) + (Go.bits .xor .u32 (Go.bits .xor .u32 t114 t115) ((rd x5_2 (ji29)) / 8))) + (rd x5_2 (wrap64 (x7_2 - 7)))) + (Go.bits .xor .u32 (Go.bits .xor .u32 t117 t118) ((rd x5_2 (ji32)) / 1024))) % 4294967296)) (wrap64 (x7_2 + 1))) else (none)) else (none)))) else (none)) else (none)) = some r := H
                       have A39 := zA_ A390
                       clear A390
                       obtain ⟨ji40, hji40⟩ : ∃ j_ : Int, (wrap64 (x7_2 - 7)) = j_ := ⟨_, rfl⟩
                       replace H : (if 0 ≤ (ji40) then (if (ji40) < (x5_2.length : Int) then ((spec_l02Turn.f (rd x5_2 (ji32)) 17).bind fun t117 => ((spec_l02Turn.f (rd x5_2 (ji32)) 19).bind fun t118 => (if 0 ≤ x7_2 then (if x7_2 < (x5_2.length : Int) then (spec_l02Block.l1 k2 l0 (x5_2.set (x7_2 : Int).toNat (((((rd x5_2 (ji35)) + (Go.bits .xor .u32 (Go.bits .xor .u32 t114 t115) ((rd x5_2 (ji29)) / 8))) + (rd x5_2 (ji40))) + (Go.bits .xor .u32 (Go.bits .xor .u32 t117 t118) ((rd x5_2 (ji32)) / 1024))) % 4294967296)) (wrap64 (x7_2 + 1))) else (none)) else (none)))) else (none)) else (none)) = some r := by first | (rw [hji40] at H; exact H) | (simp only [hji40] at H ⊢; exact H)
                       (try rw [hji40] at A38)
                       (try rw [hji40] at A39)
                       have hji40w : (IntKind.i64.wrap (x7_2 - 7)) = ji40 := (i64_w _).trans hji40
                       by_cases c41 : 0 ≤ (ji40)
                       · rw [if_pos c41] at H
                         have c41b0 : decide (0 ≤ (ji40)) = true := decide_eq_true c41
                         clear c41
                         by_cases c42 : (ji40) < (x5_2.length : Int)
                         · rw [if_pos c42] at H
                           have c42b0 : decide ((ji40) < (x5_2.length : Int)) = true := decide_eq_true c42
                           clear c42
                           replace H := Option.bind_eq_some_iff.mp H
                           obtain ⟨t117, A430, H⟩ := H
                           replace H : ((spec_l02Turn.f (rd x5_2 (ji32)) 19).bind fun t118 => (if 0 ≤ x7_2 then (if x7_2 < (x5_2.length : Int) then (spec_l02Block.l1 k2 l0 (x5_2.set (x7_2 : Int).toNat (((((rd x5_2 (ji35)) + (Go.bits .xor .u32 (Go.bits .xor .u32 t114 t115) ((rd x5_2 (ji29)) / 8))) + (rd x5_2 (ji40))) + (Go.bits .xor .u32 (Go.bits .xor .u32 t117 t118) ((rd x5_2 (ji32)) / 1024))) % 4294967296)) (wrap64 (x7_2 + 1))) else (none)) else (none))) = some r := H
                           have A43 := zA_ A430
                           clear A430
                           replace H := Option.bind_eq_some_iff.mp H
                           obtain ⟨t118, A440, H⟩ := H
                           replace H : (if 0 ≤ x7_2 then (if x7_2 < (x5_2.length : Int) then (spec_l02Block.l1 k2 l0 (x5_2.set (x7_2 : Int).toNat (((((rd x5_2 (ji35)) + (Go.bits .xor .u32 (Go.bits .xor .u32 t114 t115) ((rd x5_2 (ji29)) / 8))) + (rd x5_2 (ji40))) + (Go.bits .xor .u32 (Go.bits .xor .u32 t117 t118) ((rd x5_2 (ji32)) / 1024))) % 4294967296)) (wrap64 (x7_2 + 1))) else (none)) else (none)) = some r := H
                           have A44 := zA_ A440
                           clear A440
                           by_cases c45 : 0 ≤ x7_2
                           · rw [if_pos c45] at H
                             have c45b0 : decide (0 ≤ x7_2) = true := decide_eq_true c45
                             clear c45
                             by_cases c46 : x7_2 < (x5_2.length : Int)
                             · rw [if_pos c46] at H
                               have c46b0 : decide (x7_2 < (x5_2.length : Int)) = true := decide_eq_true c46
                               clear c46
                               obtain ⟨y119, hy119⟩ : ∃ y_ : List Int, y_ = (x5_2.set (x7_2 : Int).toNat (((((rd x5_2 (ji35)) + (Go.bits .xor .u32 (Go.bits .xor .u32 t114 t115) ((rd x5_2 (ji29)) / 8))) + (rd x5_2 (ji40))) + (Go.bits .xor .u32 (Go.bits .xor .u32 t117 t118) ((rd x5_2 (ji32)) / 1024))) % 4294967296)) := ⟨_, rfl⟩
                               replace H : (spec_l02Block.l1 k2 l0 y119 (wrap64 (x7_2 + 1))) = some r := by first | (rw [hy119]; with_reducible exact H) | (have H2_ := (Option.bind_some _ _).symm.trans H; rw [hy119]; with_reducible exact H2_) | (have H2_ := (Option.bind_some _ _).symm.trans H; with_reducible exact H2_) | with_reducible exact H | (rw [hy119]; exact H) | exact H
                               have Ny119 := zA_ hy119
                               clear hy119
                               have H' := zA_ H
                               clear H
                               obtain ⟨Ao48, co48, eo48⟩ := Kd.R_slice HO_5.out
                               subst eo48
                               have p111 : 0 ≤ ((ji29) : Int) := of_decide_eq_true βxa
                               have q111 : (ji29) < (x5_2.length : Int) := of_decide_eq_true βxa
                               obtain ⟨ad111, e111, hx111_0⟩ := Kd.at_int (Kd.R_reads' HO_5.out).2.2 (ji29) p111 q111
                               cases e111
                               replace p111 := eq_true p111
                               replace q111 := eq_true q111
                               have p112 : 0 ≤ ((ji32) : Int) := of_decide_eq_true βxa
                               have q112 : (ji32) < (x5_2.length : Int) := of_decide_eq_true βxa
                               obtain ⟨ad112, e112, hx112_0⟩ := Kd.at_int (Kd.R_reads' HO_5.out).2.2 (ji32) p112 q112
                               obtain rfl : ad111 = ad112 := (by injection e112)
                               replace p112 := eq_true p112
                               replace q112 := eq_true q112
                               try go_wp2
                               have n0_ := zA_ (Kd.R_drew HO_5.out)
                               have n1_ := zA_ (below_drew1 HB.out)
                               clear HO_5 HB
                               have HO_5 := n0_
                               have HB := n1_
                               clear n0_ n1_
                               have p113 : 0 ≤ ((ji35) : Int) := of_decide_eq_true βxa
                               have q113 : (ji35) < (x5_2.length : Int) := of_decide_eq_true βxa
                               obtain ⟨ad113, e113, hx113_0⟩ := Kd.at_int (Kd.R_reads' HO_5.out).2.2 (ji35) p113 q113
                               obtain rfl : ad111 = ad113 := (by injection e113)
                               replace p113 := eq_true p113
                               replace q113 := eq_true q113
                               have p116 : 0 ≤ ((ji40) : Int) := of_decide_eq_true βxa
                               have q116 : (ji40) < (x5_2.length : Int) := of_decide_eq_true βxa
                               obtain ⟨ad116, e116, hx116_0⟩ := Kd.at_int (Kd.R_reads' HO_5.out).2.2 (ji40) p116 q116
                               obtain rfl : ad111 = ad116 := (by injection e116)
                               replace p116 := eq_true p116
                               replace q116 := eq_true q116
                               refine start_ (n := 33) (S := fun w' => w'.cell? (ad111.add ((ji35)).toNat) = some (.int .u32 (rd x5_2 (ji35))) ∧ w'.cell? (ad111.add ((ji40)).toNat) = some (.int .u32 (rd x5_2 (ji40)))) (ds := [32]) (mr_ [0, 33]) βDa rfl rfl ⟨hx113_0, hx116_0⟩ (fun hHeld => ?_); refine with_tabW spec_l02Block.tab11 spec_l02Block.bits11 (fun HT_ HW_ => ?_)
                               generalize wr.drew = w49 at HO_5 HB hx113_0 hx116_0 hHeld ⊢
                               refine pure_ (i := 0) (N := some 76) (v := ?_) (a' := ?_) (mr_ [1, 32]) rfl rfl (any_of HT_.out βDa) (fun _ _ _ h => h) (Or.inl ⟨(by rfl), ?_⟩) ?_ ?_
                               rotate_left; exact pv_; rotate_left; exact pp_
                               refine pure_ (i := 1) (N := some 77) (v := ?_) (a' := ?_) (mr_ [2, 31]) rfl rfl (any_of HT_.out βDa) (fun _ _ _ h => h) (Or.inl ⟨(by rfl), ?_⟩) ?_ ?_
                               rotate_left; exact pv_; rotate_left; exact pp_
                               refine pure_ (i := 2) (N := some 78) (v := ?_) (a' := ?_) (mr_ [3, 30]) rfl rfl (any_of HT_.out βDa) (fun _ _ _ h => h) (Or.inl ⟨(by rfl), ?_⟩) ?_ ?_
                               rotate_left; exact pv_; rotate_left; exact pp_
                               refine pure_ (i := 3) (N := some 79) (v := ?_) (a' := ?_) (mr_ [4, 29]) rfl rfl (any_of HT_.out βDa) (fun _ _ _ h => h) (Or.inl ⟨(by rfl), ?_⟩) ?_ ?_
                               rotate_left; exact pv_; rotate_left; exact pp_
                               refine pure_ (i := 4) (N := some 80) (v := ?_) (a' := ?_) (mr_ [5, 28]) rfl rfl (any_of HT_.out βDa) (fun _ _ _ h => h) (Or.inl ⟨(by rfl), ?_⟩) ?_ ?_
                               rotate_left; exact pv_; rotate_left; exact pp_
                               refine pure_ (i := 5) (N := some 81) (v := ?_) (a' := ?_) (mr_ [6, 27]) rfl rfl (any_of HT_.out βDa) (fun _ _ _ h => h) (Or.inl ⟨(by rfl), ?_⟩) ?_ ?_
                               rotate_left; exact pv_; rotate_left; exact pp_
                               refine pure_ (i := 7) (N := some 83) (v := ?_) (a' := ?_) (mr_ [6, 1, 1, 25]) rfl rfl (any_of HT_.out βDa) (fun _ _ _ h => h) (Or.inl ⟨(by rfl), ?_⟩) ?_ ?_
                               rotate_left; exact pv_; rotate_left; exact pp_
                               refine pure_ (i := 9) (N := some 85) (v := ?_) (a' := ?_) (mr_ [6, 1, 1, 1, 1, 23]) rfl rfl (any_of HT_.out βDa) (fun _ _ _ h => h) (Or.inl ⟨(by rfl), ?_⟩) ?_ ?_
                               rotate_left; exact pv_; rotate_left; exact pp_
                               refine pure_ (i := 12) (N := some 88) (v := ?_) (a' := ?_) (mr_ [6, 1, 1, 1, 1, 2, 1, 20]) rfl rfl (any_of HT_.out βDa) (fun _ _ _ h => h) (Or.inl ⟨(by rfl), ?_⟩) ?_ ?_
                               rotate_left; exact pv_; rotate_left; exact pp_
                               refine pure_ (i := 13) (N := some 89) (v := ?_) (a' := ?_) (mr_ [6, 1, 1, 1, 1, 2, 2, 19]) rfl rfl (any_of HT_.out βDa) (fun _ _ _ h => h) (Or.inl ⟨(by rfl), ?_⟩) ?_ ?_
                               rotate_left; exact pv_; rotate_left; exact pp_
                               refine pure_ (i := 16) (N := some 92) (v := ?_) (a' := ?_) (mr_ [6, 1, 1, 1, 1, 2, 2, 2, 1, 16]) rfl rfl (any_of HT_.out βDa) (fun _ _ _ h => h) (Or.inl ⟨(by rfl), ?_⟩) ?_ ?_
                               rotate_left; exact pv_; rotate_left; exact pp_
                               refine pure_ (i := 17) (N := some 93) (v := ?_) (a' := ?_) (mr_ [6, 1, 1, 1, 1, 2, 2, 2, 2, 15]) rfl rfl (any_of HT_.out βDa) (fun _ _ _ h => h) (Or.inl ⟨(by rfl), ?_⟩) ?_ ?_
                               rotate_left; exact pv_; rotate_left; exact pp_
                               refine pure_ (i := 18) (N := some 94) (v := ?_) (a' := ?_) (mr_ [6, 1, 1, 1, 1, 2, 2, 2, 3, 14]) rfl rfl (any_of HT_.out βDa) (fun _ _ _ h => h) (Or.inl ⟨(by rfl), ?_⟩) ?_ ?_
                               rotate_left; exact pv_; rotate_left; exact pp_
                               refine pure_ (i := 19) (N := some 95) (v := ?_) (a' := ?_) (mr_ [6, 1, 1, 1, 1, 2, 2, 2, 4, 13]) rfl rfl (any_of HT_.out βDa) (fun _ _ _ h => h) (Or.inl ⟨(by rfl), ?_⟩) ?_ ?_
                               rotate_left; exact pv_; rotate_left; exact pp_
                               refine pure_ (i := 22) (N := some 98) (v := ?_) (a' := ?_) (mr_ [6, 1, 1, 1, 1, 2, 2, 2, 4, 2, 1, 10]) rfl rfl (any_of HT_.out βDa) (fun _ _ _ h => h) (Or.inl ⟨(by rfl), ?_⟩) ?_ ?_
                               rotate_left; exact pv_; rotate_left; exact pp_
                               refine pure_ (i := 24) (N := some 100) (v := ?_) (a' := ?_) (mr_ [6, 1, 1, 1, 1, 2, 2, 2, 4, 2, 1, 1, 1, 8]) rfl rfl (any_of HT_.out βDa) (fun _ _ _ h => h) (Or.inl ⟨(by rfl), ?_⟩) ?_ ?_
                               rotate_left; exact pv_; rotate_left; exact pp_
                               refine pure_ (i := 27) (N := some 103) (v := ?_) (a' := ?_) (mr_ [6, 1, 1, 1, 1, 2, 2, 2, 4, 2, 1, 1, 1, 2, 1, 5]) rfl rfl (any_of HT_.out βDa) (fun _ _ _ h => h) (Or.inl ⟨(by rfl), ?_⟩) ?_ ?_
                               rotate_left; exact pv_; rotate_left; exact pp_
                               refine pure_ (i := 28) (N := some 104) (v := ?_) (a' := ?_) (mr_ [6, 1, 1, 1, 1, 2, 2, 2, 4, 2, 1, 1, 1, 2, 2, 4]) rfl rfl (any_of HT_.out βDa) (fun _ _ _ h => h) (Or.inl ⟨(by rfl), ?_⟩) ?_ ?_
                               rotate_left; exact pv_; rotate_left; exact pp_
                               refine take_ (i := 6) (N := some 82) (v := ?_) (a' := ?_) (mr_ [8, 1, 1, 2, 2, 2, 4, 2, 1, 1, 1, 2, 2, 4]) rfl rfl (take_ofW HT_.out HW_.out βDa) (fun _ _ _ h => h) (Or.inl ⟨(by rfl), ?_⟩) hHeld ?_ ?_
                               rotate_left
                               · rintro w' ⟨s0, s1⟩
                                 go_simp
                                 with_reducible rfl
                               rotate_left
                               exact pp_
                               refine take_ (i := 20) (N := some 96) (v := ?_) (a' := ?_) (mr_ [8, 1, 1, 2, 2, 2, 5, 1, 1, 1, 1, 2, 2, 4]) rfl rfl (take_ofW HT_.out HW_.out βDa) (fun _ _ _ h => h) (Or.inl ⟨(by rfl), ?_⟩) hHeld ?_ ?_
                               rotate_left
                               · rintro w' ⟨s0, s1⟩
                                 go_simp
                                 with_reducible rfl
                               rotate_left
                               exact pp_
                               refine one_ (i := 8) (N := some 84) (mr_ [10, 2, 2, 2, 5, 1, 1, 1, 1, 2, 2, 4]) rfl rfl (one_of HT_.out βDa) (by decide) (fun K hK => ?_)
                               refine goes_ Tryd.func75 βDa rfl #[.int .u32 (rd x5_2 (ji29)), .int .u64 7] (by rfl) rfl rfl βL ?_
                               with_reducible refine (spec_l02Turn.calls (rd x5_2 (ji29)) 7 t114 _ A38.out).mono ?_
                               rintro e w' ⟨rfl, ⟨nd, rfl⟩⟩
                               refine ⟨_, rfl, ?_⟩
                               refine hK.out _ _ ⟨hHeld.1, hHeld.2⟩ (fun hHeld => ?_)
                               clear hK K
                               refine norm_ (a' := ?_) ?_ ?_
                               rotate_left
                               · show Act.put _ (some 84) _ = _
                                 simp only [Act.put, List.setIfInBounds_toArray, List.set_cons_zero, List.set_cons_succ, i64_w, i32_w]
                                 rfl
                               refine one_ (i := 10) (N := some 86) (mr_ [11, 1, 2, 2, 5, 1, 1, 1, 1, 2, 2, 4]) rfl rfl (one_of HT_.out βDa) (by decide) (fun K hK => ?_)
                               refine goes_ Tryd.func75 βDa rfl #[.int .u32 (rd x5_2 (ji29)), .int .u64 18] (by rfl) rfl rfl βL ?_
                               with_reducible refine (spec_l02Turn.calls (rd x5_2 (ji29)) 18 t115 _ A39.out).mono ?_
                               rintro e w' ⟨rfl, ⟨nd, rfl⟩⟩
                               refine ⟨_, rfl, ?_⟩
                               refine hK.out _ _ ⟨hHeld.1, hHeld.2⟩ (fun hHeld => ?_)
                               clear hK K
                               refine norm_ (a' := ?_) ?_ ?_
                               rotate_left
                               · show Act.put _ (some 86) _ = _
                                 simp only [Act.put, List.setIfInBounds_toArray, List.set_cons_zero, List.set_cons_succ, i64_w, i32_w]
                                 rfl
                               refine pure_ (i := 11) (N := some 87) (v := ?_) (a' := ?_) (mr_ [14, 2, 5, 1, 1, 1, 1, 2, 2, 4]) rfl rfl (any_of HT_.out βDa) (fun _ _ _ h => h) (Or.inl ⟨(by rfl), ?_⟩) ?_ ?_
                               rotate_left; exact pv_; rotate_left; exact pp_
                               refine pure_ (i := 14) (N := some 90) (v := ?_) (a' := ?_) (mr_ [15, 1, 5, 1, 1, 1, 1, 2, 2, 4]) rfl rfl (any_of HT_.out βDa) (fun _ _ _ h => h) (Or.inl ⟨(by rfl), ?_⟩) ?_ ?_
                               rotate_left; exact pv_; rotate_left; exact pp_
                               refine pure_ (i := 15) (N := some 91) (v := ?_) (a' := ?_) (mr_ [21, 1, 1, 1, 1, 2, 2, 4]) rfl rfl (any_of HT_.out βDa) (fun _ _ _ h => h) (Or.inl ⟨(by rfl), ?_⟩) ?_ ?_
                               rotate_left; exact pv_; rotate_left; exact pp_
                               refine pure_ (i := 21) (N := some 97) (v := ?_) (a' := ?_) (mr_ [23, 1, 1, 2, 2, 4]) rfl rfl (any_of HT_.out βDa) (fun _ _ _ h => h) (Or.inl ⟨(by rfl), ?_⟩) ?_ ?_
                               rotate_left; exact pv_; rotate_left; exact pp_
                               refine one_ (i := 23) (N := some 99) (mr_ [25, 2, 2, 4]) rfl rfl (one_of HT_.out βDa) (by decide) (fun K hK => ?_)
                               refine goes_ Tryd.func75 βDa rfl #[.int .u32 (rd x5_2 (ji32)), .int .u64 17] (by rfl) rfl rfl βM ?_
                               with_reducible refine (spec_l02Turn.calls (rd x5_2 (ji32)) 17 t117 _ A43.out).mono ?_
                               rintro e w' ⟨rfl, ⟨nd, rfl⟩⟩
                               refine ⟨_, rfl, ?_⟩
                               refine hK.out _ _ ⟨hHeld.1, hHeld.2⟩ (fun hHeld => ?_)
                               clear hK K
                               refine norm_ (a' := ?_) ?_ ?_
                               rotate_left
                               · show Act.put _ (some 99) _ = _
                                 simp only [Act.put, List.setIfInBounds_toArray, List.set_cons_zero, List.set_cons_succ, i64_w, i32_w]
                                 rfl
                               refine one_ (i := 25) (N := some 101) (mr_ [26, 1, 2, 4]) rfl rfl (one_of HT_.out βDa) (by decide) (fun K hK => ?_)
                               refine goes_ Tryd.func75 βDa rfl #[.int .u32 (rd x5_2 (ji32)), .int .u64 19] (by rfl) rfl rfl βM ?_
                               with_reducible refine (spec_l02Turn.calls (rd x5_2 (ji32)) 19 t118 _ A44.out).mono ?_
                               rintro e w' ⟨rfl, ⟨nd, rfl⟩⟩
                               refine ⟨_, rfl, ?_⟩
                               have p47 : 0 ≤ (x7_2 : Int) := of_decide_eq_true βxa
                               have q47 : (x7_2 : Int) < ((x5_2.length : Int) : Int) := of_decide_eq_true βxa
                               obtain ⟨go47, co47, eo47, gb47, gl47, cl47, HG47⟩ := Kd.R_form HO_5.out (by omega)
                               (first | cases eo47 | (injection eo47 with ea_ en_ ec_; (first | subst ea_ | (injection ea_ with ea_; subst ea_)); subst ec_; clear en_))
                               have GB47 := zA_ gb47
                               have GG47 := zA_ HG47
                               clear gb47 gl47 HG47
                               (first | simp only [add_plain] at hx111_0 | skip)
                               (first | simp only [add_plain] at hx112_0 | skip)
                               (first | simp only [add_plain] at hx113_0 | skip)
                               (first | simp only [add_plain] at hx116_0 | skip)
                               obtain ⟨hx47_0, hf47_0⟩ := Kd.R_celln 0 HO_5.out (x7_2 : Int) p47 q47
                               replace p47 := eq_true p47
                               replace q47 := eq_true q47
                               have HP50 := Kd.R_putn HO_5.out (x7_2 : Int) (((((rd x5_2 (ji35)) + (Go.bits .xor .u32 (Go.bits .xor .u32 t114 t115) ((rd x5_2 (ji29)) / 8))) + (rd x5_2 (ji40))) + (Go.bits .xor .u32 (Go.bits .xor .u32 t117 t118) ((rd x5_2 (ji32)) / 1024))) % 4294967296)
                               rw [← Ny119.out] at HP50
                               have HQ50 := zA_ HP50
                               clear HP50
                               refine hK.out _ _ ⟨hHeld.1, hHeld.2⟩ (fun hHeld => ?_)
                               clear hK K
                               refine norm_ (a' := ?_) ?_ ?_
                               rotate_left
                               · show Act.put _ (some 101) _ = _
                                 simp only [Act.put, List.setIfInBounds_toArray, List.set_cons_zero, List.set_cons_succ, i64_w, i32_w]
                                 rfl
                               refine pure_ (i := 26) (N := some 102) (v := ?_) (a' := ?_) (mr_ [29, 4]) rfl rfl (any_of HT_.out βDa) (fun _ _ _ h => h) (Or.inl ⟨(by rfl), ?_⟩) ?_ ?_
                               rotate_left; exact pv_; rotate_left; exact pp_
                               refine pure_ (i := 29) (N := some 105) (v := ?_) (a' := ?_) (mr_ [30, 3]) rfl rfl (any_of HT_.out βDa) (fun _ _ _ h => h) (Or.inl ⟨(by rfl), ?_⟩) ?_ ?_
                               rotate_left; exact pv_; rotate_left; exact pp_
                               refine pure_ (i := 30) (N := some 106) (v := ?_) (a' := ?_) (mr_ [31, 2]) rfl rfl (any_of HT_.out βDa) (fun _ _ _ h => h) (Or.inl ⟨(by rfl), ?_⟩) ?_ ?_
                               rotate_left; exact pv_; rotate_left; exact pp_
                               refine pure_ (i := 31) (N := some 107) (v := ?_) (a' := ?_) (mr_ [32, 1]) rfl rfl (any_of HT_.out βDa) (fun _ _ _ h => h) (Or.inl ⟨(by rfl), ?_⟩) ?_ ?_
                               rotate_left; exact pv_; rotate_left; exact pp_
                               refine last_ (i := 32) (N := none) (mr_ [33]) rfl rfl (one_of HT_.out βDa) (by decide) (fun K hK => ?_)
                               refine skip_ (w1 := ?_) (by rfl) rfl ?_ ?_
                               rotate_left
                               · go_simp
                                 rfl
                               refine hK.out _ _ ?_
                               clear hK K
                               refine done_ (done_of HT_.out βDa) ?_
                               try go_wp2
                               go_roundg k2
                               case measure => have := HK1.out; have := HK2.out; omega
                               case rel => exact ⟨(y119), (wrap64 (x7_2 + 1)), βya, H', ⟨(by have := HK1.out; have := HK2.out; omega)⟩, ⟨zr_ HQ50.out⟩, ⟨zg1_ HB.out GB47.out⟩⟩
                             · rw [if_neg c46] at H
                               exact absurd H (by simp)
                           · rw [if_neg c45] at H
                             exact absurd H (by simp)
                         · rw [if_neg c42] at H
                           exact absurd H (by simp)
                       · rw [if_neg c41] at H
                         exact absurd H (by simp)
                     · rw [if_neg c37] at H
                       exact absurd H (by simp)
                   · rw [if_neg c36] at H
                     exact absurd H (by simp)
                 · rw [if_neg c34] at H
                   exact absurd H (by simp)
               · rw [if_neg c33] at H
                 exact absurd H (by simp)
             · rw [if_neg c31] at H
               exact absurd H (by simp)
           · rw [if_neg c30] at H
             exact absurd H (by simp)
         · rw [if_neg c28] at H
           have c28b0 : decide (x7_2 < 64) = false := decide_eq_false c28
           clear c28
           by_cases c51 : 0 < (l0.length : Int)
           · rw [if_pos c51] at H
             have c51b0 : decide (0 < (l0.length : Int)) = true := decide_eq_true c51
             have c51b1 : decide (0 < l0.length) = true := decide_eq_true (by omega)
             clear c51
             by_cases c52 : 1 < (l0.length : Int)
             · rw [if_pos c52] at H
               have c52b0 : decide (1 < (l0.length : Int)) = true := decide_eq_true c52
               have c52b1 : decide (1 < l0.length) = true := decide_eq_true (by omega)
               clear c52
               by_cases c53 : 2 < (l0.length : Int)
               · rw [if_pos c53] at H
                 have c53b0 : decide (2 < (l0.length : Int)) = true := decide_eq_true c53
                 have c53b1 : decide (2 < l0.length) = true := decide_eq_true (by omega)
                 clear c53
                 by_cases c54 : 3 < (l0.length : Int)
                 · rw [if_pos c54] at H
                   have c54b0 : decide (3 < (l0.length : Int)) = true := decide_eq_true c54
                   have c54b1 : decide (3 < l0.length) = true := decide_eq_true (by omega)
                   clear c54
                   by_cases c55 : 4 < (l0.length : Int)
                   · rw [if_pos c55] at H
                     have c55b0 : decide (4 < (l0.length : Int)) = true := decide_eq_true c55
                     have c55b1 : decide (4 < l0.length) = true := decide_eq_true (by omega)
                     clear c55
                     by_cases c56 : 5 < (l0.length : Int)
                     · rw [if_pos c56] at H
                       have c56b0 : decide (5 < (l0.length : Int)) = true := decide_eq_true c56
                       have c56b1 : decide (5 < l0.length) = true := decide_eq_true (by omega)
                       clear c56
                       by_cases c57 : 6 < (l0.length : Int)
                       · rw [if_pos c57] at H
                         have c57b0 : decide (6 < (l0.length : Int)) = true := decide_eq_true c57
                         have c57b1 : decide (6 < l0.length) = true := decide_eq_true (by omega)
                         clear c57
                         by_cases c58 : 7 < (l0.length : Int)
                         · rw [if_pos c58] at H
                           have c58b0 : decide (7 < (l0.length : Int)) = true := decide_eq_true c58
                           have c58b1 : decide (7 < l0.length) = true := decide_eq_true (by omega)
                           clear c58
                           replace H := Option.bind_eq_some_iff.mp H
                           obtain ⟨t128, A590, H⟩ := H
                           replace H : (spec_l02Block.l2 k2 l0 x5_2 ((rd l0 0) % 4294967296) ((rd l0 1) % 4294967296) ((rd l0 2) % 4294967296) ((rd l0 3) % 4294967296) ((rd l0 4) % 4294967296) ((rd l0 5) % 4294967296) ((rd l0 6) % 4294967296) ((rd l0 7) % 4294967296) t128 0) = some r := H
                           have A59 := zA_ A590
                           clear A590
                           have H' := zA_ H
                           clear H
                           try go_wp2
                           have n0_ := zA_ (Kd.R_drew HO_5.out)
                           have n1_ := zA_ (below_drew1 HB.out)
                           clear HO_5 HB
                           have HO_5 := n0_
                           have HB := n1_
                           clear n0_ n1_
                           have p120 : 0 ≤ (0 : Int) := (by omega)
                           have q120 : 0 < (l0.length : Int) := of_decide_eq_true βxa
                           obtain ⟨ad120, e120, hx120_0⟩ := Kd.at_int HR0.out 0 p120 q120
                           have hw120_0 := hx120_0
                           (try rw [show ((0 : Int)).toNat = 0 from rfl] at hw120_0)
                           (try rw [show 0 * 1 = 0 from rfl] at hw120_0)
                           (try rw [Addr.add_zero'] at hw120_0)
                           cases e120
                           have qi120 : (0 < l0.length) = True := eq_true (by omega)
                           (try rw [show ((0 : Int)).toNat = 0 from rfl] at hx120_0)
                           (try rw [Addr.add_zero'] at hx120_0)
                           replace hx120_0 := bc_ HB.out hx120_0
                           replace p120 := eq_true p120
                           replace q120 := eq_true q120
                           have p121 : 0 ≤ (1 : Int) := (by omega)
                           have q121 : 1 < (l0.length : Int) := of_decide_eq_true βxa
                           obtain ⟨ad121, e121, hx121_0⟩ := Kd.at_int HR0.out 1 p121 q121
                           have hw121_0 := hx121_0
                           (try rw [show ((1 : Int)).toNat = 1 from rfl] at hw121_0)
                           (try rw [show 1 * 1 = 1 from rfl] at hw121_0)
                           (try simp only [Nat.reduceMul, Nat.reduceEqDiff, Go.Addr.add, ↓reduceIte] at hw121_0)
                           obtain rfl : ad120 = ad121 := (by injection e121)
                           (try simp only [show (1 : Int).toNat = 1 from rfl, Nat.reduceMul, Nat.reduceEqDiff, Go.Addr.add, ↓reduceIte] at hx121_0)
                           have qi121 : (1 < l0.length) = True := eq_true (by omega)
                           (try rw [show ((1 : Int)).toNat = 1 from rfl] at hx121_0)
                           replace hx121_0 := bc_ HB.out hx121_0
                           replace p121 := eq_true p121
                           replace q121 := eq_true q121
                           have p122 : 0 ≤ (2 : Int) := (by omega)
                           have q122 : 2 < (l0.length : Int) := of_decide_eq_true βxa
                           obtain ⟨ad122, e122, hx122_0⟩ := Kd.at_int HR0.out 2 p122 q122
                           have hw122_0 := hx122_0
                           (try rw [show ((2 : Int)).toNat = 2 from rfl] at hw122_0)
                           (try rw [show 2 * 1 = 2 from rfl] at hw122_0)
                           (try simp only [Nat.reduceMul, Nat.reduceEqDiff, Go.Addr.add, ↓reduceIte] at hw122_0)
                           obtain rfl : ad120 = ad122 := (by injection e122)
                           (try simp only [show (2 : Int).toNat = 2 from rfl, Nat.reduceMul, Nat.reduceEqDiff, Go.Addr.add, ↓reduceIte] at hx122_0)
                           have qi122 : (2 < l0.length) = True := eq_true (by omega)
                           (try rw [show ((2 : Int)).toNat = 2 from rfl] at hx122_0)
                           replace hx122_0 := bc_ HB.out hx122_0
                           replace p122 := eq_true p122
                           replace q122 := eq_true q122
                           have p123 : 0 ≤ (3 : Int) := (by omega)
                           have q123 : 3 < (l0.length : Int) := of_decide_eq_true βxa
                           obtain ⟨ad123, e123, hx123_0⟩ := Kd.at_int HR0.out 3 p123 q123
                           have hw123_0 := hx123_0
                           (try rw [show ((3 : Int)).toNat = 3 from rfl] at hw123_0)
                           (try rw [show 3 * 1 = 3 from rfl] at hw123_0)
                           (try simp only [Nat.reduceMul, Nat.reduceEqDiff, Go.Addr.add, ↓reduceIte] at hw123_0)
                           obtain rfl : ad120 = ad123 := (by injection e123)
                           (try simp only [show (3 : Int).toNat = 3 from rfl, Nat.reduceMul, Nat.reduceEqDiff, Go.Addr.add, ↓reduceIte] at hx123_0)
                           have qi123 : (3 < l0.length) = True := eq_true (by omega)
                           (try rw [show ((3 : Int)).toNat = 3 from rfl] at hx123_0)
                           replace hx123_0 := bc_ HB.out hx123_0
                           replace p123 := eq_true p123
                           replace q123 := eq_true q123
                           refine start_ (n := 20) (S := fun w' => w'.cell? ad120 = some (.int .i64 (rd l0 0)) ∧ w'.cell? ⟨ad120.block, ad120.off + 1, none⟩ = some (.int .i64 (rd l0 1)) ∧ w'.cell? ⟨ad120.block, ad120.off + 2, none⟩ = some (.int .i64 (rd l0 2)) ∧ w'.cell? ⟨ad120.block, ad120.off + 3, none⟩ = some (.int .i64 (rd l0 3))) (ds := []) (mr_ [0, 20]) βDa rfl rfl ⟨(bc_ HB.out hw120_0), (bc_ HB.out hw121_0), (bc_ HB.out hw122_0), (bc_ HB.out hw123_0)⟩ (fun hHeld => ?_); refine with_tabW spec_l02Block.tab12 spec_l02Block.bits12 (fun HT_ HW_ => ?_)
                           generalize wr.drew = w60 at HO_5 HB hx120_0 hx121_0 hx122_0 hx123_0 hHeld ⊢
                           refine pure_ (i := 0) (N := some 108) (v := ?_) (a' := ?_) (mr_ [1, 19]) rfl rfl (any_of HT_.out βDa) (fun _ _ _ h => h) (Or.inl ⟨(by rfl), ?_⟩) ?_ ?_
                           rotate_left; exact pv_; rotate_left; exact pp_
                           refine pure_ (i := 1) (N := some 109) (v := ?_) (a' := ?_) (mr_ [2, 18]) rfl rfl (any_of HT_.out βDa) (fun _ _ _ h => h) (Or.inl ⟨(by rfl), ?_⟩) ?_ ?_
                           rotate_left; exact pv_; rotate_left; exact pp_
                           refine pure_ (i := 4) (N := some 112) (v := ?_) (a' := ?_) (mr_ [2, 2, 1, 15]) rfl rfl (any_of HT_.out βDa) (fun _ _ _ h => h) (Or.inl ⟨(by rfl), ?_⟩) ?_ ?_
                           rotate_left; exact pv_; rotate_left; exact pp_
                           refine pure_ (i := 5) (N := some 113) (v := ?_) (a' := ?_) (mr_ [2, 2, 2, 14]) rfl rfl (any_of HT_.out βDa) (fun _ _ _ h => h) (Or.inl ⟨(by rfl), ?_⟩) ?_ ?_
                           rotate_left; exact pv_; rotate_left; exact pp_
                           refine pure_ (i := 8) (N := some 116) (v := ?_) (a' := ?_) (mr_ [2, 2, 2, 2, 1, 11]) rfl rfl (any_of HT_.out βDa) (fun _ _ _ h => h) (Or.inl ⟨(by rfl), ?_⟩) ?_ ?_
                           rotate_left; exact pv_; rotate_left; exact pp_
                           refine pure_ (i := 9) (N := some 117) (v := ?_) (a' := ?_) (mr_ [2, 2, 2, 2, 2, 10]) rfl rfl (any_of HT_.out βDa) (fun _ _ _ h => h) (Or.inl ⟨(by rfl), ?_⟩) ?_ ?_
                           rotate_left; exact pv_; rotate_left; exact pp_
                           refine pure_ (i := 12) (N := some 120) (v := ?_) (a' := ?_) (mr_ [2, 2, 2, 2, 2, 2, 1, 7]) rfl rfl (any_of HT_.out βDa) (fun _ _ _ h => h) (Or.inl ⟨(by rfl), ?_⟩) ?_ ?_
                           rotate_left; exact pv_; rotate_left; exact pp_
                           refine pure_ (i := 13) (N := some 121) (v := ?_) (a' := ?_) (mr_ [2, 2, 2, 2, 2, 2, 2, 6]) rfl rfl (any_of HT_.out βDa) (fun _ _ _ h => h) (Or.inl ⟨(by rfl), ?_⟩) ?_ ?_
                           rotate_left; exact pv_; rotate_left; exact pp_
                           refine take_ (i := 2) (N := some 110) (v := ?_) (a' := ?_) (mr_ [3, 1, 2, 2, 2, 2, 2, 6]) rfl rfl (take_ofW HT_.out HW_.out βDa) (fun _ _ _ h => h) (Or.inl ⟨(by rfl), ?_⟩) hHeld ?_ ?_
                           rotate_left
                           · rintro w' ⟨s0, s1, s2, s3⟩
                             go_simp
                             with_reducible rfl
                           rotate_left
                           exact pp_
                           refine pure_ (i := 3) (N := some 111) (v := ?_) (a' := ?_) (mr_ [6, 2, 2, 2, 2, 6]) rfl rfl (any_of HT_.out βDa) (fun _ _ _ h => h) (Or.inl ⟨(by rfl), ?_⟩) ?_ ?_
                           rotate_left; exact pv_; rotate_left; exact pp_
                           refine pure_ (i := 16) (N := some 10) (v := ?_) (a' := ?_) (mr_ [6, 2, 2, 2, 2, 2, 1, 3]) rfl rfl (any_of HT_.out βDa) (fun _ _ _ h => h) (Or.inl ⟨(by rfl), ?_⟩) ?_ ?_
                           rotate_left; exact pv_; rotate_left; exact pp_
                           refine take_ (i := 6) (N := some 114) (v := ?_) (a' := ?_) (mr_ [7, 1, 2, 2, 2, 2, 1, 3]) rfl rfl (take_ofW HT_.out HW_.out βDa) (fun _ _ _ h => h) (Or.inl ⟨(by rfl), ?_⟩) hHeld ?_ ?_
                           rotate_left
                           · rintro w' ⟨s0, s1, s2, s3⟩
                             go_simp
                             with_reducible rfl
                           rotate_left
                           exact pp_
                           refine pure_ (i := 7) (N := some 115) (v := ?_) (a' := ?_) (mr_ [10, 2, 2, 2, 1, 3]) rfl rfl (any_of HT_.out βDa) (fun _ _ _ h => h) (Or.inl ⟨(by rfl), ?_⟩) ?_ ?_
                           rotate_left; exact pv_; rotate_left; exact pp_
                           refine pure_ (i := 17) (N := some 11) (v := ?_) (a' := ?_) (mr_ [10, 2, 2, 2, 2, 2]) rfl rfl (any_of HT_.out βDa) (fun _ _ _ h => h) (Or.inl ⟨(by rfl), ?_⟩) ?_ ?_
                           rotate_left; exact pv_; rotate_left; exact pp_
                           refine take_ (i := 10) (N := some 118) (v := ?_) (a' := ?_) (mr_ [11, 1, 2, 2, 2, 2]) rfl rfl (take_ofW HT_.out HW_.out βDa) (fun _ _ _ h => h) (Or.inl ⟨(by rfl), ?_⟩) hHeld ?_ ?_
                           rotate_left
                           · rintro w' ⟨s0, s1, s2, s3⟩
                             go_simp
                             with_reducible rfl
                           rotate_left
                           exact pp_
                           refine pure_ (i := 11) (N := some 119) (v := ?_) (a' := ?_) (mr_ [14, 2, 2, 2]) rfl rfl (any_of HT_.out βDa) (fun _ _ _ h => h) (Or.inl ⟨(by rfl), ?_⟩) ?_ ?_
                           rotate_left; exact pv_; rotate_left; exact pp_
                           refine pure_ (i := 18) (N := some 12) (v := ?_) (a' := ?_) (mr_ [14, 2, 3, 1]) rfl rfl (any_of HT_.out βDa) (fun _ _ _ h => h) (Or.inl ⟨(by rfl), ?_⟩) ?_ ?_
                           rotate_left; exact pv_; rotate_left; exact pp_
                           refine take_ (i := 14) (N := some 122) (v := ?_) (a' := ?_) (mr_ [15, 1, 3, 1]) rfl rfl (take_ofW HT_.out HW_.out βDa) (fun _ _ _ h => h) (Or.inl ⟨(by rfl), ?_⟩) hHeld ?_ ?_
                           rotate_left
                           · rintro w' ⟨s0, s1, s2, s3⟩
                             go_simp
                             with_reducible rfl
                           rotate_left
                           exact pp_
                           refine pure_ (i := 15) (N := some 123) (v := ?_) (a' := ?_) (mr_ [19, 1]) rfl rfl (any_of HT_.out βDa) (fun _ _ _ h => h) (Or.inl ⟨(by rfl), ?_⟩) ?_ ?_
                           rotate_left; exact pv_; rotate_left; exact pp_
                           refine pure_ (i := 19) (N := some 13) (v := ?_) (a' := ?_) (mr_ [20]) rfl rfl (any_of HT_.out βDa) (fun _ _ _ h => h) (Or.inl ⟨(by rfl), ?_⟩) ?_ ?_
                           rotate_left; exact pv_; rotate_left; exact pp_
                           refine done_ (done_of HT_.out βDa) ?_
                           try go_wp2
                           have n0_ := zA_ (Kd.R_drew HO_5.out)
                           have n1_ := zA_ (below_drew1 HB.out)
                           clear HO_5 HB
                           have HO_5 := n0_
                           have HB := n1_
                           clear n0_ n1_
                           have p124 : 0 ≤ (4 : Int) := (by omega)
                           have q124 : 4 < (l0.length : Int) := of_decide_eq_true βxa
                           obtain ⟨ad124, e124, hx124_0⟩ := Kd.at_int HR0.out 4 p124 q124
                           have hw124_0 := hx124_0
                           (try rw [show ((4 : Int)).toNat = 4 from rfl] at hw124_0)
                           (try rw [show 4 * 1 = 4 from rfl] at hw124_0)
                           (try simp only [Nat.reduceMul, Nat.reduceEqDiff, Go.Addr.add, ↓reduceIte] at hw124_0)
                           obtain rfl : ad120 = ad124 := (by injection e124)
                           (try simp only [show (4 : Int).toNat = 4 from rfl, Nat.reduceMul, Nat.reduceEqDiff, Go.Addr.add, ↓reduceIte] at hx124_0)
                           have qi124 : (4 < l0.length) = True := eq_true (by omega)
                           (try rw [show ((4 : Int)).toNat = 4 from rfl] at hx124_0)
                           replace hx124_0 := bc_ HB.out hx124_0
                           replace p124 := eq_true p124
                           replace q124 := eq_true q124
                           have p125 : 0 ≤ (5 : Int) := (by omega)
                           have q125 : 5 < (l0.length : Int) := of_decide_eq_true βxa
                           obtain ⟨ad125, e125, hx125_0⟩ := Kd.at_int HR0.out 5 p125 q125
                           have hw125_0 := hx125_0
                           (try rw [show ((5 : Int)).toNat = 5 from rfl] at hw125_0)
                           (try rw [show 5 * 1 = 5 from rfl] at hw125_0)
                           (try simp only [Nat.reduceMul, Nat.reduceEqDiff, Go.Addr.add, ↓reduceIte] at hw125_0)
                           obtain rfl : ad120 = ad125 := (by injection e125)
                           (try simp only [show (5 : Int).toNat = 5 from rfl, Nat.reduceMul, Nat.reduceEqDiff, Go.Addr.add, ↓reduceIte] at hx125_0)
                           have qi125 : (5 < l0.length) = True := eq_true (by omega)
                           (try rw [show ((5 : Int)).toNat = 5 from rfl] at hx125_0)
                           replace hx125_0 := bc_ HB.out hx125_0
                           replace p125 := eq_true p125
                           replace q125 := eq_true q125
                           have p126 : 0 ≤ (6 : Int) := (by omega)
                           have q126 : 6 < (l0.length : Int) := of_decide_eq_true βxa
                           obtain ⟨ad126, e126, hx126_0⟩ := Kd.at_int HR0.out 6 p126 q126
                           have hw126_0 := hx126_0
                           (try rw [show ((6 : Int)).toNat = 6 from rfl] at hw126_0)
                           (try rw [show 6 * 1 = 6 from rfl] at hw126_0)
                           (try simp only [Nat.reduceMul, Nat.reduceEqDiff, Go.Addr.add, ↓reduceIte] at hw126_0)
                           obtain rfl : ad120 = ad126 := (by injection e126)
                           (try simp only [show (6 : Int).toNat = 6 from rfl, Nat.reduceMul, Nat.reduceEqDiff, Go.Addr.add, ↓reduceIte] at hx126_0)
                           have qi126 : (6 < l0.length) = True := eq_true (by omega)
                           (try rw [show ((6 : Int)).toNat = 6 from rfl] at hx126_0)
                           replace hx126_0 := bc_ HB.out hx126_0
                           replace p126 := eq_true p126
                           replace q126 := eq_true q126
                           have p127 : 0 ≤ (7 : Int) := (by omega)
                           have q127 : 7 < (l0.length : Int) := of_decide_eq_true βxa
                           obtain ⟨ad127, e127, hx127_0⟩ := Kd.at_int HR0.out 7 p127 q127
                           have hw127_0 := hx127_0
                           (try rw [show ((7 : Int)).toNat = 7 from rfl] at hw127_0)
                           (try rw [show 7 * 1 = 7 from rfl] at hw127_0)
                           (try simp only [Nat.reduceMul, Nat.reduceEqDiff, Go.Addr.add, ↓reduceIte] at hw127_0)
                           obtain rfl : ad120 = ad127 := (by injection e127)
                           (try simp only [show (7 : Int).toNat = 7 from rfl, Nat.reduceMul, Nat.reduceEqDiff, Go.Addr.add, ↓reduceIte] at hx127_0)
                           have qi127 : (7 < l0.length) = True := eq_true (by omega)
                           (try rw [show ((7 : Int)).toNat = 7 from rfl] at hx127_0)
                           replace hx127_0 := bc_ HB.out hx127_0
                           replace p127 := eq_true p127
                           replace q127 := eq_true q127
                           refine start_ (n := 20) (S := fun w' => w'.cell? ⟨ad120.block, ad120.off + 4, none⟩ = some (.int .i64 (rd l0 4)) ∧ w'.cell? ⟨ad120.block, ad120.off + 5, none⟩ = some (.int .i64 (rd l0 5)) ∧ w'.cell? ⟨ad120.block, ad120.off + 6, none⟩ = some (.int .i64 (rd l0 6)) ∧ w'.cell? ⟨ad120.block, ad120.off + 7, none⟩ = some (.int .i64 (rd l0 7))) (ds := []) (mr_ [0, 20]) βDa rfl rfl ⟨(bc_ HB.out hw124_0), (bc_ HB.out hw125_0), (bc_ HB.out hw126_0), (bc_ HB.out hw127_0)⟩ (fun hHeld => ?_); refine with_tabW spec_l02Block.tab13 spec_l02Block.bits13 (fun HT_ HW_ => ?_)
                           generalize w60.drew = w61 at HO_5 HB hx124_0 hx125_0 hx126_0 hx127_0 hHeld ⊢
                           refine pure_ (i := 0) (N := some 124) (v := ?_) (a' := ?_) (mr_ [1, 19]) rfl rfl (any_of HT_.out βDa) (fun _ _ _ h => h) (Or.inl ⟨(by rfl), ?_⟩) ?_ ?_
                           rotate_left; exact pv_; rotate_left; exact pp_
                           refine pure_ (i := 1) (N := some 125) (v := ?_) (a' := ?_) (mr_ [2, 18]) rfl rfl (any_of HT_.out βDa) (fun _ _ _ h => h) (Or.inl ⟨(by rfl), ?_⟩) ?_ ?_
                           rotate_left; exact pv_; rotate_left; exact pp_
                           refine pure_ (i := 4) (N := some 128) (v := ?_) (a' := ?_) (mr_ [2, 2, 1, 15]) rfl rfl (any_of HT_.out βDa) (fun _ _ _ h => h) (Or.inl ⟨(by rfl), ?_⟩) ?_ ?_
                           rotate_left; exact pv_; rotate_left; exact pp_
                           refine pure_ (i := 5) (N := some 129) (v := ?_) (a' := ?_) (mr_ [2, 2, 2, 14]) rfl rfl (any_of HT_.out βDa) (fun _ _ _ h => h) (Or.inl ⟨(by rfl), ?_⟩) ?_ ?_
                           rotate_left; exact pv_; rotate_left; exact pp_
                           refine pure_ (i := 8) (N := some 132) (v := ?_) (a' := ?_) (mr_ [2, 2, 2, 2, 1, 11]) rfl rfl (any_of HT_.out βDa) (fun _ _ _ h => h) (Or.inl ⟨(by rfl), ?_⟩) ?_ ?_
                           rotate_left; exact pv_; rotate_left; exact pp_
                           refine pure_ (i := 9) (N := some 133) (v := ?_) (a' := ?_) (mr_ [2, 2, 2, 2, 2, 10]) rfl rfl (any_of HT_.out βDa) (fun _ _ _ h => h) (Or.inl ⟨(by rfl), ?_⟩) ?_ ?_
                           rotate_left; exact pv_; rotate_left; exact pp_
                           refine pure_ (i := 12) (N := some 136) (v := ?_) (a' := ?_) (mr_ [2, 2, 2, 2, 2, 2, 1, 7]) rfl rfl (any_of HT_.out βDa) (fun _ _ _ h => h) (Or.inl ⟨(by rfl), ?_⟩) ?_ ?_
                           rotate_left; exact pv_; rotate_left; exact pp_
                           refine pure_ (i := 13) (N := some 137) (v := ?_) (a' := ?_) (mr_ [2, 2, 2, 2, 2, 2, 2, 6]) rfl rfl (any_of HT_.out βDa) (fun _ _ _ h => h) (Or.inl ⟨(by rfl), ?_⟩) ?_ ?_
                           rotate_left; exact pv_; rotate_left; exact pp_
                           refine take_ (i := 2) (N := some 126) (v := ?_) (a' := ?_) (mr_ [3, 1, 2, 2, 2, 2, 2, 6]) rfl rfl (take_ofW HT_.out HW_.out βDa) (fun _ _ _ h => h) (Or.inl ⟨(by rfl), ?_⟩) hHeld ?_ ?_
                           rotate_left
                           · rintro w' ⟨s0, s1, s2, s3⟩
                             go_simp
                             with_reducible rfl
                           rotate_left
                           exact pp_
                           refine pure_ (i := 3) (N := some 127) (v := ?_) (a' := ?_) (mr_ [6, 2, 2, 2, 2, 6]) rfl rfl (any_of HT_.out βDa) (fun _ _ _ h => h) (Or.inl ⟨(by rfl), ?_⟩) ?_ ?_
                           rotate_left; exact pv_; rotate_left; exact pp_
                           refine pure_ (i := 16) (N := some 14) (v := ?_) (a' := ?_) (mr_ [6, 2, 2, 2, 2, 2, 1, 3]) rfl rfl (any_of HT_.out βDa) (fun _ _ _ h => h) (Or.inl ⟨(by rfl), ?_⟩) ?_ ?_
                           rotate_left; exact pv_; rotate_left; exact pp_
                           refine take_ (i := 6) (N := some 130) (v := ?_) (a' := ?_) (mr_ [7, 1, 2, 2, 2, 2, 1, 3]) rfl rfl (take_ofW HT_.out HW_.out βDa) (fun _ _ _ h => h) (Or.inl ⟨(by rfl), ?_⟩) hHeld ?_ ?_
                           rotate_left
                           · rintro w' ⟨s0, s1, s2, s3⟩
                             go_simp
                             with_reducible rfl
                           rotate_left
                           exact pp_
                           refine pure_ (i := 7) (N := some 131) (v := ?_) (a' := ?_) (mr_ [10, 2, 2, 2, 1, 3]) rfl rfl (any_of HT_.out βDa) (fun _ _ _ h => h) (Or.inl ⟨(by rfl), ?_⟩) ?_ ?_
                           rotate_left; exact pv_; rotate_left; exact pp_
                           refine pure_ (i := 17) (N := some 15) (v := ?_) (a' := ?_) (mr_ [10, 2, 2, 2, 2, 2]) rfl rfl (any_of HT_.out βDa) (fun _ _ _ h => h) (Or.inl ⟨(by rfl), ?_⟩) ?_ ?_
                           rotate_left; exact pv_; rotate_left; exact pp_
                           refine take_ (i := 10) (N := some 134) (v := ?_) (a' := ?_) (mr_ [11, 1, 2, 2, 2, 2]) rfl rfl (take_ofW HT_.out HW_.out βDa) (fun _ _ _ h => h) (Or.inl ⟨(by rfl), ?_⟩) hHeld ?_ ?_
                           rotate_left
                           · rintro w' ⟨s0, s1, s2, s3⟩
                             go_simp
                             with_reducible rfl
                           rotate_left
                           exact pp_
                           refine pure_ (i := 11) (N := some 135) (v := ?_) (a' := ?_) (mr_ [14, 2, 2, 2]) rfl rfl (any_of HT_.out βDa) (fun _ _ _ h => h) (Or.inl ⟨(by rfl), ?_⟩) ?_ ?_
                           rotate_left; exact pv_; rotate_left; exact pp_
                           refine pure_ (i := 18) (N := some 16) (v := ?_) (a' := ?_) (mr_ [14, 2, 3, 1]) rfl rfl (any_of HT_.out βDa) (fun _ _ _ h => h) (Or.inl ⟨(by rfl), ?_⟩) ?_ ?_
                           rotate_left; exact pv_; rotate_left; exact pp_
                           refine take_ (i := 14) (N := some 138) (v := ?_) (a' := ?_) (mr_ [15, 1, 3, 1]) rfl rfl (take_ofW HT_.out HW_.out βDa) (fun _ _ _ h => h) (Or.inl ⟨(by rfl), ?_⟩) hHeld ?_ ?_
                           rotate_left
                           · rintro w' ⟨s0, s1, s2, s3⟩
                             go_simp
                             with_reducible rfl
                           rotate_left
                           exact pp_
                           refine pure_ (i := 15) (N := some 139) (v := ?_) (a' := ?_) (mr_ [19, 1]) rfl rfl (any_of HT_.out βDa) (fun _ _ _ h => h) (Or.inl ⟨(by rfl), ?_⟩) ?_ ?_
                           rotate_left; exact pv_; rotate_left; exact pp_
                           refine pure_ (i := 19) (N := some 17) (v := ?_) (a' := ?_) (mr_ [20]) rfl rfl (any_of HT_.out βDa) (fun _ _ _ h => h) (Or.inl ⟨(by rfl), ?_⟩) ?_ ?_
                           rotate_left; exact pv_; rotate_left; exact pp_
                           refine done_ (done_of HT_.out βDa) ?_
                           try go_wp2_with (first | ((with_reducible refine gate_callee (f := 76) rfl ?_); refine goesL_ (some 140) rfl rfl Tryd.func76 βDa rfl #[] rfl zs_ ?_; (with_reducible refine (spec_l02Keys.calls  t128 _ A59.out).mono ?_); rintro e w62 ⟨v129, rfl, ho0, hb⟩; refine ⟨_, rfl, ?_⟩; have n0_ := zA_ (Kd.R_elder' (zr_ HO_5.out) (Kd.R_base ho0) hb); have n1_ := zA_ (Kd.R_lower (Kd.R_new' ho0 (Kd.R_lt (zr_ HO_5.out))) (below_size (zh_ HB.out))); have n2_ := zA_ (below_step (zh_ HB.out) hb); clear HO_5 HB; have HO_5 := n0_; have HO130 := n1_; have HB := n2_; clear n0_ n1_ n2_; (try clear hb); (try clear hb2); (try clear hk); (try clear hi); (try clear ho0)))
                           go_loopg [10, 11, 12, 13, 14, 15, 16, 17, 19] k2 (fun kq v10 v11 v12 v13 v14 v15 v16 v17 v19 w' => ∃ (x10_3 : Int) (x11_3 : Int) (x12_3 : Int) (x13_3 : Int) (x14_3 : Int) (x15_3 : Int) (x16_3 : Int) (x17_3 : Int) (x19_3 : Int), v10 = .int .u32 x10_3 ∧ v11 = .int .u32 x11_3 ∧ v12 = .int .u32 x12_3 ∧ v13 = .int .u32 x13_3 ∧ v14 = .int .u32 x14_3 ∧ v15 = .int .u32 x15_3 ∧ v16 = .int .u32 x16_3 ∧ v17 = .int .u32 x17_3 ∧ v19 = .int .i64 x19_3 ∧ Aside0 (spec_l02Block.l2 kq l0 x5_2 x10_3 x11_3 x12_3 x13_3 x14_3 x15_3 x16_3 x17_3 t128 x19_3 = some r) ∧ Aside0 (kq ≤ k2) ∧ Aside0 (Kd.R (Kd.int .u32) 71 w' w.heap.size (fun k_ => some k_ ≠ (v129 : Value).ownBlock) v108 x5_2) ∧ Aside0 (Kd.R (Kd.int .u32) 71 w' w.heap.size (fun k_ => some k_ ≠ (v108 : Value).ownBlock) v129 t128) ∧ Aside0 (Below w.heap.size w w'))
                           case atStart => exact ⟨((rd l0 0) % 4294967296), ((rd l0 1) % 4294967296), ((rd l0 2) % 4294967296), ((rd l0 3) % 4294967296), ((rd l0 4) % 4294967296), ((rd l0 5) % 4294967296), ((rd l0 6) % 4294967296), ((rd l0 7) % 4294967296), (0), βya, βya, βya, βya, βya, βya, βya, βya, βya, H', ⟨Nat.le_refl _⟩, ⟨(by (with_reducible repeat (first | apply Kd.R_alloc | apply Kd.R_drewN | apply Kd.R_drew)); exact Kd.R_mono HO_5.out (fun _ hk => hk.2))⟩, ⟨(by (with_reducible repeat (first | apply Kd.R_alloc | apply Kd.R_drewN | apply Kd.R_drew)); exact Kd.R_mono HO130.out (fun _ hk => hk.2))⟩, ⟨zh_ HB.out⟩⟩
                           case round =>
                            clear H'
                            try clear p1
                            try clear q1
                            try clear hx1
                            try clear qi1
                            try clear c2
                            try clear p2
                            try clear c3
                            try clear c4
                            try clear p4
                            try clear q4
                            try clear hx4
                            try clear hf4
                            try clear c5
                            try clear p6
                            try clear c7
                            try clear hx11
                            try clear p12
                            try clear q12
                            try clear hx12
                            try clear qi12
                            try clear c28
                            try clear c28b0
                            try clear c30
                            try clear c31
                            try clear c33
                            try clear c34
                            try clear c36
                            try clear c37
                            try clear c41
                            try clear c42
                            try clear c45
                            try clear c46
                            try clear p47
                            try clear q47
                            try clear hx47
                            try clear hf47
                            try clear c51
                            try clear c51b0
                            try clear c51b1
                            try clear c52
                            try clear c52b0
                            try clear c52b1
                            try clear c53
                            try clear c53b0
                            try clear c53b1
                            try clear c54
                            try clear c54b0
                            try clear c54b1
                            try clear c55
                            try clear c55b0
                            try clear c55b1
                            try clear c56
                            try clear c56b0
                            try clear c56b1
                            try clear c57
                            try clear c57b0
                            try clear c57b1
                            try clear c58
                            try clear c58b0
                            try clear c58b1
                            try clear hx111_0
                            try clear hx112_0
                            try clear hx113_0
                            try clear hx116_0
                            try clear hx120_0
                            try clear hx121_0
                            try clear hx122_0
                            try clear hx123_0
                            try clear hx124_0
                            try clear hx125_0
                            try clear hx126_0
                            try clear hx127_0
                            try clear hx47_0
                            try clear p120
                            try clear p121
                            try clear p122
                            try clear p123
                            try clear p124
                            try clear p125
                            try clear p126
                            try clear p127
                            try clear p47
                            try clear q120
                            try clear q121
                            try clear q122
                            try clear q123
                            try clear q124
                            try clear q125
                            try clear q126
                            try clear q127
                            try clear q47
                            obtain ⟨x10_3, x11_3, x12_3, x13_3, x14_3, x15_3, x16_3, x17_3, x19_3, rfl, rfl, rfl, rfl, rfl, rfl, rfl, rfl, rfl, HA, HK3, HO_5, HO_18, HB⟩ := hrel
                            cases gk with
                            | zero => exact absurd HA.out (by simp [spec_l02Block.l2])
                            | succ k3 =>
                             have H := HA.out
                             clear HA
                             simp only [spec_l02Block.l2] at H
                             by_cases c63 : x19_3 < 64
                             · rw [if_pos c63] at H
                               have c63b0 : decide (x19_3 < 64) = true := decide_eq_true c63
                               clear c63
                               replace H := Option.bind_eq_some_iff.mp H
                               obtain ⟨t131, A640, H⟩ := H
                               replace H : ((spec_l02Turn.f x14_3 11).bind fun t132 => ((spec_l02Turn.f x14_3 25).bind fun t133 => (if 0 ≤ x19_3 then (if x19_3 < (t128.length : Int) then (if x19_3 < (x5_2.length : Int) then ((spec_l02Turn.f x10_3 2).bind fun t136 => ((spec_l02Turn.f x10_3 13).bind fun t137 => ((spec_l02Turn.f x10_3 22).bind fun t138 => (spec_l02Block.l2 k3 l0 x5_2 ((((((x17_3 + (Go.bits .xor .u32 (Go.bits .xor .u32 t131 t132) t133)) + (Go.bits .xor .u32 (Go.bits .and .u32 x14_3 x15_3) (Go.bits .and .u32 (Go.bits .xor .u32 4294967295 x14_3) x16_3))) + (rd t128 x19_3)) + (rd x5_2 x19_3)) + ((Go.bits .xor .u32 (Go.bits .xor .u32 t136 t137) t138) + (Go.bits .xor .u32 (Go.bits .xor .u32 (Go.bits .and .u32 x10_3 x11_3) (Go.bits .and .u32 x10_3 x12_3)) (Go.bits .and .u32 x11_3 x12_3)))) % 4294967296) x10_3 x11_3 x12_3 ((x13_3 + ((((x17_3 + (Go.bits .xor .u32 (Go.bits .xor .u32 t131 t132) t133)) + (Go.bits .xor .u32 (Go.bits .and .u32 x14_3 x15_3) (Go.bits .and .u32 (Go.bits .xor .u32 4294967295 x14_3) x16_3))) + (rd t128 x19_3)) + (rd x5_2 x19_3))) % 4294967296) x14_3 x15_3 x16_3 t128 (wrap64 (x19_3 + 1)))))) else (none)) else (none)) else (none)))) = some r := H
                               have A64 := zA_ A640
                               clear A640
                               replace H := Option.bind_eq_some_iff.mp H
                               obtain ⟨t132, A650, H⟩ := H
                               replace H : ((spec_l02Turn.f x14_3 25).bind fun t133 => (if 0 ≤ x19_3 then (if x19_3 < (t128.length : Int) then (if x19_3 < (x5_2.length : Int) then ((spec_l02Turn.f x10_3 2).bind fun t136 => ((spec_l02Turn.f x10_3 13).bind fun t137 => ((spec_l02Turn.f x10_3 22).bind fun t138 => (spec_l02Block.l2 k3 l0 x5_2 ((((((x17_3 + (Go.bits .xor .u32 (Go.bits .xor .u32 t131 t132) t133)) + (Go.bits .xor .u32 (Go.bits .and .u32 x14_3 x15_3) (Go.bits .and .u32 (Go.bits .xor .u32 4294967295 x14_3) x16_3))) + (rd t128 x19_3)) + (rd x5_2 x19_3)) + ((Go.bits .xor .u32 (Go.bits .xor .u32 t136 t137) t138) + (Go.bits .xor .u32 (Go.bits .xor .u32 (Go.bits .and .u32 x10_3 x11_3) (Go.bits .and .u32 x10_3 x12_3)) (Go.bits .and .u32 x11_3 x12_3)))) % 4294967296) x10_3 x11_3 x12_3 ((x13_3 + ((((x17_3 + (Go.bits .xor .u32 (Go.bits .xor .u32 t131 t132) t133)) + (Go.bits .xor .u32 (Go.bits .and .u32 x14_3 x15_3) (Go.bits .and .u32 (Go.bits .xor .u32 4294967295 x14_3) x16_3))) + (rd t128 x19_3)) + (rd x5_2 x19_3))) % 4294967296) x14_3 x15_3 x16_3 t128 (wrap64 (x19_3 + 1)))))) else (none)) else (none)) else (none))) = some r := H
                               have A65 := zA_ A650
                               clear A650
                               replace H := Option.bind_eq_some_iff.mp H
                               obtain ⟨t133, A660, H⟩ := H
                               replace H : (if 0 ≤ x19_3 then (if x19_3 < (t128.length : Int) then (if x19_3 < (x5_2.length : Int) then ((spec_l02Turn.f x10_3 2).bind fun t136 => ((spec_l02Turn.f x10_3 13).bind fun t137 => ((spec_l02Turn.f x10_3 22).bind fun t138 => (spec_l02Block.l2 k3 l0 x5_2 ((((((x17_3 + (Go.bits .xor .u32 (Go.bits .xor .u32 t131 t132) t133)) + (Go.bits .xor .u32 (Go.bits .and .u32 x14_3 x15_3) (Go.bits .and .u32 (Go.bits .xor .u32 4294967295 x14_3) x16_3))) + (rd t128 x19_3)) + (rd x5_2 x19_3)) + ((Go.bits .xor .u32 (Go.bits .xor .u32 t136 t137) t138) + (Go.bits .xor .u32 (Go.bits .xor .u32 (Go.bits .and .u32 x10_3 x11_3) (Go.bits .and .u32 x10_3 x12_3)) (Go.bits .and .u32 x11_3 x12_3)))) % 4294967296) x10_3 x11_3 x12_3 ((x13_3 + ((((x17_3 + (Go.bits .xor .u32 (Go.bits .xor .u32 t131 t132) t133)) + (Go.bits .xor .u32 (Go.bits .and .u32 x14_3 x15_3) (Go.bits .and .u32 (Go.bits .xor .u32 4294967295 x14_3) x16_3))) + (rd t128 x19_3)) + (rd x5_2 x19_3))) % 4294967296) x14_3 x15_3 x16_3 t128 (wrap64 (x19_3 + 1)))))) else (none)) else (none)) else (none)) = some r := H
                               have A66 := zA_ A660
                               clear A660
                               by_cases c67 : 0 ≤ x19_3
                               · rw [if_pos c67] at H
                                 have c67b0 : decide (0 ≤ x19_3) = true := decide_eq_true c67
                                 clear c67
                                 by_cases c68 : x19_3 < (t128.length : Int)
                                 · rw [if_pos c68] at H
                                   have c68b0 : decide (x19_3 < (t128.length : Int)) = true := decide_eq_true c68
                                   clear c68
                                   by_cases c69 : x19_3 < (x5_2.length : Int)
                                   · rw [if_pos c69] at H
                                     have c69b0 : decide (x19_3 < (x5_2.length : Int)) = true := decide_eq_true c69
                                     clear c69
                                     replace H := Option.bind_eq_some_iff.mp H
                                     obtain ⟨t136, A700, H⟩ := H
                                     replace H : ((spec_l02Turn.f x10_3 13).bind fun t137 => ((spec_l02Turn.f x10_3 22).bind fun t138 => (spec_l02Block.l2 k3 l0 x5_2 ((((((x17_3 + (Go.bits .xor .u32 (Go.bits .xor .u32 t131 t132) t133)) + (Go.bits .xor .u32 (Go.bits .and .u32 x14_3 x15_3) (Go.bits .and .u32 (Go.bits .xor .u32 4294967295 x14_3) x16_3))) + (rd t128 x19_3)) + (rd x5_2 x19_3)) + ((Go.bits .xor .u32 (Go.bits .xor .u32 t136 t137) t138) + (Go.bits .xor .u32 (Go.bits .xor .u32 (Go.bits .and .u32 x10_3 x11_3) (Go.bits .and .u32 x10_3 x12_3)) (Go.bits .and .u32 x11_3 x12_3)))) % 4294967296) x10_3 x11_3 x12_3 ((x13_3 + ((((x17_3 + (Go.bits .xor .u32 (Go.bits .xor .u32 t131 t132) t133)) + (Go.bits .xor .u32 (Go.bits .and .u32 x14_3 x15_3) (Go.bits .and .u32 (Go.bits .xor .u32 4294967295 x14_3) x16_3))) + (rd t128 x19_3)) + (rd x5_2 x19_3))) % 4294967296) x14_3 x15_3 x16_3 t128 (wrap64 (x19_3 + 1))))) = some r := H
                                     have A70 := zA_ A700
                                     clear A700
                                     replace H := Option.bind_eq_some_iff.mp H
                                     obtain ⟨t137, A710, H⟩ := H
                                     replace H : ((spec_l02Turn.f x10_3 22).bind fun t138 => (spec_l02Block.l2 k3 l0 x5_2 ((((((x17_3 + (Go.bits .xor .u32 (Go.bits .xor .u32 t131 t132) t133)) + (Go.bits .xor .u32 (Go.bits .and .u32 x14_3 x15_3) (Go.bits .and .u32 (Go.bits .xor .u32 4294967295 x14_3) x16_3))) + (rd t128 x19_3)) + (rd x5_2 x19_3)) + ((Go.bits .xor .u32 (Go.bits .xor .u32 t136 t137) t138) + (Go.bits .xor .u32 (Go.bits .xor .u32 (Go.bits .and .u32 x10_3 x11_3) (Go.bits .and .u32 x10_3 x12_3)) (Go.bits .and .u32 x11_3 x12_3)))) % 4294967296) x10_3 x11_3 x12_3 ((x13_3 + ((((x17_3 + (Go.bits .xor .u32 (Go.bits .xor .u32 t131 t132) t133)) + (Go.bits .xor .u32 (Go.bits .and .u32 x14_3 x15_3) (Go.bits .and .u32 (Go.bits .xor .u32 4294967295 x14_3) x16_3))) + (rd t128 x19_3)) + (rd x5_2 x19_3))) % 4294967296) x14_3 x15_3 x16_3 t128 (wrap64 (x19_3 + 1)))) = some r := H
                                     have A71 := zA_ A710
                                     clear A710
                                     replace H := Option.bind_eq_some_iff.mp H
                                     obtain ⟨t138, A720, H⟩ := H
                                     replace H : (spec_l02Block.l2 k3 l0 x5_2 ((((((x17_3 + (Go.bits .xor .u32 (Go.bits .xor .u32 t131 t132) t133)) + (Go.bits .xor .u32 (Go.bits .and .u32 x14_3 x15_3) (Go.bits .and .u32 (Go.bits .xor .u32 4294967295 x14_3) x16_3))) + (rd t128 x19_3)) + (rd x5_2 x19_3)) + ((Go.bits .xor .u32 (Go.bits .xor .u32 t136 t137) t138) + (Go.bits .xor .u32 (Go.bits .xor .u32 (Go.bits .and .u32 x10_3 x11_3) (Go.bits .and .u32 x10_3 x12_3)) (Go.bits .and .u32 x11_3 x12_3)))) % 4294967296) x10_3 x11_3 x12_3 ((x13_3 + ((((x17_3 + (Go.bits .xor .u32 (Go.bits .xor .u32 t131 t132) t133)) + (Go.bits .xor .u32 (Go.bits .and .u32 x14_3 x15_3) (Go.bits .and .u32 (Go.bits .xor .u32 4294967295 x14_3) x16_3))) + (rd t128 x19_3)) + (rd x5_2 x19_3))) % 4294967296) x14_3 x15_3 x16_3 t128 (wrap64 (x19_3 + 1))) = some r := H
                                     have A72 := zA_ A720
                                     clear A720
                                     have H' := zA_ H
                                     clear H
                                     try go_wp2
                                     have n0_ := zA_ (Kd.R_drew HO_5.out)
                                     have n1_ := zA_ (Kd.R_drew HO_18.out)
                                     have n2_ := zA_ (below_drew1 HB.out)
                                     clear HO_5 HO_18 HB
                                     have HO_5 := n0_
                                     have HO_18 := n1_
                                     have HB := n2_
                                     clear n0_ n1_ n2_
                                     obtain ⟨Ao74, co74, eo74⟩ := Kd.R_slice HO_18.out
                                     (first | subst eo74 | (injection eo74 with f1_ f2_ f3_; have f4_ := f1_.symm; have f5_ := f3_.symm; clear f1_ f2_ f3_; subst f4_; subst f5_))
                                     have p134 : 0 ≤ (x19_3 : Int) := of_decide_eq_true βxa
                                     have q134 : x19_3 < (t128.length : Int) := of_decide_eq_true βxa
                                     obtain ⟨ad134, e134, hx134_0⟩ := Kd.at_int (Kd.R_reads' HO_18.out).2.2 x19_3 p134 q134
                                     cases e134
                                     replace p134 := eq_true p134
                                     replace q134 := eq_true q134
                                     obtain ⟨Ao75, co75, eo75⟩ := Kd.R_slice HO_5.out
                                     (first | subst eo75 | (injection eo75 with f1_ f2_ f3_; have f4_ := f1_.symm; have f5_ := f3_.symm; clear f1_ f2_ f3_; subst f4_; subst f5_))
                                     have p135 : 0 ≤ (x19_3 : Int) := of_decide_eq_true βxa
                                     have q135 : x19_3 < (x5_2.length : Int) := of_decide_eq_true βxa
                                     obtain ⟨ad135, e135, hx135_0⟩ := Kd.at_int (Kd.R_reads' HO_5.out).2.2 x19_3 p135 q135
                                     cases e135
                                     replace p135 := eq_true p135
                                     replace q135 := eq_true q135
                                     refine start_ (n := 30) (S := fun w' => w'.cell? (ad134.add (x19_3).toNat) = some (.int .u32 (rd t128 x19_3)) ∧ w'.cell? (ad135.add (x19_3).toNat) = some (.int .u32 (rd x5_2 x19_3))) (ds := []) (mr_ [0, 30]) βDa rfl rfl ⟨hx134_0, hx135_0⟩ (fun hHeld => ?_); refine with_tabW spec_l02Block.tab18 spec_l02Block.bits18 (fun HT_ HW_ => ?_)
                                     generalize wr.drew = w73 at HO_5 HO_18 HB hx134_0 hx135_0 hHeld ⊢
                                     refine pure_ (i := 0) (N := some 145) (v := ?_) (a' := ?_) (mr_ [1, 29]) rfl rfl (any_of HT_.out βDa) (fun _ _ _ h => h) (Or.inl ⟨(by rfl), ?_⟩) ?_ ?_
                                     rotate_left; exact pv_; rotate_left; exact pp_
                                     refine pure_ (i := 1) (N := some 146) (v := ?_) (a' := ?_) (mr_ [2, 28]) rfl rfl (any_of HT_.out βDa) (fun _ _ _ h => h) (Or.inl ⟨(by rfl), ?_⟩) ?_ ?_
                                     rotate_left; exact pv_; rotate_left; exact pp_
                                     refine pure_ (i := 3) (N := some 148) (v := ?_) (a' := ?_) (mr_ [2, 1, 1, 26]) rfl rfl (any_of HT_.out βDa) (fun _ _ _ h => h) (Or.inl ⟨(by rfl), ?_⟩) ?_ ?_
                                     rotate_left; exact pv_; rotate_left; exact pp_
                                     refine pure_ (i := 6) (N := some 151) (v := ?_) (a' := ?_) (mr_ [2, 1, 1, 2, 1, 23]) rfl rfl (any_of HT_.out βDa) (fun _ _ _ h => h) (Or.inl ⟨(by rfl), ?_⟩) ?_ ?_
                                     rotate_left; exact pv_; rotate_left; exact pp_
                                     refine pure_ (i := 10) (N := some 155) (v := ?_) (a' := ?_) (mr_ [2, 1, 1, 2, 1, 3, 1, 19]) rfl rfl (any_of HT_.out βDa) (fun _ _ _ h => h) (Or.inl ⟨(by rfl), ?_⟩) ?_ ?_
                                     rotate_left; exact pv_; rotate_left; exact pp_
                                     refine pure_ (i := 11) (N := some 156) (v := ?_) (a' := ?_) (mr_ [2, 1, 1, 2, 1, 3, 2, 18]) rfl rfl (any_of HT_.out βDa) (fun _ _ _ h => h) (Or.inl ⟨(by rfl), ?_⟩) ?_ ?_
                                     rotate_left; exact pv_; rotate_left; exact pp_
                                     refine pure_ (i := 12) (N := some 157) (v := ?_) (a' := ?_) (mr_ [2, 1, 1, 2, 1, 3, 3, 17]) rfl rfl (any_of HT_.out βDa) (fun _ _ _ h => h) (Or.inl ⟨(by rfl), ?_⟩) ?_ ?_
                                     rotate_left; exact pv_; rotate_left; exact pp_
                                     refine pure_ (i := 13) (N := some 158) (v := ?_) (a' := ?_) (mr_ [2, 1, 1, 2, 1, 3, 4, 16]) rfl rfl (any_of HT_.out βDa) (fun _ _ _ h => h) (Or.inl ⟨(by rfl), ?_⟩) ?_ ?_
                                     rotate_left; exact pv_; rotate_left; exact pp_
                                     refine pure_ (i := 14) (N := some 159) (v := ?_) (a' := ?_) (mr_ [2, 1, 1, 2, 1, 3, 5, 15]) rfl rfl (any_of HT_.out βDa) (fun _ _ _ h => h) (Or.inl ⟨(by rfl), ?_⟩) ?_ ?_
                                     rotate_left; exact pv_; rotate_left; exact pp_
                                     refine pure_ (i := 15) (N := some 160) (v := ?_) (a' := ?_) (mr_ [2, 1, 1, 2, 1, 3, 6, 14]) rfl rfl (any_of HT_.out βDa) (fun _ _ _ h => h) (Or.inl ⟨(by rfl), ?_⟩) ?_ ?_
                                     rotate_left; exact pv_; rotate_left; exact pp_
                                     refine pure_ (i := 16) (N := some 161) (v := ?_) (a' := ?_) (mr_ [2, 1, 1, 2, 1, 3, 7, 13]) rfl rfl (any_of HT_.out βDa) (fun _ _ _ h => h) (Or.inl ⟨(by rfl), ?_⟩) ?_ ?_
                                     rotate_left; exact pv_; rotate_left; exact pp_
                                     refine pure_ (i := 17) (N := some 162) (v := ?_) (a' := ?_) (mr_ [2, 1, 1, 2, 1, 3, 8, 12]) rfl rfl (any_of HT_.out βDa) (fun _ _ _ h => h) (Or.inl ⟨(by rfl), ?_⟩) ?_ ?_
                                     rotate_left; exact pv_; rotate_left; exact pp_
                                     refine pure_ (i := 19) (N := some 164) (v := ?_) (a' := ?_) (mr_ [2, 1, 1, 2, 1, 3, 8, 1, 1, 10]) rfl rfl (any_of HT_.out βDa) (fun _ _ _ h => h) (Or.inl ⟨(by rfl), ?_⟩) ?_ ?_
                                     rotate_left; exact pv_; rotate_left; exact pp_
                                     refine pure_ (i := 20) (N := some 165) (v := ?_) (a' := ?_) (mr_ [2, 1, 1, 2, 1, 3, 8, 1, 2, 9]) rfl rfl (any_of HT_.out βDa) (fun _ _ _ h => h) (Or.inl ⟨(by rfl), ?_⟩) ?_ ?_
                                     rotate_left; exact pv_; rotate_left; exact pp_
                                     refine pure_ (i := 21) (N := some 166) (v := ?_) (a' := ?_) (mr_ [2, 1, 1, 2, 1, 3, 8, 1, 3, 8]) rfl rfl (any_of HT_.out βDa) (fun _ _ _ h => h) (Or.inl ⟨(by rfl), ?_⟩) ?_ ?_
                                     rotate_left; exact pv_; rotate_left; exact pp_
                                     refine pure_ (i := 24) (N := some 169) (v := ?_) (a' := ?_) (mr_ [2, 1, 1, 2, 1, 3, 8, 1, 3, 2, 1, 5]) rfl rfl (any_of HT_.out βDa) (fun _ _ _ h => h) (Or.inl ⟨(by rfl), ?_⟩) ?_ ?_
                                     rotate_left; exact pv_; rotate_left; exact pp_
                                     refine pure_ (i := 25) (N := some 170) (v := ?_) (a' := ?_) (mr_ [2, 1, 1, 2, 1, 3, 8, 1, 3, 2, 2, 4]) rfl rfl (any_of HT_.out βDa) (fun _ _ _ h => h) (Or.inl ⟨(by rfl), ?_⟩) ?_ ?_
                                     rotate_left; exact pv_; rotate_left; exact pp_
                                     refine pure_ (i := 26) (N := some 171) (v := ?_) (a' := ?_) (mr_ [2, 1, 1, 2, 1, 3, 8, 1, 3, 2, 3, 3]) rfl rfl (any_of HT_.out βDa) (fun _ _ _ h => h) (Or.inl ⟨(by rfl), ?_⟩) ?_ ?_
                                     rotate_left; exact pv_; rotate_left; exact pp_
                                     refine take_ (i := 22) (N := some 167) (v := ?_) (a' := ?_) (mr_ [2, 1, 1, 2, 1, 3, 8, 1, 4, 1, 3, 3]) rfl rfl (take_ofW HT_.out HW_.out βDa) (fun _ _ _ h => h) (Or.inl ⟨(by rfl), ?_⟩) hHeld ?_ ?_
                                     rotate_left
                                     · rintro w' ⟨s0, s1⟩
                                       go_simp
                                       with_reducible rfl
                                     rotate_left
                                     exact pp_
                                     refine take_ (i := 27) (N := some 172) (v := ?_) (a' := ?_) (mr_ [2, 1, 1, 2, 1, 3, 8, 1, 4, 1, 4, 2]) rfl rfl (take_ofW HT_.out HW_.out βDa) (fun _ _ _ h => h) (Or.inl ⟨(by rfl), ?_⟩) hHeld ?_ ?_
                                     rotate_left
                                     · rintro w' ⟨s0, s1⟩
                                       go_simp
                                       with_reducible rfl
                                     rotate_left
                                     exact pp_
                                     refine one_ (i := 2) (N := some 147) (mr_ [4, 2, 1, 3, 8, 1, 4, 1, 4, 2]) rfl rfl (one_of HT_.out βDa) (by decide) (fun K hK => ?_)
                                     refine goes_ Tryd.func75 βDa rfl #[.int .u32 x14_3, .int .u64 6] (by rfl) rfl rfl zs_ ?_
                                     with_reducible refine (spec_l02Turn.calls x14_3 6 t131 _ A64.out).mono ?_
                                     rintro e w' ⟨rfl, ⟨nd, rfl⟩⟩
                                     refine ⟨_, rfl, ?_⟩
                                     refine hK.out _ _ ⟨hHeld.1, hHeld.2⟩ (fun hHeld => ?_)
                                     clear hK K
                                     refine norm_ (a' := ?_) ?_ ?_
                                     rotate_left
                                     · show Act.put _ (some 147) _ = _
                                       simp only [Act.put, List.setIfInBounds_toArray, List.set_cons_zero, List.set_cons_succ, i64_w, i32_w]
                                       rfl
                                     refine one_ (i := 4) (N := some 149) (mr_ [5, 1, 1, 3, 8, 1, 4, 1, 4, 2]) rfl rfl (one_of HT_.out βDa) (by decide) (fun K hK => ?_)
                                     refine goes_ Tryd.func75 βDa rfl #[.int .u32 x14_3, .int .u64 11] (by rfl) rfl rfl zs_ ?_
                                     with_reducible refine (spec_l02Turn.calls x14_3 11 t132 _ A65.out).mono ?_
                                     rintro e w' ⟨rfl, ⟨nd, rfl⟩⟩
                                     refine ⟨_, rfl, ?_⟩
                                     refine hK.out _ _ ⟨hHeld.1, hHeld.2⟩ (fun hHeld => ?_)
                                     clear hK K
                                     refine norm_ (a' := ?_) ?_ ?_
                                     rotate_left
                                     · show Act.put _ (some 149) _ = _
                                       simp only [Act.put, List.setIfInBounds_toArray, List.set_cons_zero, List.set_cons_succ, i64_w, i32_w]
                                       rfl
                                     refine pure_ (i := 5) (N := some 150) (v := ?_) (a' := ?_) (mr_ [7, 3, 8, 1, 4, 1, 4, 2]) rfl rfl (any_of HT_.out βDa) (fun _ _ _ h => h) (Or.inl ⟨(by rfl), ?_⟩) ?_ ?_
                                     rotate_left; exact pv_; rotate_left; exact pp_
                                     refine one_ (i := 7) (N := some 152) (mr_ [8, 2, 8, 1, 4, 1, 4, 2]) rfl rfl (one_of HT_.out βDa) (by decide) (fun K hK => ?_)
                                     refine goes_ Tryd.func75 βDa rfl #[.int .u32 x14_3, .int .u64 25] (by rfl) rfl rfl zs_ ?_
                                     with_reducible refine (spec_l02Turn.calls x14_3 25 t133 _ A66.out).mono ?_
                                     rintro e w' ⟨rfl, ⟨nd, rfl⟩⟩
                                     refine ⟨_, rfl, ?_⟩
                                     refine hK.out _ _ ⟨hHeld.1, hHeld.2⟩ (fun hHeld => ?_)
                                     clear hK K
                                     refine norm_ (a' := ?_) ?_ ?_
                                     rotate_left
                                     · show Act.put _ (some 152) _ = _
                                       simp only [Act.put, List.setIfInBounds_toArray, List.set_cons_zero, List.set_cons_succ, i64_w, i32_w]
                                       rfl
                                     refine pure_ (i := 8) (N := some 153) (v := ?_) (a' := ?_) (mr_ [9, 1, 8, 1, 4, 1, 4, 2]) rfl rfl (any_of HT_.out βDa) (fun _ _ _ h => h) (Or.inl ⟨(by rfl), ?_⟩) ?_ ?_
                                     rotate_left; exact pv_; rotate_left; exact pp_
                                     refine pure_ (i := 9) (N := some 154) (v := ?_) (a' := ?_) (mr_ [18, 1, 4, 1, 4, 2]) rfl rfl (any_of HT_.out βDa) (fun _ _ _ h => h) (Or.inl ⟨(by rfl), ?_⟩) ?_ ?_
                                     rotate_left; exact pv_; rotate_left; exact pp_
                                     refine pure_ (i := 18) (N := some 163) (v := ?_) (a' := ?_) (mr_ [23, 1, 4, 2]) rfl rfl (any_of HT_.out βDa) (fun _ _ _ h => h) (Or.inl ⟨(by rfl), ?_⟩) ?_ ?_
                                     rotate_left; exact pv_; rotate_left; exact pp_
                                     refine pure_ (i := 23) (N := some 168) (v := ?_) (a' := ?_) (mr_ [28, 2]) rfl rfl (any_of HT_.out βDa) (fun _ _ _ h => h) (Or.inl ⟨(by rfl), ?_⟩) ?_ ?_
                                     rotate_left; exact pv_; rotate_left; exact pp_
                                     refine pure_ (i := 28) (N := some 173) (v := ?_) (a' := ?_) (mr_ [29, 1]) rfl rfl (any_of HT_.out βDa) (fun _ _ _ h => h) (Or.inl ⟨(by rfl), ?_⟩) ?_ ?_
                                     rotate_left; exact pv_; rotate_left; exact pp_
                                     refine pure_ (i := 29) (N := some 20) (v := ?_) (a' := ?_) (mr_ [30]) rfl rfl (any_of HT_.out βDa) (fun _ _ _ h => h) (Or.inl ⟨(by rfl), ?_⟩) ?_ ?_
                                     rotate_left; exact pv_; rotate_left; exact pp_
                                     refine done_ (done_of HT_.out βDa) ?_
                                     try go_wp2_with (first | ((with_reducible refine gate_callee (f := 75) rfl ?_); refine goesL_ (some 175) rfl rfl Tryd.func75 βDa rfl #[.int .u32 x10_3, .int .u64 2] rfl zs_ ?_; (with_reducible refine (spec_l02Turn.calls x10_3 2 t136 _ A70.out).mono ?_); rintro e w' ⟨rfl, ⟨nd, rfl⟩⟩; refine ⟨_, rfl, ?_⟩) | ((with_reducible refine gate_callee (f := 75) rfl ?_); refine goesL_ (some 177) rfl rfl Tryd.func75 βDa rfl #[.int .u32 x10_3, .int .u64 13] rfl zs_ ?_; (with_reducible refine (spec_l02Turn.calls x10_3 13 t137 _ A71.out).mono ?_); rintro e w' ⟨rfl, ⟨nd, rfl⟩⟩; refine ⟨_, rfl, ?_⟩) | ((with_reducible refine gate_callee (f := 75) rfl ?_); refine goesL_ (some 180) rfl rfl Tryd.func75 βDa rfl #[.int .u32 x10_3, .int .u64 22] rfl zs_ ?_; (with_reducible refine (spec_l02Turn.calls x10_3 22 t138 _ A72.out).mono ?_); rintro e w' ⟨rfl, ⟨nd, rfl⟩⟩; refine ⟨_, rfl, ?_⟩))
                                     go_roundg k3
                                     case measure => have := HK1.out; have := HK2.out; have := HK3.out; omega
                                     case rel => exact ⟨((((((x17_3 + (Go.bits .xor .u32 (Go.bits .xor .u32 t131 t132) t133)) + (Go.bits .xor .u32 (Go.bits .and .u32 x14_3 x15_3) (Go.bits .and .u32 (Go.bits .xor .u32 4294967295 x14_3) x16_3))) + (rd t128 x19_3)) + (rd x5_2 x19_3)) + ((Go.bits .xor .u32 (Go.bits .xor .u32 t136 t137) t138) + (Go.bits .xor .u32 (Go.bits .xor .u32 (Go.bits .and .u32 x10_3 x11_3) (Go.bits .and .u32 x10_3 x12_3)) (Go.bits .and .u32 x11_3 x12_3)))) % 4294967296), (x10_3), (x11_3), (x12_3), ((x13_3 + ((((x17_3 + (Go.bits .xor .u32 (Go.bits .xor .u32 t131 t132) t133)) + (Go.bits .xor .u32 (Go.bits .and .u32 x14_3 x15_3) (Go.bits .and .u32 (Go.bits .xor .u32 4294967295 x14_3) x16_3))) + (rd t128 x19_3)) + (rd x5_2 x19_3))) % 4294967296), (x14_3), (x15_3), (x16_3), (wrap64 (x19_3 + 1)), βya, βya, βya, βya, βya, βya, βya, βya, βya, H', ⟨(by have := HK1.out; have := HK2.out; have := HK3.out; omega)⟩, ⟨zr_ HO_5.out⟩, ⟨zr_ HO_18.out⟩, ⟨zh_ HB.out⟩⟩
                                   · rw [if_neg c69] at H
                                     exact absurd H (by simp)
                                 · rw [if_neg c68] at H
                                   exact absurd H (by simp)
                               · rw [if_neg c67] at H
                                 exact absurd H (by simp)
                             · rw [if_neg c63] at H
                               have c63b0 : decide (x19_3 < 64) = false := decide_eq_false c63
                               clear c63
                               obtain ⟨y139, hy139⟩ : ∃ y_ : List Int, y_ = (([x10_3, x11_3, x12_3, x13_3, x14_3, x15_3, x16_3, x17_3] : List Int)) := ⟨_, rfl⟩
                               replace H : (spec_l02Block.l3 k3 l0 y139 (([] : List Int)) 0) = some r := by first | (rw [hy139]; with_reducible exact H) | (have H2_ := (Option.bind_some _ _).symm.trans H; rw [hy139]; with_reducible exact H2_) | (have H2_ := (Option.bind_some _ _).symm.trans H; with_reducible exact H2_) | with_reducible exact H | (rw [hy139]; exact H) | exact H
                               have Ny139 := zA_ hy139
                               clear hy139
                               obtain ⟨y142, hy142⟩ : ∃ y_ : List Int, y_ = (([] : List Int)) := ⟨_, rfl⟩
                               replace H : (spec_l02Block.l3 k3 l0 y139 y142 0) = some r := by first | (rw [hy142]; with_reducible exact H) | (have H2_ := (Option.bind_some _ _).symm.trans H; rw [hy142]; with_reducible exact H2_) | (have H2_ := (Option.bind_some _ _).symm.trans H; with_reducible exact H2_) | with_reducible exact H | (rw [hy142]; exact H) | exact H
                               have Ny142 := zA_ hy142
                               clear hy142
                               have H' := zA_ H
                               clear H
                               go_wp2_with (first | ((with_reducible refine gate_dst (N := 214) rfl ?_); refine Kd.R_lit (Kd.int .u32) _ 71 ?hg (N := 214) ?hd (xs := ([x10_3, x11_3, x12_3, x13_3, x14_3, x15_3, x16_3, x17_3] : List Int)) (inner := [.int .u32 x10_3, .int .u32 x11_3, .int .u32 x12_3, .int .u32 x13_3, .int .u32 x14_3, .int .u32 x15_3, .int .u32 x16_3, .int .u32 x17_3]) (ok := fun _ => True) (okp := fun _ => True) ?hr ?hp (fun _ hk => hk) trivial (Below.refl _ _) (Nat.le_refl _) (by simp) ?_; (case hd => exact (by rfl)); (case hg => exact (by rfl)); (case hr => exact βAa); (case hp => exact (Reps.one (show Kd.M (Kd.int .u32) _ _ _ x10_3 [.int .u32 x10_3] from rfl) (Reps.one (show Kd.M (Kd.int .u32) _ _ _ x11_3 [.int .u32 x11_3] from rfl) (Reps.one (show Kd.M (Kd.int .u32) _ _ _ x12_3 [.int .u32 x12_3] from rfl) (Reps.one (show Kd.M (Kd.int .u32) _ _ _ x13_3 [.int .u32 x13_3] from rfl) (Reps.one (show Kd.M (Kd.int .u32) _ _ _ x14_3 [.int .u32 x14_3] from rfl) (Reps.one (show Kd.M (Kd.int .u32) _ _ _ x15_3 [.int .u32 x15_3] from rfl) (Reps.one (show Kd.M (Kd.int .u32) _ _ _ x16_3 [.int .u32 x16_3] from rfl) (Reps.one (show Kd.M (Kd.int .u32) _ _ _ x17_3 [.int .u32 x17_3] from rfl) (Reps.none _ _)))))))))); intro v140 w76 ho77 hb hg_ hnew_; clear hg_ hnew_; (first | rw [← Ny139.out] at ho77 | (simp only [Int.reduceToNat] at ho77; rw [← Ny139.out] at ho77)); have n0_ := zA_ (Kd.R_elder' (zr_ HO_5.out) (Kd.R_base ho77) hb); have n1_ := zA_ (Kd.R_elder' (zr_ HO_18.out) (Kd.R_base ho77) hb); have n2_ := zA_ (Kd.R_lower (Kd.R_new' (Kd.R_new' ho77 (Kd.R_lt (zr_ HO_5.out))) (Kd.R_lt (zr_ HO_18.out))) (below_size (zh_ HB.out))); have n3_ := zA_ (below_step (zh_ HB.out) hb); clear HO_5 HO_18 HB; have HO_5 := n0_; have HO_18 := n1_; have HO141 := n2_; have HB := n3_; clear n0_ n1_ n2_ n3_; clear hb ho77) | ((with_reducible refine gate_dst (N := 215) rfl ?_); refine Kd.R_lit (Kd.int .i64) _ 2 ?hg (N := 215) ?hd (xs := ([] : List Int)) (inner := []) (ok := fun _ => True) (okp := fun _ => True) ?hr ?hp (fun _ hk => hk) trivial (Below.refl _ _) (Nat.le_refl _) (by simp) ?_; (case hd => exact (by rfl)); (case hg => exact (by rfl)); (case hr => exact βAa); (case hp => exact (Reps.none _ _)); intro v143 w78 ho79 hb hg_ hnew_; clear hg_ hnew_; (first | rw [← Ny142.out] at ho79 | (simp only [Int.reduceToNat] at ho79; rw [← Ny142.out] at ho79)); have n0_ := zA_ (Kd.R_below (zr_ HO_5.out) hb); have n1_ := zA_ (Kd.R_below (zr_ HO_18.out) hb); have n2_ := zA_ (Kd.R_below (zr_ HO141.out) hb); have n3_ := zA_ (Kd.R_lower ho79 (below_size (zh_ HB.out))); have n4_ := zA_ (below_step (zh_ HB.out) hb); clear HO_5 HO_18 HO141 HB; have HO_5 := n0_; have HO_18 := n1_; have HO141 := n2_; have HO144 := n3_; have HB := n4_; clear n0_ n1_ n2_ n3_ n4_; clear hb ho79))
                               go_loopg [23, 24] k3 (fun kq v23 v24 w' => ∃ (x23_4 : List Int) (x24_4 : Int), v24 = .int .i64 x24_4 ∧ Aside0 (spec_l02Block.l3 kq l0 y139 x23_4 x24_4 = some r) ∧ Aside0 (kq ≤ k3) ∧ Aside0 (Kd.R (Kd.int .u32) 71 w' w.heap.size (fun _ => True) v140 y139) ∧ Aside0 (Kd.R (Kd.int .i64) 2 w' w.heap.size (fun _ => True) v23 x23_4) ∧ Aside0 (Below w.heap.size w w'))
                               case atStart => exact ⟨(y142), (0), βya, H', ⟨Nat.le_refl _⟩, ⟨(by (with_reducible repeat (first | apply Kd.R_alloc | apply Kd.R_drewN | apply Kd.R_drew)); exact Kd.R_mono HO141.out (fun _ hk => trivial))⟩, ⟨zr_ HO144.out⟩, ⟨zh_ HB.out⟩⟩
                               case round =>
                                clear H'
                                try clear p1
                                try clear q1
                                try clear hx1
                                try clear qi1
                                try clear c2
                                try clear p2
                                try clear c3
                                try clear c4
                                try clear p4
                                try clear q4
                                try clear hx4
                                try clear hf4
                                try clear c5
                                try clear c6
                                try clear p6
                                try clear c7
                                try clear hx11
                                try clear p12
                                try clear q12
                                try clear hx12
                                try clear qi12
                                try clear p13
                                try clear q13
                                try clear hx13
                                try clear c28
                                try clear c28b0
                                try clear c30
                                try clear c31
                                try clear c33
                                try clear c34
                                try clear c36
                                try clear c37
                                try clear c41
                                try clear c42
                                try clear c45
                                try clear c46
                                try clear p47
                                try clear q47
                                try clear hx47
                                try clear hf47
                                try clear c51
                                try clear c51b0
                                try clear c51b1
                                try clear c52
                                try clear c52b0
                                try clear c52b1
                                try clear c53
                                try clear c53b0
                                try clear c53b1
                                try clear c54
                                try clear c54b0
                                try clear c54b1
                                try clear c55
                                try clear c55b0
                                try clear c55b1
                                try clear c56
                                try clear c56b0
                                try clear c56b1
                                try clear c57
                                try clear c57b0
                                try clear c57b1
                                try clear c58
                                try clear c58b0
                                try clear c58b1
                                try clear c63
                                try clear c63b0
                                try clear p64
                                try clear c67
                                try clear c67b0
                                try clear c68
                                try clear c68b0
                                try clear c69
                                try clear c69b0
                                try clear c75
                                try clear c76
                                try clear hx111_0
                                try clear hx112_0
                                try clear hx113_0
                                try clear hx116_0
                                try clear hx120_0
                                try clear hx121_0
                                try clear hx122_0
                                try clear hx123_0
                                try clear hx124_0
                                try clear hx125_0
                                try clear hx126_0
                                try clear hx127_0
                                try clear hx134_0
                                try clear hx135_0
                                try clear hx47_0
                                try clear p1
                                try clear p12
                                try clear p120
                                try clear p121
                                try clear p122
                                try clear p123
                                try clear p124
                                try clear p125
                                try clear p126
                                try clear p127
                                try clear p134
                                try clear p135
                                try clear p2
                                try clear p4
                                try clear p47
                                try clear p6
                                try clear q1
                                try clear q12
                                try clear q120
                                try clear q121
                                try clear q122
                                try clear q123
                                try clear q124
                                try clear q125
                                try clear q126
                                try clear q127
                                try clear q134
                                try clear q135
                                try clear q4
                                try clear q47
                                obtain ⟨x23_4, x24_4, rfl, HA, HK4, HO_22, HO_23, HB⟩ := hrel
                                cases gk with
                                | zero => exact absurd HA.out (by simp [spec_l02Block.l3])
                                | succ k4 =>
                                 have H := HA.out
                                 clear HA
                                 simp only [spec_l02Block.l3] at H
                                 by_cases c80 : x24_4 < 8
                                 · rw [if_pos c80] at H
                                   have c80b0 : decide (x24_4 < 8) = true := decide_eq_true c80
                                   clear c80
                                   by_cases c81 : 0 ≤ x24_4
                                   · rw [if_pos c81] at H
                                     have c81b0 : decide (0 ≤ x24_4) = true := decide_eq_true c81
                                     clear c81
                                     by_cases c82 : x24_4 < (l0.length : Int)
                                     · rw [if_pos c82] at H
                                       have c82b0 : decide (x24_4 < (l0.length : Int)) = true := decide_eq_true c82
                                       clear c82
                                       by_cases c83 : x24_4 < (y139.length : Int)
                                       · rw [if_pos c83] at H
                                         have c83b0 : decide (x24_4 < (y139.length : Int)) = true := decide_eq_true c83
                                         clear c83
                                         by_cases c84 : x23_4.length < 17592186044416
                                         · rw [if_pos c84] at H
                                           have LMc84 := zA_ c84
                                           clear c84
                                           obtain ⟨y147, hy147⟩ : ∃ y_ : List Int, y_ = (x23_4 ++ [((rd l0 x24_4) + (rd y139 x24_4)) % 4294967296]) := ⟨_, rfl⟩
                                           replace H : (spec_l02Block.l3 k4 l0 y139 y147 (wrap64 (x24_4 + 1))) = some r := by first | (rw [hy147]; with_reducible exact H) | (have H2_ := (Option.bind_some _ _).symm.trans H; rw [hy147]; with_reducible exact H2_) | (have H2_ := (Option.bind_some _ _).symm.trans H; with_reducible exact H2_) | with_reducible exact H | (rw [hy147]; exact H) | exact H
                                           have Ny147 := zA_ hy147
                                           clear hy147
                                           have H' := zA_ H
                                           clear H
                                           try go_wp2
                                           have n0_ := zA_ (Kd.R_drew HO_22.out)
                                           have n1_ := zA_ (Kd.R_drew HO_23.out)
                                           have n2_ := zA_ (below_drew1 HB.out)
                                           clear HO_22 HO_23 HB
                                           have HO_22 := n0_
                                           have HO_23 := n1_
                                           have HB := n2_
                                           clear n0_ n1_ n2_
                                           have p145 : 0 ≤ (x24_4 : Int) := of_decide_eq_true βxa
                                           have q145 : x24_4 < (l0.length : Int) := of_decide_eq_true βxa
                                           obtain ⟨ad145, e145, hx145_0⟩ := Kd.at_int HR0.out x24_4 p145 q145
                                           have hw145_0 := hx145_0
                                           obtain rfl : ad120 = ad145 := (by injection e145)
                                           replace hx145_0 := bc_ HB.out hx145_0
                                           replace p145 := eq_true p145
                                           replace q145 := eq_true q145
                                           obtain ⟨Ao86, co86, eo86⟩ := Kd.R_slice HO_22.out
                                           (first | subst eo86 | (injection eo86 with f1_ f2_ f3_; have f4_ := f1_.symm; have f5_ := f3_.symm; clear f1_ f2_ f3_; subst f4_; subst f5_))
                                           have p146 : 0 ≤ (x24_4 : Int) := of_decide_eq_true βxa
                                           have q146 : x24_4 < (y139.length : Int) := of_decide_eq_true βxa
                                           obtain ⟨ad146, e146, hx146_0⟩ := Kd.at_int (Kd.R_reads' HO_22.out).2.2 x24_4 p146 q146
                                           cases e146
                                           replace p146 := eq_true p146
                                           replace q146 := eq_true q146
                                           refine start_ (n := 15) (S := fun w' => w'.cell? (ad120.add (x24_4).toNat) = some (.int .i64 (rd l0 x24_4)) ∧ w'.cell? (ad146.add (x24_4).toNat) = some (.int .u32 (rd y139 x24_4))) (ds := [12, 13]) (mr_ [0, 15]) βDa rfl rfl ⟨(bc_ HB.out hw145_0), hx146_0⟩ (fun hHeld => ?_); refine with_tabW spec_l02Block.tab33 spec_l02Block.bits33 (fun HT_ HW_ => ?_)
                                           generalize wr.drew = w85 at HO_22 HO_23 HB hx145_0 hx146_0 hHeld ⊢
                                           refine pure_ (i := 0) (N := some 220) (v := ?_) (a' := ?_) (mr_ [1, 14]) rfl rfl (any_of HT_.out βDa) (fun _ _ _ h => h) (Or.inl ⟨(by rfl), ?_⟩) ?_ ?_
                                           rotate_left; exact pv_; rotate_left; exact pp_
                                           refine pure_ (i := 1) (N := some 221) (v := ?_) (a' := ?_) (mr_ [2, 13]) rfl rfl (any_of HT_.out βDa) (fun _ _ _ h => h) (Or.inl ⟨(by rfl), ?_⟩) ?_ ?_
                                           rotate_left; exact pv_; rotate_left; exact pp_
                                           refine pure_ (i := 2) (N := some 222) (v := ?_) (a' := ?_) (mr_ [3, 12]) rfl rfl (any_of HT_.out βDa) (fun _ _ _ h => h) (Or.inl ⟨(by rfl), ?_⟩) ?_ ?_
                                           rotate_left; exact pv_; rotate_left; exact pp_
                                           refine pure_ (i := 3) (N := some 223) (v := ?_) (a' := ?_) (mr_ [4, 11]) rfl rfl (any_of HT_.out βDa) (fun _ _ _ h => h) (Or.inl ⟨(by rfl), ?_⟩) ?_ ?_
                                           rotate_left; exact pv_; rotate_left; exact pp_
                                           refine pure_ (i := 6) (N := some 226) (v := ?_) (a' := ?_) (mr_ [4, 2, 1, 8]) rfl rfl (any_of HT_.out βDa) (fun _ _ _ h => h) (Or.inl ⟨(by rfl), ?_⟩) ?_ ?_
                                           rotate_left; exact pv_; rotate_left; exact pp_
                                           refine pure_ (i := 7) (N := some 227) (v := ?_) (a' := ?_) (mr_ [4, 2, 2, 7]) rfl rfl (any_of HT_.out βDa) (fun _ _ _ h => h) (Or.inl ⟨(by rfl), ?_⟩) ?_ ?_
                                           rotate_left; exact pv_; rotate_left; exact pp_
                                           refine pure_ (i := 8) (N := some 228) (v := ?_) (a' := ?_) (mr_ [4, 2, 3, 6]) rfl rfl (any_of HT_.out βDa) (fun _ _ _ h => h) (Or.inl ⟨(by rfl), ?_⟩) ?_ ?_
                                           rotate_left; exact pv_; rotate_left; exact pp_
                                           refine take_ (i := 4) (N := some 224) (v := ?_) (a' := ?_) (mr_ [5, 1, 3, 6]) rfl rfl (take_ofW HT_.out HW_.out βDa) (fun _ _ _ h => h) (Or.inl ⟨(by rfl), ?_⟩) hHeld ?_ ?_
                                           rotate_left
                                           · rintro w' ⟨s0, s1⟩
                                             go_simp
                                             with_reducible rfl
                                           rotate_left
                                           exact pp_
                                           refine pure_ (i := 5) (N := some 225) (v := ?_) (a' := ?_) (mr_ [9, 6]) rfl rfl (any_of HT_.out βDa) (fun _ _ _ h => h) (Or.inl ⟨(by rfl), ?_⟩) ?_ ?_
                                           rotate_left; exact pv_; rotate_left; exact pp_
                                           refine take_ (i := 9) (N := some 229) (v := ?_) (a' := ?_) (mr_ [10, 5]) rfl rfl (take_ofW HT_.out HW_.out βDa) (fun _ _ _ h => h) (Or.inl ⟨(by rfl), ?_⟩) hHeld ?_ ?_
                                           rotate_left
                                           · rintro w' ⟨s0, s1⟩
                                             go_simp
                                             with_reducible rfl
                                           rotate_left
                                           exact pp_
                                           refine pure_ (i := 10) (N := some 230) (v := ?_) (a' := ?_) (mr_ [11, 4]) rfl rfl (any_of HT_.out βDa) (fun _ _ _ h => h) (Or.inl ⟨(by rfl), ?_⟩) ?_ ?_
                                           rotate_left; exact pv_; rotate_left; exact pp_
                                           refine pure_ (i := 11) (N := some 231) (v := ?_) (a' := ?_) (mr_ [12, 3]) rfl rfl (any_of HT_.out βDa) (fun _ _ _ h => h) (Or.inl ⟨(by rfl), ?_⟩) ?_ ?_
                                           rotate_left; exact pv_; rotate_left; exact pp_
                                           refine last_ (i := 12) (N := some 232) (mr_ [13, 2]) rfl rfl (one_of HT_.out βDa) (by decide) (fun K hK => ?_)
                                           refine value_ (w1 := ?_) (v := ?_) (by rfl) rfl ?_ ?_
                                           rotate_left 2
                                           · go_simp
                                             constructor
                                             · rfl
                                             · rfl
                                           refine hK.out _ _ ?_
                                           clear hK K
                                           refine norm_ (a' := ?_) ?_ ?_
                                           rotate_left
                                           · show Act.put _ (some 232) _ = _
                                             simp only [Act.put, List.setIfInBounds_toArray, List.set_cons_zero, List.set_cons_succ, i64_w, i32_w]
                                             rfl
                                           refine last_ (i := 13) (N := some 233) (mr_ [14, 1]) rfl rfl (one_of HT_.out βDa) (by decide) (fun K hK => ?_)
                                           rw [show wrap64 (IntKind.u32.wrap (IntKind.u32.wrap (rd l0 x24_4) + rd y139 x24_4)) = (((rd l0 x24_4) + (rd y139 x24_4)) % 4294967296) from by (simp only [wrap64, IntKind.wrap, IntKind.bits, IntKind.signed]; simp; omega)]
                                           refine Kd.R_append_step (Kd.int .i64) (w0 := w) w.heap.size (by rfl) (.tmp 220) (.tmp 232) 68 2 (.int .i64 0) 8 rfl Tryd.underlying68 info2 rfl (by decide) (by omega) u23 x23_4 (((rd l0 x24_4) + (rd y139 x24_4)) % 4294967296) [.int .i64 (((rd l0 x24_4) + (rd y139 x24_4)) % 4294967296)] (fun _ => True) (fun _ => False) rfl rfl ?aP (fun _ hk => hk.elim) ?aF ?aO ?aB ?aS ?aL ?_
                                           (case aP => exact rfl)
                                           (case aB => exact (zh_ HB.out))
                                           (case aF => exact (fun _ _ => trivial))
                                           (case aO => exact (zr_ HO_23.out))
                                           (case aS => exact (below_size (zh_ HB.out)))
                                           (case aL => exact (by have := LMc84.out; omega))
                                           intro v148 w87 ho hb hg hat
                                           rw [← Ny147.out] at ho
                                           have n0_ := zA_ (Kd.R_over' (zr_ HO_22.out) (Kd.R_typed (zr_ HO_23.out)) (by decide) hg)
                                           have n1_ := zA_ (hb)
                                           have n2_ := zA_ (ho)
                                           clear HO_22 HB HO_23
                                           have HO_22 := n0_
                                           have HB := n1_
                                           have HO149 := n2_
                                           clear n0_ n1_ n2_
                                           clear ho hb hg hat
                                           refine hK.out _ _ ?_
                                           clear hK K
                                           refine norm_ (a' := ?_) ?_ ?_
                                           rotate_left
                                           · show Act.put _ (some 233) _ = _
                                             simp only [Act.put, List.setIfInBounds_toArray, List.set_cons_zero, List.set_cons_succ, i64_w, i32_w]
                                             rfl
                                           refine pure_ (i := 14) (N := some 23) (v := ?_) (a' := ?_) (mr_ [15]) rfl rfl (any_of HT_.out βDa) (fun _ _ _ h => h) (Or.inl ⟨(by rfl), ?_⟩) ?_ ?_
                                           rotate_left; exact pv_; rotate_left; exact pp_
                                           refine done_ (done_of HT_.out βDa) ?_
                                           try go_wp2
                                           go_roundg k4
                                           case measure => have := HK1.out; have := HK2.out; have := HK3.out; have := HK4.out; omega
                                           case rel => exact ⟨(y147), (wrap64 (x24_4 + 1)), βya, H', ⟨(by have := HK1.out; have := HK2.out; have := HK3.out; have := HK4.out; omega)⟩, ⟨zr_ HO_22.out⟩, ⟨zr_ HO149.out⟩, ⟨zh_ HB.out⟩⟩
                                         · rw [if_neg c84] at H
                                           exact absurd H (by simp)
                                       · rw [if_neg c83] at H
                                         exact absurd H (by simp)
                                     · rw [if_neg c82] at H
                                       exact absurd H (by simp)
                                   · rw [if_neg c81] at H
                                     exact absurd H (by simp)
                                 · rw [if_neg c80] at H
                                   have c80b0 : decide (x24_4 < 8) = false := decide_eq_false c80
                                   clear c80
                                   obtain rfl := Option.some.inj H
                                   go_wp2
                                   go_ret
                                   exact ⟨_, βsa, (by (with_reducible repeat (first | apply Kd.R_alloc | apply Kd.R_drewN | apply Kd.R_drew)); exact HO_23.out), βoa⟩
                         · rw [if_neg c58] at H
                           exact absurd H (by simp)
                       · rw [if_neg c57] at H
                         exact absurd H (by simp)
                     · rw [if_neg c56] at H
                       exact absurd H (by simp)
                   · rw [if_neg c55] at H
                     exact absurd H (by simp)
                 · rw [if_neg c54] at H
                   exact absurd H (by simp)
               · rw [if_neg c53] at H
                 exact absurd H (by simp)
             · rw [if_neg c52] at H
               exact absurd H (by simp)
           · rw [if_neg c51] at H
             exact absurd H (by simp)
 · rw [if_neg c3] at H
   exact absurd H (by simp)
def IsS78 (w0 W : World) (g : Nat) (f0 : List Int) (f1 : Int) (f2 : Int) (f3 : Int) : Prop := ∃ A0 c0, W.heap[g]? = some (.cells #[.slice A0 f0.length c0, .int .i64 f1, .int .u64 f2, .int .i64 f3] 78 (0, 0)) ∧ w0.heap.size ≤ g ∧ Kd.C (Kd.int .u8) w0 A0 f0.length f0
theorem IsS78.grown {w0 W : World} {g : Nat} {f0 : List Int} {f1 : Int} {f2 : Int} {f3 : Int} {W1 : World} {row : Option Nat} (h : IsS78 w0 W g f0 f1 f2 f3) (hw : W.grownBy W1 row) (hne : some g ≠ row) : IsS78 w0 W1 g f0 f1 f2 f3 := by
 obtain ⟨A0, c0, hb, hg, hr0⟩ := h
 exact ⟨A0, c0, blk_grown hb hw hne, hg, hr0⟩
theorem IsS78.kept {w0 W : World} {g : Nat} {f0 : List Int} {f1 : Int} {f2 : Int} {f3 : Int} {W1 : World} {S : Nat → Prop} (h : IsS78 w0 W g f0 f1 f2 f3) (hk : Kept W W1 S) (hne : ¬ S g) : IsS78 w0 W1 g f0 f1 f2 f3 := by
 obtain ⟨A0, c0, hb, hg, hr0⟩ := h
 exact ⟨A0, c0, blk_kept hb hk hne, hg, hr0⟩
theorem IsS78.below {w0 W : World} {g : Nat} {f0 : List Int} {f1 : Int} {f2 : Int} {f3 : Int} {W1 : World} (h : IsS78 w0 W g f0 f1 f2 f3) (hw : Below W.heap.size W W1) : IsS78 w0 W1 g f0 f1 f2 f3 := h.grown (grown_of_below hw none) (by simp)
theorem IsS78.alloc {w0 W : World} {g : Nat} {f0 : List Int} {f1 : Int} {f2 : Int} {f3 : Int} (h : IsS78 w0 W g f0 f1 f2 f3) (o : Obj) : IsS78 w0 (W.alloc o) g f0 f1 f2 f3 := h.below (below_alloc (Below.refl _ _) o)
theorem IsS78.drewN {w0 W : World} {g : Nat} {f0 : List Int} {f1 : Int} {f2 : Int} {f3 : Int} (h : IsS78 w0 W g f0 f1 f2 f3) (m : Nat) : IsS78 w0 (W.drewN m) g f0 f1 f2 f3 := h
theorem IsS78.drew {w0 W : World} {g : Nat} {f0 : List Int} {f1 : Int} {f2 : Int} {f3 : Int} (h : IsS78 w0 W g f0 f1 f2 f3) : IsS78 w0 W.drew g f0 f1 f2 f3 := h
theorem IsS78.at_ {w0 W : World} {g : Nat} {f0 : List Int} {f1 : Int} {f2 : Int} {f3 : Int} {w' : World} {m : Nat} (hq : W.drewN m = w') (h : IsS78 w0 W g f0 f1 f2 f3) : IsS78 w0 w' g f0 f1 f2 f3 := by subst hq; exact IsS78.drewN h m
theorem IsS78.apart {w0 W : World} {g : Nat} {f0 : List Int} {f1 : Int} {f2 : Int} {f3 : Int} {α : Type} {d : Kd α} {e : Nat} {base : Nat} {ok : Nat → Prop} {v : Value} {xs : List α} (h : IsS78 w0 W g f0 f1 f2 f3) (ho : d.R e W base ok v xs) (ht : ∀ q, q ∈ e :: d.E → q ≠ 78) : d.R e W base (fun k => ok k ∧ k ≠ g) v xs := by
 obtain ⟨A0, c0, hb, hg, hr0⟩ := h
 exact Kd.R_types ho hb ht
theorem IsS78.own_ne {w0 W : World} {g : Nat} {f0 : List Int} {f1 : Int} {f2 : Int} {f3 : Int} {α : Type} {d : Kd α} {e : Nat} {base : Nat} {ok : Nat → Prop} {v : Value} {xs : List α} (h : IsS78 w0 W g f0 f1 f2 f3) (ho : d.R e W base ok v xs) (ht : e ≠ 78) : some g ≠ v.ownBlock := by
 obtain ⟨A0, c0, hb, hg, hr0⟩ := h
 exact Kd.R_ne ho hb ht
theorem IsS78.lt {w0 W : World} {g : Nat} {f0 : List Int} {f1 : Int} {f2 : Int} {f3 : Int} (h : IsS78 w0 W g f0 f1 f2 f3) : g < W.heap.size := by
 obtain ⟨A0, c0, hb, hg, hr0⟩ := h
 exact blk_lt hb
theorem IsS78.ge {w0 W : World} {g : Nat} {f0 : List Int} {f1 : Int} {f2 : Int} {f3 : Int} (h : IsS78 w0 W g f0 f1 f2 f3) : w0.heap.size ≤ g := by
 obtain ⟨A0, c0, hb, hg, hr0⟩ := h
 exact hg
theorem IsS78.ne_blk {w0 W : World} {g : Nat} {f0 : List Int} {f1 : Int} {f2 : Int} {f3 : Int} {a : Nat} {cs : Array Value} {t : TypeId} {fr : Nat × Nat} (h : IsS78 w0 W g f0 f1 f2 f3) (hb2 : W.heap[a]? = some (.cells cs t fr)) (ht : t ≠ 78) : g ≠ a := by
 obtain ⟨A0, c0, hb, hg, hr0⟩ := h
 rintro rfl
 rw [hb] at hb2
 injection hb2 with hb2
 injection hb2 with _ ht2
 exact ht ht2.symm
theorem IsS78.far {w0 W : World} {g : Nat} {f0 : List Int} {f1 : Int} {f2 : Int} {f3 : Int} {p : Addr} (h : IsS78 w0 W g f0 f1 f2 f3) (hne : g ≠ p.block) (u : Value) : IsS78 w0 (W.setCell p u) g f0 f1 f2 f3 := by
 obtain ⟨A0, c0, hb, hg, hr0⟩ := h
 exact ⟨A0, c0, blk_far hb hne u, hg, hr0⟩
theorem IsS78.set_1 {w0 W : World} {g : Nat} {f0 : List Int} {f1 : Int} {f2 : Int} {f3 : Int} (h : IsS78 w0 W g f0 f1 f2 f3) (x : Int) : IsS78 w0 (W.setCell ⟨g, 1, none⟩ (.int .i64 x)) g f0 x f2 f3 := by
 obtain ⟨A0, c0, hb, hg, hr0⟩ := h
 exact ⟨A0, c0, (by simpa using blk_set hb 1 (.int .i64 x)), hg, hr0⟩
theorem IsS78.set_2 {w0 W : World} {g : Nat} {f0 : List Int} {f1 : Int} {f2 : Int} {f3 : Int} (h : IsS78 w0 W g f0 f1 f2 f3) (x : Int) : IsS78 w0 (W.setCell ⟨g, 2, none⟩ (.int .u64 x)) g f0 f1 x f3 := by
 obtain ⟨A0, c0, hb, hg, hr0⟩ := h
 exact ⟨A0, c0, (by simpa using blk_set hb 2 (.int .u64 x)), hg, hr0⟩
theorem IsS78.set_3 {w0 W : World} {g : Nat} {f0 : List Int} {f1 : Int} {f2 : Int} {f3 : Int} (h : IsS78 w0 W g f0 f1 f2 f3) (x : Int) : IsS78 w0 (W.setCell ⟨g, 3, none⟩ (.int .i64 x)) g f0 f1 f2 x := by
 obtain ⟨A0, c0, hb, hg, hr0⟩ := h
 exact ⟨A0, c0, (by simpa using blk_set hb 3 (.int .i64 x)), hg, hr0⟩
def spec_l01Source.l0 : Nat → List Int → Int → List Int → Int → Int → Int → Option (List Int × Int × Int × Int)
 | 0, _, _, _, _, _, _ => none
 | k + 1, x0, x4, x159000, x159001, x159002, x159003 => if x4 < (x0.length : Int) then (if x4 < 64 then (if 0 ≤ x4 then (spec_l01Source.l0 k x0 (wrap64 (x4 + 1)) x159000 x159001 (IntKind.u64.wrap ((Go.bits .xor .u64 x159002 (IntKind.u64.wrap (rd x0 x4))) * 1099511628211)) x159003) else (none)) else (if (wrap64 ((x0.length : Int) / 20)) > 12 then (some (x159000, x159001, x159002, 12)) else (some (x159000, x159001, x159002, wrap64 ((x0.length : Int) / 20))))) else (if (wrap64 ((x0.length : Int) / 20)) > 12 then (some (x159000, x159001, x159002, 12)) else (some (x159000, x159001, x159002, wrap64 ((x0.length : Int) / 20))))
def spec_l01Source.f (k : Nat) (l0 : List Int) : Option (List Int × Int × Int × Int) := spec_l01Source.l0 k l0 0 l0 0 88172645463325252 0
def spec_l01Source.T5 : Bool × List (List Nat × List Nat) := (true, [([], []), ([], []), ([1], [1]), ([2], [2]), ([3], [3]), ([], []), ([], []), ([5, 6], [5, 6]), ([7], [7]), ([8], [8]), ([4, 9], [4, 9]), ([10], [10]), ([0, 0, 1, 2, 3, 4, 5, 6, 7, 8, 9, 10, 11], [0]), ([12, 0, 1, 2, 3, 4, 5, 6, 7, 8, 9, 10, 11], [12]), ([13, 11, 0, 1, 2, 3, 4, 5, 6, 7, 8, 9, 10, 11], [11, 13])])
def spec_l01Source.B5 : List Nat := [0, 0, 2, 6, 14, 0, 0, 96, 224, 480, 1022, 2046, 4095, 8191, 16383]
theorem spec_l01Source.tab5 : rtab .any (opsOf Tryd.f30 5) = spec_l01Source.T5 := by kernel_rfl
theorem spec_l01Source.bits5 : waitsOk spec_l01Source.T5.2 spec_l01Source.B5 = true := by kernel_rfl
theorem spec_l01Source.calls (k : Nat) (A0 : Option Addr) (c0 : Nat) (l0 : List Int) (r1 : List Int) (r2 : Int) (r3 : Int) (r4 : Int) (w0 w : World) (hB : Below w0.heap.size w0 w) (hr0 : Kd.C (Kd.int .u8) w0 A0 l0.length l0) (hc0 : l0.length ≤ c0) (h : spec_l01Source.f k l0 = some (r1, r2, r3, r4)) :
 Calls Tryd.prog 30 #[.slice A0 l0.length c0] w fun e w' => ∃ g_ : Nat, e = .returned (.pointer (some ⟨g_, 0, none⟩)) ∧ IsS78 w0 w' g_ r1 r2 r3 r4 ∧ Below w0.heap.size w0 w' ∧ Below w.heap.size w w' := by
 have hu78 := Tryd.underlying78
 have HR0 := zA_ hr0
 have HC0 := zA_ hc0
 clear hr0 hc0
 have HBW := zA_ (Below.refl w.heap.size w)
 have HW0 := zA_ hB.size
 have HB := zA_ hB
 clear hB
 have H : (spec_l01Source.l0 k l0 0 l0 0 88172645463325252 0) = some (r1, r2, r3, r4) := h
 clear h
 have H' := zA_ H
 clear H
 go_enter Tryd.func30, Tryd.ntmps30
 go_wp2_with (first | ((with_reducible refine gate_dst (N := 7) rfl ?_); refine box_event ?hg (N := 7) ?hd (cs := #[.slice A0 l0.length c0, .int .i64 0, .int .u64 88172645463325252, .int .i64 0]) (t := 78) ?hr ?_; (case hd => exact (by rfl)); (case hg => exact (by rfl)); (case hr => exact βAa); intro gb158 hg w2 hbox hb; have n0_ := zA_ (below_step HBW.out hb); have n1_ := zA_ (below_step (zh_ HB.out) hb); have n2_ := zA_ (hbox); have n3_ := zA_ ((by rw [hg]; exact (below_size (by repeat (first | (with_reducible first | exact HBW.out | apply below_alloc | apply pw_below_drewN | apply below_drew1) | exact HBW.out))) : w.heap.size ≤ gb158)); have n4_ := zA_ ((Nat.le_trans HW0.out (by rw [hg]; exact (below_size (by repeat (first | (with_reducible first | exact HBW.out | apply below_alloc | apply pw_below_drewN | apply below_drew1) | exact HBW.out))) : w.heap.size ≤ gb158) : w0.heap.size ≤ gb158)); clear HBW HB; have HBW := n0_; have HB := n1_; have BK158 := n2_; have GW158 := n3_; have GE158 := n4_; clear n0_ n1_ n2_ n3_ n4_; clear hb hbox hg))
 go_loopg [4] k (fun kq v4 w' => ∃ (x4_1 : Int) (x159002_1 : Int), v4 = .int .i64 x4_1 ∧ Aside0 (spec_l01Source.l0 kq l0 x4_1 l0 0 x159002_1 0 = some (r1, r2, r3, r4)) ∧ Aside0 (kq ≤ k) ∧ Aside0 (w'.heap[gb158]? = some (.cells #[(.slice A0 l0.length c0), .int .i64 0, .int .u64 x159002_1, .int .i64 0] 78 (0, 0))) ∧ Aside0 (Below w.heap.size w w') ∧ Aside0 (Below w0.heap.size w0 w'))
 case atStart => exact ⟨(0), (88172645463325252), βya, H', ⟨Nat.le_refl _⟩, ⟨zb_ BK158.out⟩, ⟨βN⟩, ⟨zg1_ HB.out GE158.out⟩⟩
 case round =>
  clear H'
  try clear p2
  obtain ⟨x4_1, x159002_1, rfl, HA, HK1, BK158, HBW, HB⟩ := hrel
  cases gk with
  | zero => exact absurd HA.out (by simp [spec_l01Source.l0])
  | succ k1 =>
   have H := HA.out
   clear HA
   simp only [spec_l01Source.l0] at H
   by_cases c3 : x4_1 < (l0.length : Int)
   · rw [if_pos c3] at H
     have c3b0 : decide (x4_1 < (l0.length : Int)) = true := decide_eq_true c3
     clear c3
     by_cases c4 : x4_1 < 64
     · rw [if_pos c4] at H
       have c4b0 : decide (x4_1 < 64) = true := decide_eq_true c4
       clear c4
       by_cases c5 : 0 ≤ x4_1
       · rw [if_pos c5] at H
         have c5b0 : decide (0 ≤ x4_1) = true := decide_eq_true c5
         clear c5
         have H' := zA_ H
         clear H
         try go_wp2
         have n0_ := zA_ (blk_drew BK158.out)
         have n1_ := zA_ (below_drew1 HB.out)
         have n2_ := zA_ (below_drew1 HBW.out)
         clear BK158 HB HBW
         have BK158 := n0_
         have HB := n1_
         have HBW := n2_
         clear n0_ n1_ n2_
         have p159 : 0 ≤ (x4_1 : Int) := of_decide_eq_true βxa
         have q159 : x4_1 < (l0.length : Int) := of_decide_eq_true βxa
         obtain ⟨ad159, e159, hx159_0⟩ := Kd.at_int HR0.out x4_1 p159 q159
         have hw159_0 := hx159_0
         cases e159
         replace hx159_0 := pw_cell_below HB.out hx159_0
         replace p159 := eq_true p159
         replace q159 := eq_true q159
         refine start_ (n := 15) (S := fun w' => w'.cell? ⟨gb158, 0, none⟩ = some (.slice (some ad159) l0.length c0) ∧ w'.cell? ⟨gb158, 1, none⟩ = some (.int .i64 0) ∧ w'.cell? ⟨gb158, 2, none⟩ = some (.int .u64 x159002_1) ∧ w'.cell? ⟨gb158, 3, none⟩ = some (.int .i64 0) ∧ w'.cell? (ad159.add (x4_1).toNat) = some (.int .u8 (rd l0 x4_1))) (ds := [14]) (mr_ [0, 15]) βDa rfl rfl ⟨cy_ BK158.out 0, cy_ BK158.out 1, cy_ BK158.out 2, cy_ BK158.out 3, (bc_ HB.out hw159_0)⟩ (fun hHeld => ?_); refine with_tabW spec_l01Source.tab5 spec_l01Source.bits5 (fun HT_ HW_ => ?_)
         generalize wr.drew = w6 at BK158 HB HBW hx159_0 hHeld ⊢
         refine pure_ (i := 0) (N := some 18) (v := ?_) (a' := ?_) (mr_ [1, 14]) rfl rfl (any_of HT_.out βDa) (fun _ _ _ h => h) (Or.inl ⟨(by rfl), ?_⟩) ?_ ?_
         rotate_left; exact pv_; rotate_left; exact pp_
         refine pure_ (i := 1) (N := some 19) (v := ?_) (a' := ?_) (mr_ [2, 13]) rfl rfl (any_of HT_.out βDa) (fun _ _ _ h => h) (Or.inl ⟨(by rfl), ?_⟩) ?_ ?_
         rotate_left; exact pv_; rotate_left; exact pp_
         refine pure_ (i := 2) (N := some 20) (v := ?_) (a' := ?_) (mr_ [3, 12]) rfl rfl (any_of HT_.out βDa) (fun _ _ _ h => h) (Or.inl ⟨(by rfl), ?_⟩) ?_ ?_
         rotate_left; exact pv_; rotate_left; exact pp_
         refine pure_ (i := 3) (N := some 21) (v := ?_) (a' := ?_) (mr_ [4, 11]) rfl rfl (any_of HT_.out βDa) (fun _ _ _ h => h) (Or.inl ⟨(by rfl), ?_⟩) ?_ ?_
         rotate_left; exact pv_; rotate_left; exact pp_
         refine pure_ (i := 5) (N := some 23) (v := ?_) (a' := ?_) (mr_ [4, 1, 1, 9]) rfl rfl (any_of HT_.out βDa) (fun _ _ _ h => h) (Or.inl ⟨(by rfl), ?_⟩) ?_ ?_
         rotate_left; exact pv_; rotate_left; exact pp_
         refine pure_ (i := 6) (N := some 24) (v := ?_) (a' := ?_) (mr_ [4, 1, 2, 8]) rfl rfl (any_of HT_.out βDa) (fun _ _ _ h => h) (Or.inl ⟨(by rfl), ?_⟩) ?_ ?_
         rotate_left; exact pv_; rotate_left; exact pp_
         refine pure_ (i := 7) (N := some 25) (v := ?_) (a' := ?_) (mr_ [4, 1, 3, 7]) rfl rfl (any_of HT_.out βDa) (fun _ _ _ h => h) (Or.inl ⟨(by rfl), ?_⟩) ?_ ?_
         rotate_left; exact pv_; rotate_left; exact pp_
         refine take_ (i := 4) (N := some 22) (v := ?_) (a' := ?_) (mr_ [8, 7]) rfl rfl (take_ofW HT_.out HW_.out βDa) (fun _ _ _ h => h) (Or.inl ⟨(by rfl), ?_⟩) hHeld ?_ ?_
         rotate_left
         · rintro w' ⟨s0, s1, s2, s3, s4⟩
           go_simp
           with_reducible rfl
         rotate_left
         exact pp_
         refine take_ (i := 8) (N := some 26) (v := ?_) (a' := ?_) (mr_ [9, 6]) rfl rfl (take_ofW HT_.out HW_.out βDa) (fun _ _ _ h => h) (Or.inl ⟨(by rfl), ?_⟩) hHeld ?_ ?_
         rotate_left
         · rintro w' ⟨s0, s1, s2, s3, s4⟩
           go_simp
           with_reducible rfl
         rotate_left
         exact pp_
         refine pure_ (i := 9) (N := some 27) (v := ?_) (a' := ?_) (mr_ [10, 5]) rfl rfl (any_of HT_.out βDa) (fun _ _ _ h => h) (Or.inl ⟨(by rfl), ?_⟩) ?_ ?_
         rotate_left; exact pv_; rotate_left; exact pp_
         refine pure_ (i := 10) (N := some 28) (v := ?_) (a' := ?_) (mr_ [11, 4]) rfl rfl (any_of HT_.out βDa) (fun _ _ _ h => h) (Or.inl ⟨(by rfl), ?_⟩) ?_ ?_
         rotate_left; exact pv_; rotate_left; exact pp_
         refine pure_ (i := 11) (N := some 29) (v := ?_) (a' := ?_) (mr_ [12, 3]) rfl rfl (any_of HT_.out βDa) (fun _ _ _ h => h) (Or.inl ⟨(by rfl), ?_⟩) ?_ ?_
         rotate_left; exact pv_; rotate_left; exact pp_
         refine pure_ (i := 12) (N := some 30) (v := ?_) (a' := ?_) (mr_ [13, 2]) rfl rfl (any_of HT_.out βDa) (fun _ _ _ h => h) (Or.inl ⟨(by rfl), ?_⟩) ?_ ?_
         rotate_left; exact pv_; rotate_left; exact pp_
         refine pure_ (i := 13) (N := some 31) (v := ?_) (a' := ?_) (mr_ [14, 1]) rfl rfl (any_of HT_.out βDa) (fun _ _ _ h => h) (Or.inl ⟨(by rfl), ?_⟩) ?_ ?_
         rotate_left; exact pv_; rotate_left; exact pp_
         refine last_ (i := 14) (N := none) (mr_ [15]) rfl rfl (one_of HT_.out βDa) (by decide) (fun K hK => ?_)
         have hs7 := cz_ BK158.out 2 (.int .u64 x159002_1) rfl
         have hfs7 := blk_frozen BK158.out 2
         refine skip_ (w1 := ?_) (by rfl) rfl ?_ ?_
         rotate_left
         · go_simp
           rfl
         refine hK.out _ _ ?_
         clear hK K
         refine done_ (done_of HT_.out βDa) ?_
         try go_wp2
         go_roundg k1
         case measure => have := HK1.out; omega
         case rel => exact ⟨(wrap64 (x4_1 + 1)), (IntKind.u64.wrap ((Go.bits .xor .u64 x159002_1 (IntKind.u64.wrap (rd l0 x4_1))) * 1099511628211)), βya, H', ⟨βCa⟩, ⟨(by (with_reducible repeat (first | refine blk_drewN ?_ _ | refine blk_drew ?_ | refine blk_alloc ?_ _)); refine blk_put (cs := #[.slice (some ad159) l0.length c0, .int .i64 0, .int .u64 x159002_1, .int .i64 0]) ?_ 2 _ rfl; (with_reducible repeat (first | refine blk_drewN ?_ _ | refine blk_drew ?_ | refine blk_alloc ?_ _)); exact BK158.out)⟩, ⟨βN⟩, ⟨zg1_ HB.out GE158.out⟩⟩
       · rw [if_neg c5] at H
         exact absurd H (by simp)
     · rw [if_neg c4] at H
       have c4b0 : decide (x4_1 < 64) = false := decide_eq_false c4
       clear c4
       by_cases c8 : (wrap64 ((l0.length : Int) / 20)) > 12
       · rw [if_pos c8] at H
         have c8b0 : decide (12 < (wrap64 ((l0.length : Int) / 20))) = true := decide_eq_true c8
         clear c8
         simp only [Option.some.injEq, Prod.mk.injEq] at H
         obtain ⟨rfl, rfl, rfl, rfl⟩ := H
         have hcz9_0 := cz_ BK158.out 0 (.slice A0 l0.length c0) rfl
         have hcz9_1 := cz_ BK158.out 1 (.int .i64 0) rfl
         have hcz9_2 := cz_ BK158.out 2 (.int .u64 x159002_1) rfl
         have hcz9_3 := cz_ BK158.out 3 (.int .i64 0) rfl
         have hfz9_0 := blk_frozen BK158.out 0
         have hfz9_1 := blk_frozen BK158.out 1
         have hfz9_2 := blk_frozen BK158.out 2
         have hfz9_3 := blk_frozen BK158.out 3
         go_wp2
         go_ret
         exact ⟨_, rfl, (show IsS78 w0 _ gb158 l0 0 x159002_1 12 from ⟨_, _, βc, GE158.out, HR0.out⟩), βO, βN⟩
       · rw [if_neg c8] at H
         have c8b0 : decide (12 < (wrap64 ((l0.length : Int) / 20))) = false := decide_eq_false c8
         clear c8
         simp only [Option.some.injEq, Prod.mk.injEq] at H
         obtain ⟨rfl, rfl, rfl, rfl⟩ := H
         have hcz10_0 := cz_ BK158.out 0 (.slice A0 l0.length c0) rfl
         have hcz10_1 := cz_ BK158.out 1 (.int .i64 0) rfl
         have hcz10_2 := cz_ BK158.out 2 (.int .u64 x159002_1) rfl
         have hcz10_3 := cz_ BK158.out 3 (.int .i64 0) rfl
         have hfz10_0 := blk_frozen BK158.out 0
         have hfz10_1 := blk_frozen BK158.out 1
         have hfz10_2 := blk_frozen BK158.out 2
         have hfz10_3 := blk_frozen BK158.out 3
         go_wp2
         go_ret
         exact ⟨_, rfl, (show IsS78 w0 _ gb158 l0 0 x159002_1 (wrap64 ((l0.length : Int) / 20)) from ⟨_, _, βh, GE158.out, HR0.out⟩), βO, βN⟩
   · rw [if_neg c3] at H
     have c3b0 : decide (x4_1 < (l0.length : Int)) = false := decide_eq_false c3
     clear c3
     by_cases c11 : (wrap64 ((l0.length : Int) / 20)) > 12
     · rw [if_pos c11] at H
       have c11b0 : decide (12 < (wrap64 ((l0.length : Int) / 20))) = true := decide_eq_true c11
       clear c11
       simp only [Option.some.injEq, Prod.mk.injEq] at H
       obtain ⟨rfl, rfl, rfl, rfl⟩ := H
       have hcz12_0 := cz_ BK158.out 0 (.slice A0 l0.length c0) rfl
       have hcz12_1 := cz_ BK158.out 1 (.int .i64 0) rfl
       have hcz12_2 := cz_ BK158.out 2 (.int .u64 x159002_1) rfl
       have hcz12_3 := cz_ BK158.out 3 (.int .i64 0) rfl
       have hfz12_0 := blk_frozen BK158.out 0
       have hfz12_1 := blk_frozen BK158.out 1
       have hfz12_2 := blk_frozen BK158.out 2
       have hfz12_3 := blk_frozen BK158.out 3
       go_wp2
       go_ret
       exact ⟨_, rfl, (show IsS78 w0 _ gb158 l0 0 x159002_1 12 from ⟨_, _, βc, GE158.out, HR0.out⟩), βO, βN⟩
     · rw [if_neg c11] at H
       have c11b0 : decide (12 < (wrap64 ((l0.length : Int) / 20))) = false := decide_eq_false c11
       clear c11
       simp only [Option.some.injEq, Prod.mk.injEq] at H
       obtain ⟨rfl, rfl, rfl, rfl⟩ := H
       have hcz13_0 := cz_ BK158.out 0 (.slice A0 l0.length c0) rfl
       have hcz13_1 := cz_ BK158.out 1 (.int .i64 0) rfl
       have hcz13_2 := cz_ BK158.out 2 (.int .u64 x159002_1) rfl
       have hcz13_3 := cz_ BK158.out 3 (.int .i64 0) rfl
       have hfz13_0 := blk_frozen BK158.out 0
       have hfz13_1 := blk_frozen BK158.out 1
       have hfz13_2 := blk_frozen BK158.out 2
       have hfz13_3 := blk_frozen BK158.out 3
       go_wp2
       go_ret
       exact ⟨_, rfl, (show IsS78 w0 _ gb158 l0 0 x159002_1 (wrap64 ((l0.length : Int) / 20)) from ⟨_, _, βh, GE158.out, HR0.out⟩), βO, βN⟩
theorem spec_l01Src_n.still {P : Program} {id : Nat} {Q : Exit → Act → World → Prop} {a : Act} {w : World} {l : List Oper} (n : Nat) (hm : P.follows .mixedOrders = true) (hB : Region.lexTailB .any l.toArray n = true)
 (h : wpStill P l.toArray w.drew (fun a' => wpList P l.toArray Q (l.drop n) a' w.drew) (l.take n) a) : (Code.region id l.toArray true).wp P Q a w := wp_region_still_tail n hm hB h
theorem spec_l01Src_n.at_ {P : Program} {c : Code} {Q : Exit → Act → World → Prop} {a : Act} {W : World} (h : ∀ W1, W = W1 → Code.wp P c Q a W1) : Code.wp P c Q a W := h W rfl
def spec_l01Src_n.m1 (m : Int) : Int := Go.bits .xor .u64 m (IntKind.u64.wrap (m * 8192))
def spec_l01Src_n.m2 (m : Int) : Int := Go.bits .xor .u64 m (m / 128)
def spec_l01Src_n.m3 (m : Int) : Int := Go.bits .xor .u64 m (IntKind.u64.wrap (m * 131072))
def spec_l01Src_n.mix (m : Int) : Int := spec_l01Src_n.m3 (spec_l01Src_n.m2 (spec_l01Src_n.m1 m))
def spec_l01Src_n.out (v m a : Int) : Int := wrap64 (Int.tmod (IntKind.u64.wrap (v + m / 1048576)) (IntKind.u64.wrap a))
def spec_l01Src_n.f (s0_0 : List Int) (s0_1 : Int) (s0_2 : Int) (s0_3 : Int) (a1 : Int) : Option (Int × Int × Int × Int) :=
 if a1 ≤ 1 then some (0, s0_1, s0_2, s0_3) else if IntKind.u64.wrap a1 = 0 then none else
 if s0_1 < (s0_0.length : Int) then (if 0 ≤ s0_1 then some (spec_l01Src_n.out (IntKind.u64.wrap (rd s0_0 s0_1)) (spec_l01Src_n.mix s0_2) a1, wrap64 (s0_1 + 1), spec_l01Src_n.mix s0_2, s0_3) else none)
 else some (spec_l01Src_n.out 0 (spec_l01Src_n.mix s0_2) a1, s0_1, spec_l01Src_n.mix s0_2, s0_3)
def spec_l01Src_n.Post (w0 w : World) (g : Nat) (s0_0 : List Int) (r1 r2 r3 r4 : Int) (e : Ending) (w' : World) : Prop := e = .returned (.int .i64 r1) ∧ IsS78 w0 w' g s0_0 r2 r3 r4 ∧ Below w0.heap.size w0 w' ∧ KeepBut w w' g none
def spec_l01Src_n.At (w0 w W : World) (g : Nat) (s0_0 : List Int) (s0_1 s0_2 s0_3 : Int) : Prop := IsS78 w0 W g s0_0 s0_1 s0_2 s0_3 ∧ Below w0.heap.size w0 W ∧ KeepBut w W g none
theorem spec_l01Src_n.At.drewN {w0 w W : World} {g : Nat} {s0_0 : List Int} {s0_1 s0_2 s0_3 : Int} (h : spec_l01Src_n.At w0 w W g s0_0 s0_1 s0_2 s0_3) (n : Nat) : spec_l01Src_n.At w0 w (W.drewN n) g s0_0 s0_1 s0_2 s0_3 := ⟨IsS78.drewN h.1 n, pw_below_drewN h.2.1 n, keep_drewN h.2.2 n⟩
theorem spec_l01Src_n.At.drew {w0 w W : World} {g : Nat} {s0_0 : List Int} {s0_1 s0_2 s0_3 : Int} (h : spec_l01Src_n.At w0 w W g s0_0 s0_1 s0_2 s0_3) : spec_l01Src_n.At w0 w W.drew g s0_0 s0_1 s0_2 s0_3 := ⟨IsS78.drew h.1, below_drew1 h.2.1, keep_drew h.2.2⟩
theorem spec_l01Src_n.At.set_1 {w0 w W : World} {g : Nat} {s0_0 : List Int} {s0_1 s0_2 s0_3 : Int} (h : spec_l01Src_n.At w0 w W g s0_0 s0_1 s0_2 s0_3) (x : Int) : spec_l01Src_n.At w0 w (W.setCell ⟨g, 1, none⟩ (.int .i64 x)) g s0_0 x s0_2 s0_3 := ⟨IsS78.set_1 h.1 x, below_set h.2.1 (IsS78.ge h.1), KeepBut.set_ h.2.2 _ _⟩
theorem spec_l01Src_n.At.set_2 {w0 w W : World} {g : Nat} {s0_0 : List Int} {s0_1 s0_2 s0_3 : Int} (h : spec_l01Src_n.At w0 w W g s0_0 s0_1 s0_2 s0_3) (x : Int) : spec_l01Src_n.At w0 w (W.setCell ⟨g, 2, none⟩ (.int .u64 x)) g s0_0 s0_1 x s0_3 := ⟨IsS78.set_2 h.1 x, below_set h.2.1 (IsS78.ge h.1), KeepBut.set_ h.2.2 _ _⟩
theorem spec_l01Src_n.far (g : Nat) (s0_0 : List Int) (s0_1 : Int) (s0_2 : Int) (s0_3 : Int) (a1 : Int) (w0 w : World) (hI : IsS78 w0 w g s0_0 s0_1 s0_2 s0_3) (hB : Below w0.heap.size w0 w) (h1 : decide (a1 ≤ 1) = false) (hz : ¬ (IntKind.u64.wrap a1 = 0)) (h2 : decide (s0_1 < (s0_0.length : Int)) = false) :
 Calls Tryd.prog 32 #[.pointer (some ⟨g, 0, none⟩), .int .i64 a1] w (spec_l01Src_n.Post w0 w g s0_0 (spec_l01Src_n.out 0 (spec_l01Src_n.mix s0_2) a1) s0_1 (spec_l01Src_n.mix s0_2) s0_3) := by
 have hu78 := Tryd.underlying78
 have HA := zA_ (show spec_l01Src_n.At w0 w w g s0_0 s0_1 s0_2 s0_3 from ⟨hI, hB, KeepBut.refl w g none⟩)
 obtain ⟨A0, c0, hblk, hge, hrd⟩ := hI
 have hc0 : w.cell? ⟨g, 0, none⟩ = some (.slice A0 s0_0.length c0) := (blk_cell hblk 0).trans rfl
 have hc1 : w.cell? ⟨g, 1, none⟩ = some (.int .i64 s0_1) := (blk_cell hblk 1).trans rfl
 have hc2 : w.cell? ⟨g, 2, none⟩ = some (.int .u64 s0_2) := (blk_cell hblk 2).trans rfl
 have hf1 := blk_frozen hblk 1
 have hf2 := blk_frozen hblk 2
 clear hblk hge hrd hB
 go_enter Tryd.func32, Tryd.ntmps32
 go_wp2
 go_quiet (fail)
 go_wp2
 refine spec_l01Src_n.still 11 βDa βDa ?_
 simp only [List.take_succ_cons, List.take_zero, List.drop_succ_cons, List.drop_zero]
 repeat still_step
 refine wpStill_nil ?_
 go_wp2
 obtain ⟨x1, hm1⟩ : ∃ x : Int, Go.bits .xor .u64 s0_2 (IntKind.u64.wrap (s0_2 * 8192)) = x := ⟨_, rfl⟩
 simp only [hm1]
 refine spec_l01Src_n.at_ (fun W1 hW1 => ?_)
 have HA1 : Aside0 (spec_l01Src_n.At w0 w W1 g s0_0 s0_1 x1 s0_3) := ⟨(by rw [← hW1]; repeat (first | exact HA.out | apply spec_l01Src_n.At.drewN | apply spec_l01Src_n.At.drew | apply spec_l01Src_n.At.set_2))⟩
 clear hW1 HA
 (try clear hc0); (try clear hc1); (try clear hc2); (try clear hf1); (try clear hf2); (try clear hx)
 obtain ⟨A1, c1, hblk1, _⟩ := HA1.out.1
 have hc2 : W1.cell? ⟨g, 2, none⟩ = some (.int .u64 x1) := (blk_cell hblk1 2).trans rfl
 have hf2 := blk_frozen hblk1 2
 have Hm1 := zA_ hm1
 clear hblk1 hm1
 refine spec_l01Src_n.still 11 βDa βDa ?_
 simp only [List.take_succ_cons, List.take_zero, List.drop_succ_cons, List.drop_zero]
 repeat still_step
 refine wpStill_nil ?_
 go_wp2
 obtain ⟨x2, hm2⟩ : ∃ x : Int, Go.bits .xor .u64 x1 (x1 / 128) = x := ⟨_, rfl⟩
 simp only [hm2]
 refine spec_l01Src_n.at_ (fun W2 hW2 => ?_)
 have HA2 : Aside0 (spec_l01Src_n.At w0 w W2 g s0_0 s0_1 x2 s0_3) := ⟨(by rw [← hW2]; repeat (first | exact HA1.out | apply spec_l01Src_n.At.drewN | apply spec_l01Src_n.At.drew | apply spec_l01Src_n.At.set_2))⟩
 clear hW2 HA1
 (try clear hc0); (try clear hc1); (try clear hc2); (try clear hf1); (try clear hf2); (try clear hx)
 obtain ⟨A2, c2, hblk2, _⟩ := HA2.out.1
 have hc2 : W2.cell? ⟨g, 2, none⟩ = some (.int .u64 x2) := (blk_cell hblk2 2).trans rfl
 have hf2 := blk_frozen hblk2 2
 have Hm2 := zA_ hm2
 clear hblk2 hm2
 refine spec_l01Src_n.still 11 βDa βDa ?_
 simp only [List.take_succ_cons, List.take_zero, List.drop_succ_cons, List.drop_zero]
 repeat still_step
 refine wpStill_nil ?_
 go_wp2
 go_ret
 have e3 : Go.bits .xor .u64 x2 (IntKind.u64.wrap (x2 * 131072)) = spec_l01Src_n.mix s0_2 := by rw [spec_l01Src_n.mix, spec_l01Src_n.m1, Hm1.out, spec_l01Src_n.m2, Hm2.out, spec_l01Src_n.m3]
 simp only [e3]
 have hfin : ∀ W, spec_l01Src_n.At w0 w W g s0_0 s0_1 (spec_l01Src_n.mix s0_2) s0_3 → IsS78 w0 W g s0_0 s0_1 (spec_l01Src_n.mix s0_2) s0_3 ∧ Below w0.heap.size w0 W ∧ KeepBut w W g none := fun W h => h
 refine ⟨?_, hfin _ ?_⟩
 · simp only [spec_l01Src_n.out]; first | done | rfl | (simp; done)
 · repeat (first | exact HA2.out | apply spec_l01Src_n.At.drewN | apply spec_l01Src_n.At.drew | apply spec_l01Src_n.At.set_2)
theorem spec_l01Src_n.near (g : Nat) (s0_0 : List Int) (s0_1 : Int) (s0_2 : Int) (s0_3 : Int) (a1 : Int) (w0 w : World) (hI : IsS78 w0 w g s0_0 s0_1 s0_2 s0_3) (hB : Below w0.heap.size w0 w) (h1 : decide (a1 ≤ 1) = false) (hz : ¬ (IntKind.u64.wrap a1 = 0)) (h2 : decide (s0_1 < (s0_0.length : Int)) = true) (h3 : 0 ≤ s0_1) :
 Calls Tryd.prog 32 #[.pointer (some ⟨g, 0, none⟩), .int .i64 a1] w (spec_l01Src_n.Post w0 w g s0_0 (spec_l01Src_n.out (IntKind.u64.wrap (rd s0_0 s0_1)) (spec_l01Src_n.mix s0_2) a1) (wrap64 (s0_1 + 1)) (spec_l01Src_n.mix s0_2) s0_3) := by
 have hu78 := Tryd.underlying78
 have HA := zA_ (show spec_l01Src_n.At w0 w w g s0_0 s0_1 s0_2 s0_3 from ⟨hI, hB, KeepBut.refl w g none⟩)
 obtain ⟨A0, c0, hblk, hge, hrd⟩ := hI
 have hc0 : w.cell? ⟨g, 0, none⟩ = some (.slice A0 s0_0.length c0) := (blk_cell hblk 0).trans rfl
 have hc1 : w.cell? ⟨g, 1, none⟩ = some (.int .i64 s0_1) := (blk_cell hblk 1).trans rfl
 have hc2 : w.cell? ⟨g, 2, none⟩ = some (.int .u64 s0_2) := (blk_cell hblk 2).trans rfl
 have hf1 := blk_frozen hblk 1
 have hf2 := blk_frozen hblk 2
 have q0 : s0_1 < (s0_0.length : Int) := of_decide_eq_true h2
 obtain ⟨ad, ea, hx⟩ := Kd.at_int hrd s0_1 h3 q0
 cases ea
 replace hx := (hB.cell (World.block_lt_of_cell? _ _ hx)).trans hx
 clear hblk hge hrd hB
 have h3' : decide (0 ≤ s0_1) = true := decide_eq_true h3
 go_enter Tryd.func32, Tryd.ntmps32
 go_wp2
 go_quiet (fail)
 go_wp2
 go_quiet (fail)
 go_wp2
 refine spec_l01Src_n.at_ (fun wa hW0 => ?_)
 have HA0 : Aside0 (spec_l01Src_n.At w0 w wa g s0_0 (wrap64 (s0_1 + 1)) s0_2 s0_3) := ⟨(by rw [← hW0]; repeat (first | exact HA.out | apply spec_l01Src_n.At.drewN | apply spec_l01Src_n.At.drew | apply spec_l01Src_n.At.set_1))⟩
 clear hW0 HA hc0 hc1 hc2 hf1 hf2 hx
 have HA := HA0
 clear HA0
 obtain ⟨A0, c0, hblk, _⟩ := HA.out.1
 have hc2 : wa.cell? ⟨g, 2, none⟩ = some (.int .u64 s0_2) := (blk_cell hblk 2).trans rfl
 have hf2 := blk_frozen hblk 2
 clear hblk
 refine spec_l01Src_n.still 11 βDa βDa ?_
 simp only [List.take_succ_cons, List.take_zero, List.drop_succ_cons, List.drop_zero]
 repeat still_step
 refine wpStill_nil ?_
 go_wp2
 obtain ⟨x1, hm1⟩ : ∃ x : Int, Go.bits .xor .u64 s0_2 (IntKind.u64.wrap (s0_2 * 8192)) = x := ⟨_, rfl⟩
 simp only [hm1]
 refine spec_l01Src_n.at_ (fun W1 hW1 => ?_)
 have HA1 : Aside0 (spec_l01Src_n.At w0 w W1 g s0_0 (wrap64 (s0_1 + 1)) x1 s0_3) := ⟨(by rw [← hW1]; repeat (first | exact HA.out | apply spec_l01Src_n.At.drewN | apply spec_l01Src_n.At.drew | apply spec_l01Src_n.At.set_2))⟩
 clear hW1 HA
 (try clear hc0); (try clear hc1); (try clear hc2); (try clear hf1); (try clear hf2); (try clear hx)
 obtain ⟨A1, c1, hblk1, _⟩ := HA1.out.1
 have hc2 : W1.cell? ⟨g, 2, none⟩ = some (.int .u64 x1) := (blk_cell hblk1 2).trans rfl
 have hf2 := blk_frozen hblk1 2
 have Hm1 := zA_ hm1
 clear hblk1 hm1
 refine spec_l01Src_n.still 11 βDa βDa ?_
 simp only [List.take_succ_cons, List.take_zero, List.drop_succ_cons, List.drop_zero]
 repeat still_step
 refine wpStill_nil ?_
 go_wp2
 obtain ⟨x2, hm2⟩ : ∃ x : Int, Go.bits .xor .u64 x1 (x1 / 128) = x := ⟨_, rfl⟩
 simp only [hm2]
 refine spec_l01Src_n.at_ (fun W2 hW2 => ?_)
 have HA2 : Aside0 (spec_l01Src_n.At w0 w W2 g s0_0 (wrap64 (s0_1 + 1)) x2 s0_3) := ⟨(by rw [← hW2]; repeat (first | exact HA1.out | apply spec_l01Src_n.At.drewN | apply spec_l01Src_n.At.drew | apply spec_l01Src_n.At.set_2))⟩
 clear hW2 HA1
 (try clear hc0); (try clear hc1); (try clear hc2); (try clear hf1); (try clear hf2); (try clear hx)
 obtain ⟨A2, c2, hblk2, _⟩ := HA2.out.1
 have hc2 : W2.cell? ⟨g, 2, none⟩ = some (.int .u64 x2) := (blk_cell hblk2 2).trans rfl
 have hf2 := blk_frozen hblk2 2
 have Hm2 := zA_ hm2
 clear hblk2 hm2
 refine spec_l01Src_n.still 11 βDa βDa ?_
 simp only [List.take_succ_cons, List.take_zero, List.drop_succ_cons, List.drop_zero]
 repeat still_step
 refine wpStill_nil ?_
 go_wp2
 go_ret
 have e3 : Go.bits .xor .u64 x2 (IntKind.u64.wrap (x2 * 131072)) = spec_l01Src_n.mix s0_2 := by rw [spec_l01Src_n.mix, spec_l01Src_n.m1, Hm1.out, spec_l01Src_n.m2, Hm2.out, spec_l01Src_n.m3]
 simp only [e3]
 have hfin : ∀ W, spec_l01Src_n.At w0 w W g s0_0 (wrap64 (s0_1 + 1)) (spec_l01Src_n.mix s0_2) s0_3 → IsS78 w0 W g s0_0 (wrap64 (s0_1 + 1)) (spec_l01Src_n.mix s0_2) s0_3 ∧ Below w0.heap.size w0 W ∧ KeepBut w W g none := fun W h => h
 refine ⟨?_, hfin _ ?_⟩
 · simp only [spec_l01Src_n.out]; first | done | rfl | (simp; done)
 · repeat (first | exact HA2.out | apply spec_l01Src_n.At.drewN | apply spec_l01Src_n.At.drew | apply spec_l01Src_n.At.set_2)
theorem spec_l01Src_n.calls (g : Nat) (s0_0 : List Int) (s0_1 : Int) (s0_2 : Int) (s0_3 : Int) (a1 : Int) (r1 : Int) (r2 : Int) (r3 : Int) (r4 : Int) (w0 w : World) (hI : IsS78 w0 w g s0_0 s0_1 s0_2 s0_3) (hB : Below w0.heap.size w0 w) (h : spec_l01Src_n.f s0_0 s0_1 s0_2 s0_3 a1 = some (r1, r2, r3, r4)) :
 Calls Tryd.prog 32 #[.pointer (some ⟨g, 0, none⟩), .int .i64 a1] w fun e w' => e = .returned (.int .i64 r1) ∧ IsS78 w0 w' g s0_0 r2 r3 r4 ∧ Below w0.heap.size w0 w' ∧ KeepBut w w' g none := by
 unfold spec_l01Src_n.f at h
 by_cases h1 : a1 ≤ 1
 · rw [if_pos h1] at h
   simp only [Option.some.injEq, Prod.mk.injEq] at h
   obtain ⟨rfl, rfl, rfl, rfl⟩ := h
   have HI := zA_ hI
   have HB := zA_ hB
   clear hI hB
   have h1' : decide (a1 ≤ 1) = true := decide_eq_true h1
   clear h1
   go_enter Tryd.func32, Tryd.ntmps32
   go_wp2
   go_ret
   exact ⟨rfl, HI.out, HB.out, KeepBut.refl w g none⟩
 · rw [if_neg h1] at h
   by_cases hz : IntKind.u64.wrap a1 = 0
   · rw [if_pos hz] at h; cases h
   · rw [if_neg hz] at h
     by_cases h2 : s0_1 < (s0_0.length : Int)
     · rw [if_pos h2] at h
       by_cases h3 : 0 ≤ s0_1
       · rw [if_pos h3] at h
         simp only [Option.some.injEq, Prod.mk.injEq] at h
         obtain ⟨rfl, rfl, rfl, rfl⟩ := h
         exact spec_l01Src_n.near g s0_0 s0_1 s0_2 s0_3 a1 w0 w hI hB (decide_eq_false h1) hz (decide_eq_true h2) h3
       · rw [if_neg h3] at h; cases h
     · rw [if_neg h2] at h
       simp only [Option.some.injEq, Prod.mk.injEq] at h
       obtain ⟨rfl, rfl, rfl, rfl⟩ := h
       exact spec_l01Src_n.far g s0_0 s0_1 s0_2 s0_3 a1 w0 w hI hB (decide_eq_false h1) hz (decide_eq_false h2)
def spec_l01Src_bytes.l0 : Nat → Int → List Int → Int → List Int → Int → Int → Int → Option (ByteArray × Int × Int × Int)
 | 0, _, _, _, _, _, _, _ => none
 | k + 1, x1, x5, x6, x1000, x1001, x1002, x1003 => if x6 < x1 then ((spec_l01Src_n.f x1000 x1001 x1002 x1003 256).bind fun bt163 => (if x5.length < 140737488355328 then (spec_l01Src_bytes.l0 k x1 (x5 ++ [(bt163.1) % 256]) (wrap64 (x6 + 1)) x1000 bt163.2.1 bt163.2.2.1 bt163.2.2.2) else (none))) else (some (strOfNums x5, x1001, x1002, x1003))
def spec_l01Src_bytes.f (k : Nat) (s0_0 : List Int) (s0_1 : Int) (s0_2 : Int) (s0_3 : Int) (a1 : Int) : Option (ByteArray × Int × Int × Int) := spec_l01Src_bytes.l0 k a1 (([] : List Int)) 0 s0_0 s0_1 s0_2 s0_3
theorem spec_l01Src_bytes.calls (k : Nat) (g : Nat) (s0_0 : List Int) (s0_1 : Int) (s0_2 : Int) (s0_3 : Int) (a1 : Int) (r1 : ByteArray) (r2 : Int) (r3 : Int) (r4 : Int) (w0 w : World) (hI : IsS78 w0 w g s0_0 s0_1 s0_2 s0_3) (hB : Below w0.heap.size w0 w) (h : spec_l01Src_bytes.f k s0_0 s0_1 s0_2 s0_3 a1 = some (r1, r2, r3, r4)) :
 Calls Tryd.prog 31 #[.pointer (some ⟨g, 0, none⟩), .int .i64 a1] w fun e w' => e = .returned (.string r1) ∧ IsS78 w0 w' g s0_0 r2 r3 r4 ∧ Below w0.heap.size w0 w' ∧ KeepBut w w' g none := by
 have HI0 := zA_ hI
 have HK := zA_ (KeepBut.refl w g none)
 have HL := zA_ hB.size
 clear hI
 have HW0 := zA_ hB.size
 have HB := zA_ hB
 clear hB
 have H : (spec_l01Src_bytes.l0 k a1 (([] : List Int)) 0 s0_0 s0_1 s0_2 s0_3) = some (r1, r2, r3, r4) := h
 clear h
 obtain ⟨y160, hy160⟩ : ∃ y_ : List Int, y_ = (([] : List Int)) := ⟨_, rfl⟩
 replace H : (spec_l01Src_bytes.l0 k a1 y160 0 s0_0 s0_1 s0_2 s0_3) = some (r1, r2, r3, r4) := by first | (rw [hy160]; with_reducible exact H) | (have H2_ := (Option.bind_some _ _).symm.trans H; rw [hy160]; with_reducible exact H2_) | (have H2_ := (Option.bind_some _ _).symm.trans H; with_reducible exact H2_) | with_reducible exact H | (rw [hy160]; exact H) | exact H
 have Ny160 := zA_ hy160
 clear hy160
 have H' := zA_ H
 clear H
 go_enter Tryd.func31, Tryd.ntmps31
 go_wp2_with (first | ((with_reducible refine gate_dst (N := 7) rfl ?_); refine Kd.R_lit (Kd.int .u8) _ 5 ?hg (N := 7) ?hd (xs := ([] : List Int)) (inner := []) (ok := fun _ => True) (okp := fun _ => True) ?hr ?hp (fun _ hk => hk) trivial (Below.refl _ _) (Nat.le_refl _) (by simp) ?_; (case hd => exact (by rfl)); (case hg => exact (by rfl)); (case hr => exact βAa); (case hp => exact (Reps.none _ _)); intro v161 w3 ho4 hb hg_ hnew_; clear hg_ hnew_; (first | rw [← Ny160.out] at ho4 | (simp only [Int.reduceToNat] at ho4; rw [← Ny160.out] at ho4)); have n0_ := zA_ (Kd.R_lower ho4 (keep_size (w := w) (g := g) (row := none) βja)); have n1_ := zA_ (IsS78.below βA hb); have n2_ := zA_ (KeepBut.trans βja (KeepBut.of_below hb g none) (.inl rfl)); have n3_ := zA_ (below_step βH hb); clear HI0 HK HB; have HO162 := n0_; have HI0 := n1_; have HK := n2_; have HB := n3_; clear n0_ n1_ n2_ n3_; clear hb ho4))
 go_loopg [5, 6] k (fun kq v5 v6 w' => ∃ (x5_1 : List Int) (x6_1 : Int) (x1001_1 : Int) (x1002_1 : Int) (x1003_1 : Int), v6 = .int .i64 x6_1 ∧ Aside0 (spec_l01Src_bytes.l0 kq a1 x5_1 x6_1 s0_0 x1001_1 x1002_1 x1003_1 = some (r1, r2, r3, r4)) ∧ Aside0 (kq ≤ k) ∧ Aside0 (Kd.R (Kd.int .u8) 5 w' w.heap.size (fun _ => True) v5 x5_1) ∧ Aside0 (IsS78 w0 w' g s0_0 x1001_1 x1002_1 x1003_1) ∧ Aside0 (KeepBut w w' g none) ∧ Aside0 (Below w0.heap.size w0 w'))
 case atStart => exact ⟨(y160), (0), (s0_1), (s0_2), (s0_3), βya, H', ⟨Nat.le_refl _⟩, ⟨zr_ HO162.out⟩, ⟨βA⟩, ⟨βja⟩, ⟨βH⟩⟩
 case round =>
  clear H'
  try clear p2
  try clear c3
  obtain ⟨x5_1, x6_1, x1001_1, x1002_1, x1003_1, rfl, HA, HK1, HO_5, HI0, HK, HB⟩ := hrel
  cases gk with
  | zero => exact absurd HA.out (by simp [spec_l01Src_bytes.l0])
  | succ k1 =>
   have H := HA.out
   clear HA
   simp only [spec_l01Src_bytes.l0] at H
   by_cases c5 : x6_1 < a1
   · rw [if_pos c5] at H
     have c5b0 : decide (x6_1 < a1) = true := decide_eq_true c5
     clear c5
     replace H := Option.bind_eq_some_iff.mp H
     obtain ⟨⟨t163, t164, t165, t166⟩, A60, H⟩ := H
     replace H : (if x5_1.length < 140737488355328 then (spec_l01Src_bytes.l0 k1 a1 (x5_1 ++ [(t163) % 256]) (wrap64 (x6_1 + 1)) s0_0 t164 t165 t166) else (none)) = some (r1, r2, r3, r4) := H
     have A6 := zA_ A60
     clear A60
     by_cases c7 : x5_1.length < 140737488355328
     · rw [if_pos c7] at H
       have LMc7 := zA_ c7
       clear c7
       obtain ⟨y167, hy167⟩ : ∃ y_ : List Int, y_ = (x5_1 ++ [(t163) % 256]) := ⟨_, rfl⟩
       replace H : (spec_l01Src_bytes.l0 k1 a1 y167 (wrap64 (x6_1 + 1)) s0_0 t164 t165 t166) = some (r1, r2, r3, r4) := by first | (rw [hy167]; with_reducible exact H) | (have H2_ := (Option.bind_some _ _).symm.trans H; rw [hy167]; with_reducible exact H2_) | (have H2_ := (Option.bind_some _ _).symm.trans H; with_reducible exact H2_) | with_reducible exact H | (rw [hy167]; exact H) | exact H
       have Ny167 := zA_ hy167
       clear hy167
       have H' := zA_ H
       clear H
       go_wp2_with (first | ((with_reducible refine gate_callee (f := 32) rfl ?_); refine goesL_ (some 15) rfl rfl Tryd.func32 βDa rfl #[.pointer (some ⟨g, 0, none⟩), .int .i64 256] rfl zs_ ?_; (with_reducible refine (spec_l01Src_n.calls g s0_0 x1001_1 x1002_1 x1003_1 256 t163 t164 t165 t166 w0 _ ?side1 ?side2 A6.out).mono ?_); (case side1 => exact βA); (case side2 => exact βH); rintro e w8 ⟨rfl, hi, hb, hk⟩; refine ⟨_, rfl, ?_⟩; have n0_ := zA_ (Kd.R_mono (Kd.R_keep (IsS78.apart (show IsS78 w0 _ g s0_0 x1001_1 x1002_1 x1003_1 from by repeat (first | (with_reducible first | exact HI0.out | apply IsS78.alloc | apply IsS78.drewN | apply IsS78.drew | apply IsS78.set_1 | apply IsS78.set_2 | apply IsS78.set_3) | exact HI0.out)) (zr_ HO_5.out) (by decide)) hk (fun _ h => h.2)) (fun _ h => h.1)); have n1_ := zA_ (KeepBut.trans βja hk (.inl rfl)); have n2_ := zA_ (hb); have n3_ := zA_ (hi); clear HO_5 HK HB HI0; have HO_5 := n0_; have HK := n1_; have HB := n2_; have HI0 := n3_; clear n0_ n1_ n2_ n3_; (try clear hb); (try clear hb2); (try clear hk); (try clear hi)) | ((with_reducible refine gate_builtin (b := .append) (xs := #[.tmp 13, .tmp 17]) rfl ?_); at_builtin; refine Kd.R_append (Kd.int .u8) w.heap.size rfl (.tmp 13) (.tmp 17) 24 5 (.int .u8 0) 1 rfl Tryd.underlying24 info5 rfl (by decide) (by omega) u5 x5_1 ((t163) % 256) [.int .u8 ((t163) % 256)] (fun _ => True) (fun _ => False) rfl rfl ?aP (fun _ hk => hk.elim) ?aF ?aO (Below.refl _ _) ?aS ?aL ?_; (case aP => exact rfl); (case aF => exact (fun _ _ => trivial)); (case aO => exact (zr_ HO_5.out)); (case aS => exact (keep_size (w := w) (g := g) (row := none) βja)); (case aL => exact (by have := LMc7.out; omega)); intro v168 w9 ho hb hg hat; rw [← Ny167.out] at ho; have n0_ := zA_ (IsS78.grown βA hg (IsS78.own_ne HI0.out HO_5.out (by decide))); have n1_ := zA_ (below_weaken βH HL.out hb); have n2_ := zA_ (KeepBut.trans βja (KeepBut.of_grown hg g) (Kd.R_base2 HO_5.out)); have n3_ := zA_ (ho); clear HI0 HB HK HO_5; have HI0 := n0_; have HB := n1_; have HK := n2_; have HO169 := n3_; clear n0_ n1_ n2_ n3_; clear ho hb hg hat))
       go_roundg k1
       case measure => have := HK1.out; omega
       case rel => exact ⟨(y167), (wrap64 (x6_1 + 1)), (t164), (t165), (t166), βya, H', ⟨βCa⟩, ⟨zr_ HO169.out⟩, ⟨βA⟩, ⟨βja⟩, ⟨βH⟩⟩
     · rw [if_neg c7] at H
       exact absurd H (by simp)
   · rw [if_neg c5] at H
     have c5b0 : decide (x6_1 < a1) = false := decide_eq_false c5
     clear c5
     simp only [Option.some.injEq, Prod.mk.injEq] at H
     obtain ⟨rfl, rfl, rfl, rfl⟩ := H
     have hcv10 := own_string (P := Tryd.prog) Tryd.underlying24 Tryd.underlying5 Tryd.underlying9 (Kd.own_of_R HO_5.out)
     go_wp2
     go_ret
     exact ⟨βsa, βA, βH, βja⟩
end Go.Proofs.YtldhjbjbjoomcaaDoor.Q
namespace Go.Proofs.YtldhjbjbjoomcaaDoor.Pure
set_option linter.unusedVariables false
set_option linter.unusedSimpArgs false
open Go Go.RowKit Go.Proofs.YtldhjbjbjoomcaaDoorW.PrintWords Go.Proofs.YtldhjbjbjoomcaaDoorW.PrintLast Go.Proofs.YtldhjbjbjoomcaaDoorW.PrintMore
theorem wrap64_id {n : Int} (h0 : -9223372036854775808 ≤ n) (h1 : n ≤ 9223372036854775807) : wrap64 n = n := by
  unfold wrap64; omega
theorem wrap_u64 (n : Int) : IntKind.u64.wrap n = n % 18446744073709551616 := by simp [IntKind.wrap, IntKind.bits, IntKind.signed]
theorem wrap_u64_id {n : Int} (h0 : 0 ≤ n) (h1 : n < 18446744073709551616) : IntKind.u64.wrap n = n := by rw [wrap_u64]; omega
theorem bt_nonneg (s : ByteArray) (i : Int) : 0 ≤ bt s i := (bt_range s i).1
theorem bt_le (s : ByteArray) (i : Int) : bt s i ≤ 255 := (bt_range s i).2
theorem toList_data (s : ByteArray) : s.toList = s.data.toList := ByteArray.toList_eq s
theorem toList_inj {a b : ByteArray} (h : a.toList = b.toList) : a = b := by
  rw [toList_data, toList_data] at h
  cases a; cases b
  simpa using h
theorem Ev.ok {α : Type} {g : Nat → Option α} {r : α} {K : Nat} (h : ∀ k, K ≤ k → g k = some r) : Ev g r := ⟨K, h⟩
theorem Ev.bind1 {α β : Type} {g : Option α} {f : Nat → α → Option β} {a : α} {r : β} (h : g = some a) (k : Ev (fun n => f n a) r) : Ev (fun n => g.bind (f n)) r := by
  subst h
  exact k
theorem snoc_app {α : Type} (p : List α) (a : α) (r : List α) : p ++ a :: r = (p ++ [a]) ++ r := by simp
theorem lt_mid {α : Type} (p : List α) (a : α) (r : List α) : (p.length : Int) < ((p ++ a :: r).length : Int) := by rw [List.length_append, List.length_cons]; omega
theorem not_lt_end {α : Type} (p : List α) : ¬ (p.length : Int) < ((p ++ []).length : Int) := by rw [List.append_nil]; omega
theorem next64 {i : Nat} (h : i < 9223372036854775807) : wrap64 ((i : Int) + 1) = ((i + 1 : Nat) : Int) := by rw [wrap64_id (by omega) (by omega)]; omega
end Go.Proofs.YtldhjbjbjoomcaaDoor.Pure
namespace Go.Proofs.YtldhjbjbjoomcaaDoor.Pure
set_option linter.unusedVariables false
set_option linter.unusedSimpArgs false
open Go Go.RowKit Go.Proofs.YtldhjbjbjoomcaaDoor.Q Go.Proofs.YtldhjbjbjoomcaaDoorW.PrintWords Go.Proofs.YtldhjbjbjoomcaaDoorW.PrintLast Go.Proofs.YtldhjbjbjoomcaaDoorW.PrintMore
def St (b : List Int) (i : Int) : Prop := 0 ≤ i ∧ i ≤ b.length ∧ b.length ≤ 1048576
theorem out_range (v m a : Int) (ha : 1 < a) (h : a ≤ 9223372036854775807) : 0 ≤ spec_l01Src_n.out v m a ∧ spec_l01Src_n.out v m a < a := by
  unfold spec_l01Src_n.out
  have h0 : 0 ≤ IntKind.u64.wrap (v + m / 1048576) := by rw [wrap_u64]; omega
  rw [wrap_u64_id (n := a) (by omega) (by omega)]
  generalize IntKind.u64.wrap (v + m / 1048576) = x at h0
  have h1 : 0 ≤ Int.tmod x a := Int.tmod_nonneg _ h0
  have h2 : Int.tmod x a < a := Int.tmod_lt_of_pos _ (by omega)
  rw [wrap64_id (by omega) (by omega)]
  exact ⟨h1, h2⟩
theorem draw_n (b : List Int) (i m s a : Int) (h : St b i) (ha : a ≤ 9223372036854775807) :
    ∃ r i' m', spec_l01Src_n.f b i m s a = some (r, i', m', s) ∧ St b i' ∧ 0 ≤ r ∧ (a ≤ 1 → r = 0) ∧ (1 < a → r < a) := by
  obtain ⟨h0, h1, h2⟩ := h
  unfold spec_l01Src_n.f
  by_cases g : a ≤ 1
  · exact ⟨0, i, m, by rw [if_pos g], ⟨h0, h1, h2⟩, by omega, fun _ => rfl, fun _ => by omega⟩
  · rw [if_neg g, if_neg (by rw [wrap_u64_id (by omega) (by omega)]; omega)]
    by_cases g2 : i < (b.length : Int)
    · have := out_range (IntKind.u64.wrap (rd b i)) (spec_l01Src_n.mix m) a (by omega) ha
      exact ⟨_, _, _, by rw [if_pos g2, if_pos h0, wrap64_id (by omega) (by omega)], ⟨by omega, by omega, h2⟩, this.1, fun _ => by omega, fun _ => this.2⟩
    · have := out_range 0 (spec_l01Src_n.mix m) a (by omega) ha
      exact ⟨_, _, _, by rw [if_neg g2], ⟨h0, h1, h2⟩, this.1, fun _ => by omega, fun _ => this.2⟩
theorem source_l0 (N : Nat) (hN : N ≤ 1048576) (l : List Int) (hl : l.length = N) (d : Nat) : ∀ (i : Nat) (m : Int), i + d = N → ∃ m' s', 0 ≤ s' ∧ s' ≤ 12 ∧ Ev (fun k => spec_l01Source.l0 k l (i : Int) l 0 m 0) (l, 0, m', s') := by
  have fin : ∀ m : Int, ∃ m' s', 0 ≤ s' ∧ s' ≤ 12 ∧ Ev (fun _ => (if (wrap64 ((l.length : Int) / 20)) > 12 then (some (l, (0 : Int), m, (12 : Int))) else (some (l, 0, m, wrap64 ((l.length : Int) / 20))))) (l, 0, m', s') := by
    intro m
    rw [wrap64_id (by omega) (by omega)]
    by_cases g : (l.length : Int) / 20 > 12
    · exact ⟨m, 12, by omega, by omega, by rw [if_pos g]; exact Ev.now _⟩
    · exact ⟨m, (l.length : Int) / 20, by omega, by omega, by rw [if_neg g]; exact Ev.now _⟩
  induction d with
  | zero =>
    intro i m h
    obtain ⟨m', s', a, b, e⟩ := fin m
    exact ⟨m', s', a, b, Ev.step (fun k => by rw [spec_l01Source.l0, if_neg (by omega)]) e⟩
  | succ d ih =>
    intro i m h
    by_cases g : (i : Int) < 64
    · obtain ⟨m', s', a, b, e⟩ := ih (i + 1) (IntKind.u64.wrap ((Go.bits .xor .u64 m (IntKind.u64.wrap (rd l (i : Int)))) * 1099511628211)) (by omega)
      exact ⟨m', s', a, b, Ev.step (fun k => by rw [spec_l01Source.l0, if_pos (by omega), if_pos g, if_pos (by omega), next64 (by omega)]) e⟩
    · obtain ⟨m', s', a, b, e⟩ := fin m
      exact ⟨m', s', a, b, Ev.step (fun k => by rw [spec_l01Source.l0, if_pos (by omega), if_neg g]) e⟩
theorem draw_source (l : List Int) (h : l.length ≤ 1048576) : ∃ m s, 0 ≤ s ∧ s ≤ 12 ∧ St l 0 ∧ Ev (fun k => spec_l01Source.f k l) (l, 0, m, s) := by
  obtain ⟨m, s, a, b, e⟩ := source_l0 l.length h l rfl l.length 0 88172645463325252 (by omega)
  exact ⟨m, s, a, b, ⟨by omega, by omega, h⟩, e⟩
end Go.Proofs.YtldhjbjbjoomcaaDoor.Pure
