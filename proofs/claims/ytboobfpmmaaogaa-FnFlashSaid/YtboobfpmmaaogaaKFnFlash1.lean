/- What is written is read, no other sector is turned; what is synced stays when the power goes; an unsynced sector is then what it was, what was written, or a beginning of it; for every draw. Part 1. -/
import Derived.Test.YtboobfpmmaaogaaKFnFlash0
import Derived.Test.YtboobfpmmaaogaaProg
import Derived.StillTailTactics
import Derived.Lib.Bytealg
import Derived.Shelf.Abstract
import Derived.Lib.SliceRun
namespace Go.Proofs.Ytboobfpmmaaogaa.Q
open Go.RowKit Go.Proofs.YtboobfpmmaaogaaW.PrintWords Go.Proofs.YtboobfpmmaaogaaW.PrintLast Go.Proofs.YtboobfpmmaaogaaW.PrintMore
attribute [local go_sem] max2_int min2_int max_two min_two max_three min_three max_four min_four Instr.field asAgg
set_option linter.unusedVariables false
set_option linter.unusedSimpArgs false
def mrGo_ : Bool → List Nat → List Bool
  | _, [] => []
  | b, n :: l => List.replicate n b ++ mrGo_ (!b) l
abbrev mr_ (l : List Nat) : Array Bool := (mrGo_ true l).toArray
theorem zb_ {P Q : Prop} (h : Q) (f : Q → P := by intro h; (with_reducible repeat (first | refine blk_drewN ?_ _ | refine blk_drew ?_ | refine blk_alloc ?_ _)); exact h) : P := f h
theorem zr_ {P Q : Prop} (h : Q) (f : Q → P := by intro h; (with_reducible repeat (first | apply Kd.R_alloc | apply Kd.R_drewN | apply Kd.R_drew)); exact h) : P := f h
theorem zh_ {P Q : Prop} (h : Q) (f : Q → P := by intro h; repeat (first | (with_reducible first | exact h | apply below_alloc | apply pw_below_drewN | apply below_drew1) | exact h)) : P := f h
theorem zc_ {P Q : Prop} (h : Q) (f : Q → P := by intro h; repeat (first | exact h | (with_reducible refine Kd.C_alloc ?_ _) | (with_reducible refine Kd.C_drewN ?_ _) | (with_reducible refine Kd.C_drew ?_))) : P := f h
theorem zs_ {P : Prop} (h : P := by (try simp only [List.map_toArray, List.map_cons, List.map_nil]); first | done | rfl | (simp only [List.length_drop, List.length_take]; rfl)) : P := h
theorem zg1_ {P Q G0 : Prop} (h : Q) (g0 : G0) (f : Q → G0 → P := by intro h g0; repeat (first | (with_reducible first | exact h | apply below_alloc | apply pw_below_drewN | apply below_drew1 | refine below_set ?_ g0) | exact h)) : P := f h g0
theorem zg2_ {P Q G0 G1 : Prop} (h : Q) (g0 : G0) (g1 : G1) (f : Q → G0 → G1 → P := by intro h g0 g1; repeat (first | (with_reducible first | exact h | apply below_alloc | apply pw_below_drewN | apply below_drew1 | refine below_set ?_ g0 | refine below_set ?_ g1) | exact h)) : P := f h g0 g1
theorem zg3_ {P Q G0 G1 G2 : Prop} (h : Q) (g0 : G0) (g1 : G1) (g2 : G2) (f : Q → G0 → G1 → G2 → P := by intro h g0 g1 g2; repeat (first | (with_reducible first | exact h | apply below_alloc | apply pw_below_drewN | apply below_drew1 | refine below_set ?_ g0 | refine below_set ?_ g1 | refine below_set ?_ g2) | exact h)) : P := f h g0 g1 g2
theorem zg4_ {P Q G0 G1 G2 G3 : Prop} (h : Q) (g0 : G0) (g1 : G1) (g2 : G2) (g3 : G3) (f : Q → G0 → G1 → G2 → G3 → P := by intro h g0 g1 g2 g3; repeat (first | (with_reducible first | exact h | apply below_alloc | apply pw_below_drewN | apply below_drew1 | refine below_set ?_ g0 | refine below_set ?_ g1 | refine below_set ?_ g2 | refine below_set ?_ g3) | exact h)) : P := f h g0 g1 g2 g3
theorem zg5_ {P Q G0 G1 G2 G3 G4 : Prop} (h : Q) (g0 : G0) (g1 : G1) (g2 : G2) (g3 : G3) (g4 : G4) (f : Q → G0 → G1 → G2 → G3 → G4 → P := by intro h g0 g1 g2 g3 g4; repeat (first | (with_reducible first | exact h | apply below_alloc | apply pw_below_drewN | apply below_drew1 | refine below_set ?_ g0 | refine below_set ?_ g1 | refine below_set ?_ g2 | refine below_set ?_ g3 | refine below_set ?_ g4) | exact h)) : P := f h g0 g1 g2 g3 g4
theorem zg6_ {P Q G0 G1 G2 G3 G4 G5 : Prop} (h : Q) (g0 : G0) (g1 : G1) (g2 : G2) (g3 : G3) (g4 : G4) (g5 : G5) (f : Q → G0 → G1 → G2 → G3 → G4 → G5 → P := by intro h g0 g1 g2 g3 g4 g5; repeat (first | (with_reducible first | exact h | apply below_alloc | apply pw_below_drewN | apply below_drew1 | refine below_set ?_ g0 | refine below_set ?_ g1 | refine below_set ?_ g2 | refine below_set ?_ g3 | refine below_set ?_ g4 | refine below_set ?_ g5) | exact h)) : P := f h g0 g1 g2 g3 g4 g5
theorem zf1_ {P Q N0 : Prop} (n0 : N0) (h : Q) (f : N0 → Q → P := by intro n0 h; (with_reducible repeat (first | refine blk_drewN ?_ _ | refine blk_drew ?_ | refine blk_alloc ?_ _)); refine blk_far ?_ n0 _; (with_reducible repeat (first | refine blk_drewN ?_ _ | refine blk_drew ?_ | refine blk_alloc ?_ _)); exact h) : P := f n0 h
theorem zf2_ {P Q N0 N1 : Prop} (n0 : N0) (n1 : N1) (h : Q) (f : N0 → N1 → Q → P := by intro n0 n1 h; (with_reducible repeat (first | refine blk_drewN ?_ _ | refine blk_drew ?_ | refine blk_alloc ?_ _)); refine blk_far ?_ n0 _; (with_reducible repeat (first | refine blk_drewN ?_ _ | refine blk_drew ?_ | refine blk_alloc ?_ _)); refine blk_far ?_ n1 _; (with_reducible repeat (first | refine blk_drewN ?_ _ | refine blk_drew ?_ | refine blk_alloc ?_ _)); exact h) : P := f n0 n1 h
theorem zf3_ {P Q N0 N1 N2 : Prop} (n0 : N0) (n1 : N1) (n2 : N2) (h : Q) (f : N0 → N1 → N2 → Q → P := by intro n0 n1 n2 h; (with_reducible repeat (first | refine blk_drewN ?_ _ | refine blk_drew ?_ | refine blk_alloc ?_ _)); refine blk_far ?_ n0 _; (with_reducible repeat (first | refine blk_drewN ?_ _ | refine blk_drew ?_ | refine blk_alloc ?_ _)); refine blk_far ?_ n1 _; (with_reducible repeat (first | refine blk_drewN ?_ _ | refine blk_drew ?_ | refine blk_alloc ?_ _)); refine blk_far ?_ n2 _; (with_reducible repeat (first | refine blk_drewN ?_ _ | refine blk_drew ?_ | refine blk_alloc ?_ _)); exact h) : P := f n0 n1 n2 h
theorem zf4_ {P Q N0 N1 N2 N3 : Prop} (n0 : N0) (n1 : N1) (n2 : N2) (n3 : N3) (h : Q) (f : N0 → N1 → N2 → N3 → Q → P := by intro n0 n1 n2 n3 h; (with_reducible repeat (first | refine blk_drewN ?_ _ | refine blk_drew ?_ | refine blk_alloc ?_ _)); refine blk_far ?_ n0 _; (with_reducible repeat (first | refine blk_drewN ?_ _ | refine blk_drew ?_ | refine blk_alloc ?_ _)); refine blk_far ?_ n1 _; (with_reducible repeat (first | refine blk_drewN ?_ _ | refine blk_drew ?_ | refine blk_alloc ?_ _)); refine blk_far ?_ n2 _; (with_reducible repeat (first | refine blk_drewN ?_ _ | refine blk_drew ?_ | refine blk_alloc ?_ _)); refine blk_far ?_ n3 _; (with_reducible repeat (first | refine blk_drewN ?_ _ | refine blk_drew ?_ | refine blk_alloc ?_ _)); exact h) : P := f n0 n1 n2 n3 h
theorem zf5_ {P Q N0 N1 N2 N3 N4 : Prop} (n0 : N0) (n1 : N1) (n2 : N2) (n3 : N3) (n4 : N4) (h : Q) (f : N0 → N1 → N2 → N3 → N4 → Q → P := by intro n0 n1 n2 n3 n4 h; (with_reducible repeat (first | refine blk_drewN ?_ _ | refine blk_drew ?_ | refine blk_alloc ?_ _)); refine blk_far ?_ n0 _; (with_reducible repeat (first | refine blk_drewN ?_ _ | refine blk_drew ?_ | refine blk_alloc ?_ _)); refine blk_far ?_ n1 _; (with_reducible repeat (first | refine blk_drewN ?_ _ | refine blk_drew ?_ | refine blk_alloc ?_ _)); refine blk_far ?_ n2 _; (with_reducible repeat (first | refine blk_drewN ?_ _ | refine blk_drew ?_ | refine blk_alloc ?_ _)); refine blk_far ?_ n3 _; (with_reducible repeat (first | refine blk_drewN ?_ _ | refine blk_drew ?_ | refine blk_alloc ?_ _)); refine blk_far ?_ n4 _; (with_reducible repeat (first | refine blk_drewN ?_ _ | refine blk_drew ?_ | refine blk_alloc ?_ _)); exact h) : P := f n0 n1 n2 n3 n4 h
theorem zA_ {p : Prop} (h : p) : Aside0 p := Aside0.mk h
theorem pv_ {P : Prop} (h : P := by intro w'; go_simp; with_reducible rfl) : P := h
theorem pp_ {P : Prop} (h : P := by (simp only [Act.put, List.setIfInBounds_toArray, List.set_cons_zero, List.set_cons_succ, i64_w, i32_w]); rfl) : P := h
theorem cz_ {w : World} {g : Nat} {cs : Array Value} {t : TypeId} (h : w.heap[g]? = some (.cells cs t (0, 0))) (i : Nat) (v : Value) (e : cs[i]? = some v) : w.cell? ⟨g, i, none⟩ = some v := (blk_cell h i).trans e
theorem cy_ {w : World} {g : Nat} {cs : Array Value} {t : TypeId} (h : w.heap[g]? = some (.cells cs t (0, 0))) (i : Nat) {v : Value} (e : cs[i]? = some v := by rfl) : w.cell? ⟨g, i, none⟩ = some v := (blk_cell h i).trans e
theorem bc_ {w w' : World} {p : Addr} {v : Value} (hb : Below w.heap.size w w') (h : w.cell? p = some v) : w'.cell? p = some v := (hb.cell (World.block_lt_of_cell? _ _ h)).trans h
theorem zB_ {w0 w w1 : World} {g : Nat} {o : Obj} (h : w0.heap[g]? = some o) (hb : Below w.heap.size w w1) (f : w0.heap[g]? = some o → w.heap[g]? = some o := by intro h; (with_reducible repeat (first | refine blk_drewN ?_ _ | refine blk_drew ?_ | refine blk_alloc ?_ _)); exact h) : Aside0 (w1.heap[g]? = some o) := ⟨blk_below (f h) hb⟩
theorem zB1_ {w0 w w1 : World} {g : Nat} {o : Obj} {N0 : Prop} (n0 : N0) (h : w0.heap[g]? = some o) (hb : Below w.heap.size w w1) (f : N0 → w0.heap[g]? = some o → w.heap[g]? = some o := by intro n0 h; (with_reducible repeat (first | refine blk_drewN ?_ _ | refine blk_drew ?_ | refine blk_alloc ?_ _)); refine blk_far ?_ n0 _; (with_reducible repeat (first | refine blk_drewN ?_ _ | refine blk_drew ?_ | refine blk_alloc ?_ _)); exact h) : Aside0 (w1.heap[g]? = some o) := ⟨blk_below (f n0 h) hb⟩
theorem zB2_ {w0 w w1 : World} {g : Nat} {o : Obj} {N0 N1 : Prop} (n0 : N0) (n1 : N1) (h : w0.heap[g]? = some o) (hb : Below w.heap.size w w1) (f : N0 → N1 → w0.heap[g]? = some o → w.heap[g]? = some o := by intro n0 n1 h; (with_reducible repeat (first | refine blk_drewN ?_ _ | refine blk_drew ?_ | refine blk_alloc ?_ _)); refine blk_far ?_ n0 _; (with_reducible repeat (first | refine blk_drewN ?_ _ | refine blk_drew ?_ | refine blk_alloc ?_ _)); refine blk_far ?_ n1 _; (with_reducible repeat (first | refine blk_drewN ?_ _ | refine blk_drew ?_ | refine blk_alloc ?_ _)); exact h) : Aside0 (w1.heap[g]? = some o) := ⟨blk_below (f n0 n1 h) hb⟩
theorem zB3_ {w0 w w1 : World} {g : Nat} {o : Obj} {N0 N1 N2 : Prop} (n0 : N0) (n1 : N1) (n2 : N2) (h : w0.heap[g]? = some o) (hb : Below w.heap.size w w1) (f : N0 → N1 → N2 → w0.heap[g]? = some o → w.heap[g]? = some o := by intro n0 n1 n2 h; (with_reducible repeat (first | refine blk_drewN ?_ _ | refine blk_drew ?_ | refine blk_alloc ?_ _)); refine blk_far ?_ n0 _; (with_reducible repeat (first | refine blk_drewN ?_ _ | refine blk_drew ?_ | refine blk_alloc ?_ _)); refine blk_far ?_ n1 _; (with_reducible repeat (first | refine blk_drewN ?_ _ | refine blk_drew ?_ | refine blk_alloc ?_ _)); refine blk_far ?_ n2 _; (with_reducible repeat (first | refine blk_drewN ?_ _ | refine blk_drew ?_ | refine blk_alloc ?_ _)); exact h) : Aside0 (w1.heap[g]? = some o) := ⟨blk_below (f n0 n1 n2 h) hb⟩
theorem zB4_ {w0 w w1 : World} {g : Nat} {o : Obj} {N0 N1 N2 N3 : Prop} (n0 : N0) (n1 : N1) (n2 : N2) (n3 : N3) (h : w0.heap[g]? = some o) (hb : Below w.heap.size w w1) (f : N0 → N1 → N2 → N3 → w0.heap[g]? = some o → w.heap[g]? = some o := by intro n0 n1 n2 n3 h; (with_reducible repeat (first | refine blk_drewN ?_ _ | refine blk_drew ?_ | refine blk_alloc ?_ _)); refine blk_far ?_ n0 _; (with_reducible repeat (first | refine blk_drewN ?_ _ | refine blk_drew ?_ | refine blk_alloc ?_ _)); refine blk_far ?_ n1 _; (with_reducible repeat (first | refine blk_drewN ?_ _ | refine blk_drew ?_ | refine blk_alloc ?_ _)); refine blk_far ?_ n2 _; (with_reducible repeat (first | refine blk_drewN ?_ _ | refine blk_drew ?_ | refine blk_alloc ?_ _)); refine blk_far ?_ n3 _; (with_reducible repeat (first | refine blk_drewN ?_ _ | refine blk_drew ?_ | refine blk_alloc ?_ _)); exact h) : Aside0 (w1.heap[g]? = some o) := ⟨blk_below (f n0 n1 n2 n3 h) hb⟩
theorem zB5_ {w0 w w1 : World} {g : Nat} {o : Obj} {N0 N1 N2 N3 N4 : Prop} (n0 : N0) (n1 : N1) (n2 : N2) (n3 : N3) (n4 : N4) (h : w0.heap[g]? = some o) (hb : Below w.heap.size w w1) (f : N0 → N1 → N2 → N3 → N4 → w0.heap[g]? = some o → w.heap[g]? = some o := by intro n0 n1 n2 n3 n4 h; (with_reducible repeat (first | refine blk_drewN ?_ _ | refine blk_drew ?_ | refine blk_alloc ?_ _)); refine blk_far ?_ n0 _; (with_reducible repeat (first | refine blk_drewN ?_ _ | refine blk_drew ?_ | refine blk_alloc ?_ _)); refine blk_far ?_ n1 _; (with_reducible repeat (first | refine blk_drewN ?_ _ | refine blk_drew ?_ | refine blk_alloc ?_ _)); refine blk_far ?_ n2 _; (with_reducible repeat (first | refine blk_drewN ?_ _ | refine blk_drew ?_ | refine blk_alloc ?_ _)); refine blk_far ?_ n3 _; (with_reducible repeat (first | refine blk_drewN ?_ _ | refine blk_drew ?_ | refine blk_alloc ?_ _)); refine blk_far ?_ n4 _; (with_reducible repeat (first | refine blk_drewN ?_ _ | refine blk_drew ?_ | refine blk_alloc ?_ _)); exact h) : Aside0 (w1.heap[g]? = some o) := ⟨blk_below (f n0 n1 n2 n3 n4 h) hb⟩
theorem zR_ {α : Type} {d : Kd α} {e base : Nat} {ok : Nat → Prop} {v : Value} {xs : List α} {w0 w w1 : World} (h : d.R e w0 base ok v xs) (hb : Below w.heap.size w w1) (f : d.R e w0 base ok v xs → d.R e w base ok v xs := by intro h; (with_reducible repeat (first | apply Kd.R_alloc | apply Kd.R_drewN | apply Kd.R_drew)); exact h) : Aside0 (d.R e w1 base ok v xs) := ⟨Kd.R_below (f h) hb⟩
theorem zE_ {α : Type} {d : Kd α} {e base : Nat} {ok : Nat → Prop} {v : Value} {xs : List α} {w0 w w1 : World} {β : Type} {d' : Kd β} {e' : Nat} {ok' : Nat → Prop} {u : Value} {ys : List β} (h : d.R e w0 base ok v xs) (ho : d'.R e' w1 w.heap.size ok' u ys) (hb : Below w.heap.size w w1) (f : d.R e w0 base ok v xs → d.R e w base ok v xs := by intro h; (with_reducible repeat (first | apply Kd.R_alloc | apply Kd.R_drewN | apply Kd.R_drew)); exact h) : Aside0 (d.R e w1 base (fun k => ok k ∧ some k ≠ u.ownBlock) v xs) := ⟨Kd.R_elder' (f h) (Kd.R_base ho) hb⟩
theorem βa {P : Prop} (h : P := by (with_reducible repeat (first | refine blk_drewN ?_ _ | refine blk_drew ?_ | refine blk_alloc ?_ _)); refine blk_put (cs := #[.slice none 0 0, .slice none 0 0, .string (⟨#[]⟩ : ByteArray), .int .i64 0]) ?_ 3 _ rfl; (with_reducible repeat (first | refine blk_drewN ?_ _ | refine blk_drew ?_ | refine blk_alloc ?_ _)); refine blk_put (cs := #[.slice none 0 0, .slice none 0 0, .string (⟨#[]⟩ : ByteArray), .int .i64 0]) ?_ 2 _ rfl; (with_reducible repeat (first | refine blk_drewN ?_ _ | refine blk_drew ?_ | refine blk_alloc ?_ _)); refine blk_put (cs := #[.slice none 0 0, .slice none 0 0, .string (⟨#[]⟩ : ByteArray), .int .i64 0]) ?_ 1 _ rfl; (with_reducible repeat (first | refine blk_drewN ?_ _ | refine blk_drew ?_ | refine blk_alloc ?_ _)); refine blk_put (cs := #[.slice none 0 0, .slice none 0 0, .string (⟨#[]⟩ : ByteArray), .int .i64 0]) ?_ 0 _ rfl; (with_reducible repeat (first | refine blk_drewN ?_ _ | refine blk_drew ?_ | refine blk_alloc ?_ _)); exact BK552.out) : P := h
theorem βb {P : Prop} (h : P := by (with_reducible repeat (first | refine blk_drewN ?_ _ | refine blk_drew ?_ | refine blk_alloc ?_ _)); refine blk_put (cs := #[.slice A0 l0.length c0, .int .i64 0, .int .u64 x102002_1, .int .i64 (wrap64 ((l0.length : Int) / 20))]) ?_ 3 _ rfl; (with_reducible repeat (first | refine blk_drewN ?_ _ | refine blk_drew ?_ | refine blk_alloc ?_ _)); refine blk_put (cs := #[.slice A0 l0.length c0, .int .i64 0, .int .u64 x102002_1, .int .i64 0]) ?_ 3 _ rfl; (with_reducible repeat (first | refine blk_drewN ?_ _ | refine blk_drew ?_ | refine blk_alloc ?_ _)); exact BK101.out) : P := h
theorem βc {P : Prop} (h : P := by (with_reducible repeat (first | refine blk_drewN ?_ _ | refine blk_drew ?_ | refine blk_alloc ?_ _)); refine blk_put (cs := #[.slice Ao15 t306.length co15, .slice none 0 0]) ?_ 1 _ (by first | rfl | (simp only [← hji8]; rfl)); (with_reducible repeat (first | refine blk_drewN ?_ _ | refine blk_drew ?_ | refine blk_alloc ?_ _)); refine blk_put (cs := #[.slice none 0 0, .slice none 0 0]) ?_ 0 _ (by first | rfl | (simp only [← hji8]; rfl)); (with_reducible repeat (first | refine blk_drewN ?_ _ | refine blk_drew ?_ | refine blk_alloc ?_ _)); exact BK300.out) : P := h
theorem βd {P : Prop} (h : P := by (with_reducible repeat (first | apply Kd.R_alloc | apply Kd.R_drewN | apply Kd.R_drew)); exact (Kd.R_mono (Kd.R_far (p := ⟨gb618, 3, none⟩) (Kd.R_far (p := ⟨gb618, 2, none⟩) (Kd.R_far (p := ⟨gb618, 1, none⟩) (Kd.R_far (p := ⟨gb618, 0, none⟩) (Kd.R_types HO603.out BK618.out (by decide)) (fun _ hk => hk.2) (.slice Ao45 t610.length co45)) (fun _ hk => hk.2) (.slice Ao48 t613.length co48)) (fun _ hk => hk.2) (.string t616)) (fun _ hk => hk.2) (.int .i64 t617)) (fun _ h_ => h_.1))) : P := h
theorem βe {P : Prop} (h : P := by (with_reducible repeat (first | apply Kd.R_alloc | apply Kd.R_drewN | apply Kd.R_drew)); exact (Kd.R_mono (Kd.R_far (p := ⟨gb618, 3, none⟩) (Kd.R_far (p := ⟨gb618, 2, none⟩) (Kd.R_far (p := ⟨gb618, 1, none⟩) (Kd.R_far (p := ⟨gb618, 0, none⟩) (Kd.R_types HO612.out BK618.out (by decide)) (fun _ hk => hk.2) (.slice Ao45 t610.length co45)) (fun _ hk => hk.2) (.slice Ao48 t613.length co48)) (fun _ hk => hk.2) (.string t616)) (fun _ hk => hk.2) (.int .i64 t617)) (fun _ h_ => h_.1))) : P := h
theorem βf {P : Prop} (h : P := by (with_reducible repeat (first | apply Kd.R_alloc | apply Kd.R_drewN | apply Kd.R_drew)); exact (Kd.R_mono (Kd.R_far (p := ⟨gb618, 3, none⟩) (Kd.R_far (p := ⟨gb618, 2, none⟩) (Kd.R_far (p := ⟨gb618, 1, none⟩) (Kd.R_far (p := ⟨gb618, 0, none⟩) (Kd.R_types HO606.out BK618.out (by decide)) (fun _ hk => hk.2) (.slice Ao45 t610.length co45)) (fun _ hk => hk.2) (.slice Ao48 t613.length co48)) (fun _ hk => hk.2) (.string t616)) (fun _ hk => hk.2) (.int .i64 t617)) (fun _ h_ => h_.1))) : P := h
theorem βg {P : Prop} (h : P := by (with_reducible repeat (first | apply Kd.R_alloc | apply Kd.R_drewN | apply Kd.R_drew)); exact (Kd.R_mono (Kd.R_far (p := ⟨gb618, 3, none⟩) (Kd.R_far (p := ⟨gb618, 2, none⟩) (Kd.R_far (p := ⟨gb618, 1, none⟩) (Kd.R_far (p := ⟨gb618, 0, none⟩) (Kd.R_types HO615.out BK618.out (by decide)) (fun _ hk => hk.2) (.slice Ao45 t610.length co45)) (fun _ hk => hk.2) (.slice Ao48 t613.length co48)) (fun _ hk => hk.2) (.string t616)) (fun _ hk => hk.2) (.int .i64 t617)) (fun _ h_ => h_.1))) : P := h
theorem βh {P : Prop} (h : P := by (with_reducible repeat (first | apply Kd.R_alloc | apply Kd.R_drewN | apply Kd.R_drew)); exact (Kd.R_mono (Kd.R_far (p := ⟨gb644, 3, none⟩) (Kd.R_far (p := ⟨gb644, 2, none⟩) (Kd.R_far (p := ⟨gb644, 1, none⟩) (Kd.R_far (p := ⟨gb644, 0, none⟩) (Kd.R_types HO603.out BK644.out (by decide)) (fun _ hk => hk.2) (.slice Ao68 t636.length co68)) (fun _ hk => hk.2) (.slice Ao74 t639.length co74)) (fun _ hk => hk.2) (.string t642)) (fun _ hk => hk.2) (.int .i64 t643)) (fun _ h_ => h_.1))) : P := h
theorem βi {P : Prop} (h : P := by (with_reducible repeat (first | apply Kd.R_alloc | apply Kd.R_drewN | apply Kd.R_drew)); exact (Kd.R_mono (Kd.R_far (p := ⟨gb644, 3, none⟩) (Kd.R_far (p := ⟨gb644, 2, none⟩) (Kd.R_far (p := ⟨gb644, 1, none⟩) (Kd.R_far (p := ⟨gb644, 0, none⟩) (Kd.R_types HO612.out BK644.out (by decide)) (fun _ hk => hk.2) (.slice Ao68 t636.length co68)) (fun _ hk => hk.2) (.slice Ao74 t639.length co74)) (fun _ hk => hk.2) (.string t642)) (fun _ hk => hk.2) (.int .i64 t643)) (fun _ h_ => h_.1))) : P := h
theorem βj {P : Prop} (h : P := by (with_reducible repeat (first | apply Kd.R_alloc | apply Kd.R_drewN | apply Kd.R_drew)); exact (Kd.R_mono (Kd.R_far (p := ⟨gb644, 3, none⟩) (Kd.R_far (p := ⟨gb644, 2, none⟩) (Kd.R_far (p := ⟨gb644, 1, none⟩) (Kd.R_far (p := ⟨gb644, 0, none⟩) (Kd.R_types HO621.out BK644.out (by decide)) (fun _ hk => hk.2) (.slice Ao68 t636.length co68)) (fun _ hk => hk.2) (.slice Ao74 t639.length co74)) (fun _ hk => hk.2) (.string t642)) (fun _ hk => hk.2) (.int .i64 t643)) (fun _ h_ => h_.1))) : P := h
theorem βk {P : Prop} (h : P := by (with_reducible repeat (first | apply Kd.R_alloc | apply Kd.R_drewN | apply Kd.R_drew)); exact (Kd.R_mono (Kd.R_far (p := ⟨gb644, 3, none⟩) (Kd.R_far (p := ⟨gb644, 2, none⟩) (Kd.R_far (p := ⟨gb644, 1, none⟩) (Kd.R_far (p := ⟨gb644, 0, none⟩) (Kd.R_types HO631.out BK644.out (by decide)) (fun _ hk => hk.2) (.slice Ao68 t636.length co68)) (fun _ hk => hk.2) (.slice Ao74 t639.length co74)) (fun _ hk => hk.2) (.string t642)) (fun _ hk => hk.2) (.int .i64 t643)) (fun _ h_ => h_.1))) : P := h
theorem βl {P : Prop} (h : P := by (with_reducible repeat (first | apply Kd.R_alloc | apply Kd.R_drewN | apply Kd.R_drew)); exact (Kd.R_mono (Kd.R_far (p := ⟨gb644, 3, none⟩) (Kd.R_far (p := ⟨gb644, 2, none⟩) (Kd.R_far (p := ⟨gb644, 1, none⟩) (Kd.R_far (p := ⟨gb644, 0, none⟩) (Kd.R_types HO638.out BK644.out (by decide)) (fun _ hk => hk.2) (.slice Ao68 t636.length co68)) (fun _ hk => hk.2) (.slice Ao74 t639.length co74)) (fun _ hk => hk.2) (.string t642)) (fun _ hk => hk.2) (.int .i64 t643)) (fun _ h_ => h_.1))) : P := h
theorem βm {P : Prop} (h : P := by (with_reducible repeat (first | apply Kd.R_alloc | apply Kd.R_drewN | apply Kd.R_drew)); exact (Kd.R_mono (Kd.R_far (p := ⟨gb644, 3, none⟩) (Kd.R_far (p := ⟨gb644, 2, none⟩) (Kd.R_far (p := ⟨gb644, 1, none⟩) (Kd.R_far (p := ⟨gb644, 0, none⟩) (Kd.R_types HO606.out BK644.out (by decide)) (fun _ hk => hk.2) (.slice Ao68 t636.length co68)) (fun _ hk => hk.2) (.slice Ao74 t639.length co74)) (fun _ hk => hk.2) (.string t642)) (fun _ hk => hk.2) (.int .i64 t643)) (fun _ h_ => h_.1))) : P := h
theorem βn {P : Prop} (h : P := by (with_reducible repeat (first | apply Kd.R_alloc | apply Kd.R_drewN | apply Kd.R_drew)); exact (Kd.R_mono (Kd.R_far (p := ⟨gb644, 3, none⟩) (Kd.R_far (p := ⟨gb644, 2, none⟩) (Kd.R_far (p := ⟨gb644, 1, none⟩) (Kd.R_far (p := ⟨gb644, 0, none⟩) (Kd.R_types HO615.out BK644.out (by decide)) (fun _ hk => hk.2) (.slice Ao68 t636.length co68)) (fun _ hk => hk.2) (.slice Ao74 t639.length co74)) (fun _ hk => hk.2) (.string t642)) (fun _ hk => hk.2) (.int .i64 t643)) (fun _ h_ => h_.1))) : P := h
theorem βo {P : Prop} (h : P := by (with_reducible repeat (first | apply Kd.R_alloc | apply Kd.R_drewN | apply Kd.R_drew)); exact (Kd.R_mono (Kd.R_far (p := ⟨gb644, 3, none⟩) (Kd.R_far (p := ⟨gb644, 2, none⟩) (Kd.R_far (p := ⟨gb644, 1, none⟩) (Kd.R_far (p := ⟨gb644, 0, none⟩) (Kd.R_types HO624.out BK644.out (by decide)) (fun _ hk => hk.2) (.slice Ao68 t636.length co68)) (fun _ hk => hk.2) (.slice Ao74 t639.length co74)) (fun _ hk => hk.2) (.string t642)) (fun _ hk => hk.2) (.int .i64 t643)) (fun _ h_ => h_.1))) : P := h
theorem βp {P : Prop} (h : P := by (with_reducible repeat (first | apply Kd.R_alloc | apply Kd.R_drewN | apply Kd.R_drew)); exact (Kd.R_mono (Kd.R_far (p := ⟨gb644, 3, none⟩) (Kd.R_far (p := ⟨gb644, 2, none⟩) (Kd.R_far (p := ⟨gb644, 1, none⟩) (Kd.R_far (p := ⟨gb644, 0, none⟩) (Kd.R_types HO634.out BK644.out (by decide)) (fun _ hk => hk.2) (.slice Ao68 t636.length co68)) (fun _ hk => hk.2) (.slice Ao74 t639.length co74)) (fun _ hk => hk.2) (.string t642)) (fun _ hk => hk.2) (.int .i64 t643)) (fun _ h_ => h_.1))) : P := h
theorem βq {P : Prop} (h : P := by (with_reducible repeat (first | apply Kd.R_alloc | apply Kd.R_drewN | apply Kd.R_drew)); exact (Kd.R_mono (Kd.R_far (p := ⟨gb644, 3, none⟩) (Kd.R_far (p := ⟨gb644, 2, none⟩) (Kd.R_far (p := ⟨gb644, 1, none⟩) (Kd.R_far (p := ⟨gb644, 0, none⟩) (Kd.R_types HO641.out BK644.out (by decide)) (fun _ hk => hk.2) (.slice Ao68 t636.length co68)) (fun _ hk => hk.2) (.slice Ao74 t639.length co74)) (fun _ hk => hk.2) (.string t642)) (fun _ hk => hk.2) (.int .i64 t643)) (fun _ h_ => h_.1))) : P := h
theorem βr {P : Prop} (h : P := by refine blk_put (cs := #[.slice none 0 0, .slice none 0 0, .string ⟨#[]⟩, .int .i64 0]) ?_ 3 _ rfl; refine blk_put (cs := #[.slice none 0 0, .slice none 0 0, .string ⟨#[]⟩, .int .i64 0]) ?_ 2 _ rfl; refine blk_put (cs := #[.slice none 0 0, .slice none 0 0, .string ⟨#[]⟩, .int .i64 0]) ?_ 1 _ rfl; refine blk_put (cs := #[.slice none 0 0, .slice none 0 0, .string ⟨#[]⟩, .int .i64 0]) ?_ 0 _ rfl; (repeat (first | exact HX11.out | refine blk_drewN ?_ _ | refine blk_drew ?_))) : P := h
theorem βs {P : Prop} (h : P := by repeat (first | (with_reducible first | exact HB.out | apply below_alloc | apply pw_below_drewN | apply below_drew1 | refine below_set ?_ GE609.out | refine below_set ?_ GE618.out | refine below_set ?_ GE628.out | refine below_set ?_ GE635.out | refine below_set ?_ GE644.out | refine below_set ?_ GE652.out | refine below_set ?_ GE795.out) | exact HB.out)) : P := h
theorem βt {P : Prop} (h : P := by (with_reducible repeat (first | apply Kd.R_alloc | apply Kd.R_drewN | apply Kd.R_drew)); exact Kd.R_mono (Kd.R_far (p := ⟨gb300, 1, none⟩) (Kd.R_far (p := ⟨gb300, 0, none⟩) (Kd.R_types HO308.out BK300.out (by decide)) (fun _ hk => hk.2) (.slice Ao15 t306.length co15)) (fun _ hk => hk.2) (.slice Ao19 t309.length co19)) (fun _ hk => trivial)) : P := h
theorem βu {P : Prop} (h : P := by (with_reducible repeat (first | apply Kd.R_alloc | apply Kd.R_drewN | apply Kd.R_drew)); exact Kd.R_mono (Kd.R_far (p := ⟨gb300, 1, none⟩) (Kd.R_far (p := ⟨gb300, 0, none⟩) (Kd.R_types HO311.out BK300.out (by decide)) (fun _ hk => hk.2) (.slice Ao15 t306.length co15)) (fun _ hk => hk.2) (.slice Ao19 t309.length co19)) (fun _ hk => trivial)) : P := h
theorem βv {P : Prop} (h : P := by (with_reducible repeat (first | apply Kd.R_alloc | apply Kd.R_drewN | apply Kd.R_drew)); exact Kd.R_mono (Kd.R_far (p := ⟨gb300, 1, none⟩) (Kd.R_far (p := ⟨gb300, 0, none⟩) (Kd.R_types HO330.out BK300.out (by decide)) (fun _ hk => hk.2) (.slice Ao15 t306.length co15)) (fun _ hk => hk.2) (.slice Ao19 t309.length co19)) (fun _ hk => trivial)) : P := h
theorem βw {P : Prop} (h : P := by (with_reducible repeat (first | apply Kd.R_alloc | apply Kd.R_drewN | apply Kd.R_drew)); exact (Kd.R_mono (Kd.R_far (p := ⟨gb609, 1, none⟩) (Kd.R_far (p := ⟨gb609, 0, none⟩) (Kd.R_types HO603.out BK609.out (by decide)) (fun _ hk => hk.2) (.slice Ao40 t601.length co40)) (fun _ hk => hk.2) (.slice Ao42 t604.length co42)) (fun _ h_ => h_.1))) : P := h
theorem βx {P : Prop} (h : P := by (with_reducible repeat (first | apply Kd.R_alloc | apply Kd.R_drewN | apply Kd.R_drew)); exact (Kd.R_mono (Kd.R_far (p := ⟨gb609, 1, none⟩) (Kd.R_far (p := ⟨gb609, 0, none⟩) (Kd.R_types HO606.out BK609.out (by decide)) (fun _ hk => hk.2) (.slice Ao40 t601.length co40)) (fun _ hk => hk.2) (.slice Ao42 t604.length co42)) (fun _ h_ => h_.1))) : P := h
theorem βy {P : Prop} (h : P := by (with_reducible repeat (first | apply Kd.R_alloc | apply Kd.R_drewN | apply Kd.R_drew)); exact (Kd.R_mono (Kd.R_far (p := ⟨gb628, 1, none⟩) (Kd.R_far (p := ⟨gb628, 0, none⟩) (Kd.R_types HO621.out BK628.out (by decide)) (fun _ hk => hk.2) (.slice Ao51 t619.length co51)) (fun _ hk => hk.2) (.slice Ao55 t622.length co55)) (fun _ h_ => h_.1))) : P := h
theorem βz {P : Prop} (h : P := by (with_reducible repeat (first | apply Kd.R_alloc | apply Kd.R_drewN | apply Kd.R_drew)); exact (Kd.R_mono (Kd.R_far (p := ⟨gb628, 1, none⟩) (Kd.R_far (p := ⟨gb628, 0, none⟩) (Kd.R_types HO624.out BK628.out (by decide)) (fun _ hk => hk.2) (.slice Ao51 t619.length co51)) (fun _ hk => hk.2) (.slice Ao55 t622.length co55)) (fun _ h_ => h_.1))) : P := h
theorem βA {P : Prop} (h : P := by (with_reducible repeat (first | apply Kd.R_alloc | apply Kd.R_drewN | apply Kd.R_drew)); exact (Kd.R_mono (Kd.R_far (p := ⟨gb628, 1, none⟩) (Kd.R_far (p := ⟨gb628, 0, none⟩) (Kd.R_types HO627.out BK628.out (by decide)) (fun _ hk => hk.2) (.slice Ao51 t619.length co51)) (fun _ hk => hk.2) (.slice Ao55 t622.length co55)) (fun _ h_ => h_.1))) : P := h
theorem βB {P : Prop} (h : P := by (with_reducible repeat (first | apply Kd.R_alloc | apply Kd.R_drewN | apply Kd.R_drew)); exact (Kd.R_mono (Kd.R_far (p := ⟨gb628, 1, none⟩) (Kd.R_far (p := ⟨gb628, 0, none⟩) (Kd.R_types HO603.out BK628.out (by decide)) (fun _ hk => hk.2) (.slice Ao51 t619.length co51)) (fun _ hk => hk.2) (.slice Ao55 t622.length co55)) (fun _ h_ => h_.1))) : P := h
theorem βC {P : Prop} (h : P := by (with_reducible repeat (first | apply Kd.R_alloc | apply Kd.R_drewN | apply Kd.R_drew)); exact (Kd.R_mono (Kd.R_far (p := ⟨gb628, 1, none⟩) (Kd.R_far (p := ⟨gb628, 0, none⟩) (Kd.R_types HO612.out BK628.out (by decide)) (fun _ hk => hk.2) (.slice Ao51 t619.length co51)) (fun _ hk => hk.2) (.slice Ao55 t622.length co55)) (fun _ h_ => h_.1))) : P := h
theorem βD {P : Prop} (h : P := by (with_reducible repeat (first | apply Kd.R_alloc | apply Kd.R_drewN | apply Kd.R_drew)); exact (Kd.R_mono (Kd.R_far (p := ⟨gb628, 1, none⟩) (Kd.R_far (p := ⟨gb628, 0, none⟩) (Kd.R_types HO606.out BK628.out (by decide)) (fun _ hk => hk.2) (.slice Ao51 t619.length co51)) (fun _ hk => hk.2) (.slice Ao55 t622.length co55)) (fun _ h_ => h_.1))) : P := h
theorem βE {P : Prop} (h : P := by (with_reducible repeat (first | apply Kd.R_alloc | apply Kd.R_drewN | apply Kd.R_drew)); exact (Kd.R_mono (Kd.R_far (p := ⟨gb628, 1, none⟩) (Kd.R_far (p := ⟨gb628, 0, none⟩) (Kd.R_types HO615.out BK628.out (by decide)) (fun _ hk => hk.2) (.slice Ao51 t619.length co51)) (fun _ hk => hk.2) (.slice Ao55 t622.length co55)) (fun _ h_ => h_.1))) : P := h
theorem βF {P : Prop} (h : P := by (with_reducible repeat (first | apply Kd.R_alloc | apply Kd.R_drewN | apply Kd.R_drew)); exact (Kd.R_mono (Kd.R_far (p := ⟨gb635, 1, none⟩) (Kd.R_far (p := ⟨gb635, 0, none⟩) (Kd.R_types HO621.out BK635.out (by decide)) (fun _ hk => hk.2) (.slice Ao59 t629.length co59)) (fun _ hk => hk.2) (.slice Ao64 t632.length co64)) (fun _ h_ => h_.1))) : P := h
theorem βG {P : Prop} (h : P := by (with_reducible repeat (first | apply Kd.R_alloc | apply Kd.R_drewN | apply Kd.R_drew)); exact (Kd.R_mono (Kd.R_far (p := ⟨gb635, 1, none⟩) (Kd.R_far (p := ⟨gb635, 0, none⟩) (Kd.R_types HO624.out BK635.out (by decide)) (fun _ hk => hk.2) (.slice Ao59 t629.length co59)) (fun _ hk => hk.2) (.slice Ao64 t632.length co64)) (fun _ h_ => h_.1))) : P := h
theorem βH {P : Prop} (h : P := by (with_reducible repeat (first | apply Kd.R_alloc | apply Kd.R_drewN | apply Kd.R_drew)); exact (Kd.R_mono (Kd.R_far (p := ⟨gb635, 1, none⟩) (Kd.R_far (p := ⟨gb635, 0, none⟩) (Kd.R_types HO603.out BK635.out (by decide)) (fun _ hk => hk.2) (.slice Ao59 t629.length co59)) (fun _ hk => hk.2) (.slice Ao64 t632.length co64)) (fun _ h_ => h_.1))) : P := h
theorem βI {P : Prop} (h : P := by (with_reducible repeat (first | apply Kd.R_alloc | apply Kd.R_drewN | apply Kd.R_drew)); exact (Kd.R_mono (Kd.R_far (p := ⟨gb635, 1, none⟩) (Kd.R_far (p := ⟨gb635, 0, none⟩) (Kd.R_types HO612.out BK635.out (by decide)) (fun _ hk => hk.2) (.slice Ao59 t629.length co59)) (fun _ hk => hk.2) (.slice Ao64 t632.length co64)) (fun _ h_ => h_.1))) : P := h
theorem βJ {P : Prop} (h : P := by (with_reducible repeat (first | apply Kd.R_alloc | apply Kd.R_drewN | apply Kd.R_drew)); exact (Kd.R_mono (Kd.R_far (p := ⟨gb635, 1, none⟩) (Kd.R_far (p := ⟨gb635, 0, none⟩) (Kd.R_types HO631.out BK635.out (by decide)) (fun _ hk => hk.2) (.slice Ao59 t629.length co59)) (fun _ hk => hk.2) (.slice Ao64 t632.length co64)) (fun _ h_ => h_.1))) : P := h
theorem βK {P : Prop} (h : P := by (with_reducible repeat (first | apply Kd.R_alloc | apply Kd.R_drewN | apply Kd.R_drew)); exact (Kd.R_mono (Kd.R_far (p := ⟨gb635, 1, none⟩) (Kd.R_far (p := ⟨gb635, 0, none⟩) (Kd.R_types HO606.out BK635.out (by decide)) (fun _ hk => hk.2) (.slice Ao59 t629.length co59)) (fun _ hk => hk.2) (.slice Ao64 t632.length co64)) (fun _ h_ => h_.1))) : P := h
theorem βL {P : Prop} (h : P := by (with_reducible repeat (first | apply Kd.R_alloc | apply Kd.R_drewN | apply Kd.R_drew)); exact (Kd.R_mono (Kd.R_far (p := ⟨gb635, 1, none⟩) (Kd.R_far (p := ⟨gb635, 0, none⟩) (Kd.R_types HO615.out BK635.out (by decide)) (fun _ hk => hk.2) (.slice Ao59 t629.length co59)) (fun _ hk => hk.2) (.slice Ao64 t632.length co64)) (fun _ h_ => h_.1))) : P := h
theorem βM {P : Prop} (h : P := by (with_reducible repeat (first | apply Kd.R_alloc | apply Kd.R_drewN | apply Kd.R_drew)); exact (Kd.R_mono (Kd.R_far (p := ⟨gb635, 1, none⟩) (Kd.R_far (p := ⟨gb635, 0, none⟩) (Kd.R_types HO634.out BK635.out (by decide)) (fun _ hk => hk.2) (.slice Ao59 t629.length co59)) (fun _ hk => hk.2) (.slice Ao64 t632.length co64)) (fun _ h_ => h_.1))) : P := h
theorem βN {P : Prop} (h : P := by (with_reducible repeat (first | refine blk_drewN ?_ _ | refine blk_drew ?_ | refine blk_alloc ?_ _)); refine blk_far ?_ (by have h_ := Kd.R_ne HO_534000.out BK518.out (by decide); intro e_; exact h_ (by rw [e_]; rfl)) _; (with_reducible repeat (first | refine blk_drewN ?_ _ | refine blk_drew ?_ | refine blk_alloc ?_ _)); exact BK518.out) : P := h
theorem βO {P : Prop} (h : P := by (with_reducible repeat (first | refine blk_drewN ?_ _ | refine blk_drew ?_ | refine blk_alloc ?_ _)); refine blk_far ?_ (by have h_ := Kd.R_ne HO_534000.out BK519.out (by decide); intro e_; exact h_ (by rw [e_]; rfl)) _; (with_reducible repeat (first | refine blk_drewN ?_ _ | refine blk_drew ?_ | refine blk_alloc ?_ _)); exact BK519.out) : P := h
theorem βP {P : Prop} (h : P := by (with_reducible repeat (first | refine blk_drewN ?_ _ | refine blk_drew ?_ | refine blk_alloc ?_ _)); refine blk_far ?_ (by have h_ := Kd.R_ne HO_534000.out BK533.out (by decide); intro e_; exact h_ (by rw [e_]; rfl)) _; (with_reducible repeat (first | refine blk_drewN ?_ _ | refine blk_drew ?_ | refine blk_alloc ?_ _)); exact BK533.out) : P := h
theorem βQ {P : Prop} (h : P := by (with_reducible repeat (first | refine blk_drewN ?_ _ | refine blk_drew ?_ | refine blk_alloc ?_ _)); refine blk_put (cs := #[.slice A0 l0.length c0, .int .i64 0, .int .u64 x102002_1, .int .i64 0]) ?_ 3 _ rfl; (with_reducible repeat (first | refine blk_drewN ?_ _ | refine blk_drew ?_ | refine blk_alloc ?_ _)); exact BK101.out) : P := h
theorem βR {P : Prop} (h : P := by repeat (first | (with_reducible first | exact HI0.out | apply IsS101.alloc | apply IsS101.drewN | apply IsS101.drew | apply IsS101.set_1 | apply IsS101.set_2 | apply IsS101.set_3 | refine IsS101.far ?_ NB0_221.out _ | refine IsS101.far ?_ NB0_232.out _ | refine IsS101.far ?_ NB0_257.out _) | exact HI0.out)) : P := h
theorem βS {P : Prop} (h : P := by repeat (first | (with_reducible first | exact HI305.out | apply IsS101.alloc | apply IsS101.drewN | apply IsS101.drew | apply IsS101.set_1 | apply IsS101.set_2 | apply IsS101.set_3 | refine IsS101.far ?_ NB305_300.out _ | refine IsS101.far ?_ NB305_315.out _) | exact HI305.out)) : P := h
theorem βT {P : Prop} (h : P := by repeat (first | (with_reducible first | exact HI397.out | apply IsS101.alloc | apply IsS101.drewN | apply IsS101.drew | apply IsS101.set_1 | apply IsS101.set_2 | apply IsS101.set_3 | refine IsS101.far ?_ NB397_392.out _ | refine IsS101.far ?_ NB397_407.out _) | exact HI397.out)) : P := h
theorem βU {P : Prop} (h : P := by repeat (first | (with_reducible first | exact HI426.out | apply IsS101.alloc | apply IsS101.drewN | apply IsS101.drew | apply IsS101.set_1 | apply IsS101.set_2 | apply IsS101.set_3 | refine IsS101.far ?_ NB426_421.out _ | refine IsS101.far ?_ NB426_436.out _) | exact HI426.out)) : P := h
theorem βV {P : Prop} (h : P := by repeat (first | (with_reducible first | exact HI0.out | apply IsS101.alloc | apply IsS101.drewN | apply IsS101.drew | apply IsS101.set_1 | apply IsS101.set_2 | apply IsS101.set_3 | refine IsS101.far ?_ NB0_221.out _ | refine IsS101.far ?_ NB0_232.out _) | exact HI0.out)) : P := h
theorem βW {P : Prop} (h : P := by repeat (first | (with_reducible first | exact HB.out | apply below_alloc | apply pw_below_drewN | apply below_drew1 | refine below_set ?_ (IsS101.ge HI0.out) | refine below_set ?_ GE221.out | refine below_set ?_ GE232.out | refine below_set ?_ GE257.out) | exact HB.out)) : P := h
theorem βX {P : Prop} (h : P := by (with_reducible repeat (first | apply Kd.R_alloc | apply Kd.R_drewN | apply Kd.R_drew)); exact Kd.R_mono HO603.out (fun _ hk => ⟨hk.1.1.1.1.1.1.1.1.1.1.1.2, ⟨hk.1.1.1.1.1.1.1.1.1.1.2, ⟨hk.1.1.1.1.1.1.1.1.1.2, ⟨hk.1.1.1.1.1.1.1.1.2, hk.1.1.1.1.1.1.1.2⟩⟩⟩⟩)) : P := h
theorem βY {P : Prop} (h : P := by (with_reducible repeat (first | apply Kd.R_alloc | apply Kd.R_drewN | apply Kd.R_drew)); exact Kd.R_mono HO606.out (fun _ hk => ⟨hk.1.1.1.1.1.1.1.1.1.1.1.2, ⟨hk.1.1.1.1.1.1.1.1.1.1.2, ⟨hk.1.1.1.1.1.1.1.1.1.2, ⟨hk.1.1.1.1.1.1.1.1.2, hk.1.1.1.1.1.1.1.2⟩⟩⟩⟩)) : P := h
theorem βZ {P : Prop} (h : P := by (with_reducible repeat (first | apply Kd.R_alloc | apply Kd.R_drewN | apply Kd.R_drew)); exact Kd.R_mono HO612.out (fun _ hk => ⟨hk.1.1.1.1.1.1.1.1.1.1.1.2, ⟨hk.1.1.1.1.1.1.1.1.1.1.2, ⟨hk.1.1.1.1.1.1.1.1.1.2, ⟨hk.1.1.1.1.1.1.1.1.2, hk.1.1.1.1.1.1.1.2⟩⟩⟩⟩)) : P := h
theorem βaa {P : Prop} (h : P := by (with_reducible repeat (first | apply Kd.R_alloc | apply Kd.R_drewN | apply Kd.R_drew)); exact Kd.R_mono HO615.out (fun _ hk => ⟨hk.1.1.1.1.1.1.1.1.1.1.1.2, ⟨hk.1.1.1.1.1.1.1.1.1.1.2, ⟨hk.1.1.1.1.1.1.1.1.1.2, ⟨hk.1.1.1.1.1.1.1.1.2, hk.1.1.1.1.1.1.1.2⟩⟩⟩⟩)) : P := h
theorem βba {P : Prop} (h : P := by (with_reducible repeat (first | apply Kd.R_alloc | apply Kd.R_drewN | apply Kd.R_drew)); exact Kd.R_mono HO621.out (fun _ hk => ⟨hk.1.1.1.1.1.1.1.1.1.1.1.2, ⟨hk.1.1.1.1.1.1.1.1.1.1.2, ⟨hk.1.1.1.1.1.1.1.1.1.2, ⟨hk.1.1.1.1.1.1.1.1.2, hk.1.1.1.1.1.1.1.2⟩⟩⟩⟩)) : P := h
theorem βca {P : Prop} (h : P := by (with_reducible repeat (first | apply Kd.R_alloc | apply Kd.R_drewN | apply Kd.R_drew)); exact Kd.R_mono HO624.out (fun _ hk => ⟨hk.1.1.1.1.1.1.1.1.1.1.1.2, ⟨hk.1.1.1.1.1.1.1.1.1.1.2, ⟨hk.1.1.1.1.1.1.1.1.1.2, ⟨hk.1.1.1.1.1.1.1.1.2, hk.1.1.1.1.1.1.1.2⟩⟩⟩⟩)) : P := h
theorem βda {P : Prop} (h : P := by (with_reducible repeat (first | apply Kd.R_alloc | apply Kd.R_drewN | apply Kd.R_drew)); exact Kd.R_mono HO631.out (fun _ hk => ⟨hk.1.1.1.1.1.1.1.1.1.1.1.2, ⟨hk.1.1.1.1.1.1.1.1.1.1.2, ⟨hk.1.1.1.1.1.1.1.1.1.2, ⟨hk.1.1.1.1.1.1.1.1.2, hk.1.1.1.1.1.1.1.2⟩⟩⟩⟩)) : P := h
theorem βea {P : Prop} (h : P := by (with_reducible repeat (first | apply Kd.R_alloc | apply Kd.R_drewN | apply Kd.R_drew)); exact Kd.R_mono HO634.out (fun _ hk => ⟨hk.1.1.1.1.1.1.1.1.1.1.1.2, ⟨hk.1.1.1.1.1.1.1.1.1.1.2, ⟨hk.1.1.1.1.1.1.1.1.1.2, ⟨hk.1.1.1.1.1.1.1.1.2, hk.1.1.1.1.1.1.1.2⟩⟩⟩⟩)) : P := h
theorem βfa {P : Prop} (h : P := by (with_reducible repeat (first | apply Kd.R_alloc | apply Kd.R_drewN | apply Kd.R_drew)); exact Kd.R_mono HO638.out (fun _ hk => ⟨hk.1.1.1.1.1.1.1.1.1.1.1.2, ⟨hk.1.1.1.1.1.1.1.1.1.1.2, ⟨hk.1.1.1.1.1.1.1.1.1.2, ⟨hk.1.1.1.1.1.1.1.1.2, hk.1.1.1.1.1.1.1.2⟩⟩⟩⟩)) : P := h
theorem βga {P : Prop} (h : P := by (with_reducible repeat (first | apply Kd.R_alloc | apply Kd.R_drewN | apply Kd.R_drew)); exact Kd.R_mono HO641.out (fun _ hk => ⟨hk.1.1.1.1.1.1.1.1.1.1.1.2, ⟨hk.1.1.1.1.1.1.1.1.1.1.2, ⟨hk.1.1.1.1.1.1.1.1.1.2, ⟨hk.1.1.1.1.1.1.1.1.2, hk.1.1.1.1.1.1.1.2⟩⟩⟩⟩)) : P := h
theorem βha {P : Prop} (h : P := by (with_reducible repeat (first | apply Kd.R_alloc | apply Kd.R_drewN | apply Kd.R_drew)); exact Kd.R_mono HO647.out (fun _ hk => ⟨hk.1.1.1.1.1.1.1.1.1.1.1.2, ⟨hk.1.1.1.1.1.1.1.1.1.1.2, ⟨hk.1.1.1.1.1.1.1.1.1.2, ⟨hk.1.1.1.1.1.1.1.1.2, hk.1.1.1.1.1.1.1.2⟩⟩⟩⟩)) : P := h
theorem βia {P : Prop} (h : P := by (with_reducible repeat (first | apply Kd.R_alloc | apply Kd.R_drewN | apply Kd.R_drew)); exact Kd.R_mono HO650.out (fun _ hk => ⟨hk.1.1.1.1.1.1.1.1.1.1.1.2, ⟨hk.1.1.1.1.1.1.1.1.1.1.2, ⟨hk.1.1.1.1.1.1.1.1.1.2, ⟨hk.1.1.1.1.1.1.1.1.2, hk.1.1.1.1.1.1.1.2⟩⟩⟩⟩)) : P := h
theorem βja {P : Prop} (h : P := by repeat (first | (with_reducible first | exact HK.out | apply KeepBut.set_ | apply keep_drewN | apply keep_drew | apply keep_alloc | refine keep_far ?_ GW221.out _ | refine keep_far ?_ GW232.out _ | refine keep_far ?_ GW257.out _) | exact HK.out)) : P := h
theorem βka {P : Prop} (h : P := by repeat (first | (with_reducible first | exact HB.out | apply below_alloc | apply pw_below_drewN | apply below_drew1 | refine below_set ?_ (IsS101.ge HI305.out) | refine below_set ?_ GE300.out | refine below_set ?_ GE315.out) | exact HB.out)) : P := h
theorem βla {P : Prop} (h : P := by repeat (first | (with_reducible first | exact HB.out | apply below_alloc | apply pw_below_drewN | apply below_drew1 | refine below_set ?_ (IsS101.ge HI397.out) | refine below_set ?_ GE392.out | refine below_set ?_ GE407.out) | exact HB.out)) : P := h
theorem βma {P : Prop} (h : P := by repeat (first | (with_reducible first | exact HB.out | apply below_alloc | apply pw_below_drewN | apply below_drew1 | refine below_set ?_ (IsS101.ge HI426.out) | refine below_set ?_ GE421.out | refine below_set ?_ GE436.out) | exact HB.out)) : P := h
theorem βna {P : Prop} (h : P := by repeat (first | (with_reducible first | exact HI305.out | apply IsS101.alloc | apply IsS101.drewN | apply IsS101.drew | apply IsS101.set_1 | apply IsS101.set_2 | apply IsS101.set_3 | refine IsS101.far ?_ NB305_300.out _) | exact HI305.out)) : P := h
theorem βoa {P : Prop} (h : P := by repeat (first | (with_reducible first | exact HI397.out | apply IsS101.alloc | apply IsS101.drewN | apply IsS101.drew | apply IsS101.set_1 | apply IsS101.set_2 | apply IsS101.set_3 | refine IsS101.far ?_ NB397_392.out _) | exact HI397.out)) : P := h
theorem βpa {P : Prop} (h : P := by repeat (first | (with_reducible first | exact HI426.out | apply IsS101.alloc | apply IsS101.drewN | apply IsS101.drew | apply IsS101.set_1 | apply IsS101.set_2 | apply IsS101.set_3 | refine IsS101.far ?_ NB426_421.out _) | exact HI426.out)) : P := h
theorem βqa {P : Prop} (h : P := by repeat (first | (with_reducible first | exact HB.out | apply below_alloc | apply pw_below_drewN | apply below_drew1 | refine below_set ?_ (IsS101.ge HI0.out) | refine below_set ?_ GE221.out | refine below_set ?_ GE232.out) | exact HB.out)) : P := h
theorem βra {P : Prop} (h : P := by repeat (first | (with_reducible first | exact HI0.out | apply IsS101.alloc | apply IsS101.drewN | apply IsS101.drew | apply IsS101.set_1 | apply IsS101.set_2 | apply IsS101.set_3 | refine IsS101.far ?_ NB0_221.out _) | exact HI0.out)) : P := h
theorem βsa {P : Prop} (h : P := by (with_reducible repeat (first | apply Kd.R_alloc | apply Kd.R_drewN | apply Kd.R_drew)); exact Kd.R_mono HO_610000.out (fun _ hk => ⟨hk.1.1.1, ⟨hk.1.1.2.1, ⟨hk.1.1.2.2.1, ⟨hk.1.1.2.2.2.1, ⟨hk.1.1.2.2.2.2.1, hk.1.1.2.2.2.2.2⟩⟩⟩⟩⟩)) : P := h
theorem βta {P : Prop} (h : P := by (with_reducible repeat (first | apply Kd.R_alloc | apply Kd.R_drewN | apply Kd.R_drew)); exact Kd.R_mono HO_610001.out (fun _ hk => ⟨hk.1.1.1, ⟨hk.1.1.2.1, ⟨hk.1.1.2.2.1, ⟨hk.1.1.2.2.2.1, ⟨hk.1.1.2.2.2.2.1, hk.1.1.2.2.2.2.2⟩⟩⟩⟩⟩)) : P := h
theorem βua {P : Prop} (h : P := by (with_reducible repeat (first | apply Kd.R_alloc | apply Kd.R_drewN | apply Kd.R_drew)); exact Kd.R_mono HO_619000.out (fun _ hk => ⟨hk.1.1.1, ⟨hk.1.1.2.1, ⟨hk.1.1.2.2.1, ⟨hk.1.1.2.2.2.1, ⟨hk.1.1.2.2.2.2.1, hk.1.1.2.2.2.2.2⟩⟩⟩⟩⟩)) : P := h
theorem βva {P : Prop} (h : P := by (with_reducible repeat (first | apply Kd.R_alloc | apply Kd.R_drewN | apply Kd.R_drew)); exact Kd.R_mono HO_619001.out (fun _ hk => ⟨hk.1.1.1, ⟨hk.1.1.2.1, ⟨hk.1.1.2.2.1, ⟨hk.1.1.2.2.2.1, ⟨hk.1.1.2.2.2.2.1, hk.1.1.2.2.2.2.2⟩⟩⟩⟩⟩)) : P := h
theorem βwa {P : Prop} (h : P := by (with_reducible repeat (first | apply Kd.R_alloc | apply Kd.R_drewN | apply Kd.R_drew)); exact Kd.R_mono HO_629000.out (fun _ hk => ⟨hk.1.1.1, ⟨hk.1.1.2.1, ⟨hk.1.1.2.2.1, ⟨hk.1.1.2.2.2.1, ⟨hk.1.1.2.2.2.2.1, hk.1.1.2.2.2.2.2⟩⟩⟩⟩⟩)) : P := h
theorem βxa {P : Prop} (h : P := by (with_reducible repeat (first | apply Kd.R_alloc | apply Kd.R_drewN | apply Kd.R_drew)); exact Kd.R_mono HO_629001.out (fun _ hk => ⟨hk.1.1.1, ⟨hk.1.1.2.1, ⟨hk.1.1.2.2.1, ⟨hk.1.1.2.2.2.1, ⟨hk.1.1.2.2.2.2.1, hk.1.1.2.2.2.2.2⟩⟩⟩⟩⟩)) : P := h
theorem βya {P : Prop} (h : P := by (with_reducible repeat (first | apply Kd.R_alloc | apply Kd.R_drewN | apply Kd.R_drew)); exact Kd.R_mono HO_636000.out (fun _ hk => ⟨hk.1.1.1, ⟨hk.1.1.2.1, ⟨hk.1.1.2.2.1, ⟨hk.1.1.2.2.2.1, ⟨hk.1.1.2.2.2.2.1, hk.1.1.2.2.2.2.2⟩⟩⟩⟩⟩)) : P := h
theorem βza {P : Prop} (h : P := by (with_reducible repeat (first | apply Kd.R_alloc | apply Kd.R_drewN | apply Kd.R_drew)); exact Kd.R_mono HO_636001.out (fun _ hk => ⟨hk.1.1.1, ⟨hk.1.1.2.1, ⟨hk.1.1.2.2.1, ⟨hk.1.1.2.2.2.1, ⟨hk.1.1.2.2.2.2.1, hk.1.1.2.2.2.2.2⟩⟩⟩⟩⟩)) : P := h
theorem βAa {P : Prop} (h : P := by (with_reducible repeat (first | apply Kd.R_alloc | apply Kd.R_drewN | apply Kd.R_drew)); exact Kd.R_mono HO_645000.out (fun _ hk => ⟨hk.1.1.1, ⟨hk.1.1.2.1, ⟨hk.1.1.2.2.1, ⟨hk.1.1.2.2.2.1, ⟨hk.1.1.2.2.2.2.1, hk.1.1.2.2.2.2.2⟩⟩⟩⟩⟩)) : P := h
theorem βBa {P : Prop} (h : P := by (with_reducible repeat (first | apply Kd.R_alloc | apply Kd.R_drewN | apply Kd.R_drew)); exact Kd.R_mono HO_645001.out (fun _ hk => ⟨hk.1.1.1, ⟨hk.1.1.2.1, ⟨hk.1.1.2.2.1, ⟨hk.1.1.2.2.2.1, ⟨hk.1.1.2.2.2.2.1, hk.1.1.2.2.2.2.2⟩⟩⟩⟩⟩)) : P := h
theorem βCa {P : Prop} (h : P := by (with_reducible repeat (first | apply Kd.R_alloc | apply Kd.R_drewN | apply Kd.R_drew)); exact Kd.R_mono HO_653000.out (fun _ hk => ⟨hk.1.1.1, ⟨hk.1.1.2.1, ⟨hk.1.1.2.2.1, ⟨hk.1.1.2.2.2.1, ⟨hk.1.1.2.2.2.2.1, hk.1.1.2.2.2.2.2⟩⟩⟩⟩⟩)) : P := h
theorem βDa {P : Prop} (h : P := by (with_reducible repeat (first | apply Kd.R_alloc | apply Kd.R_drewN | apply Kd.R_drew)); exact Kd.R_mono HO_653001.out (fun _ hk => ⟨hk.1.1.1, ⟨hk.1.1.2.1, ⟨hk.1.1.2.2.1, ⟨hk.1.1.2.2.2.1, ⟨hk.1.1.2.2.2.2.1, hk.1.1.2.2.2.2.2⟩⟩⟩⟩⟩)) : P := h
theorem βEa {P : Prop} (h : P := by (with_reducible repeat (first | apply Kd.R_alloc | apply Kd.R_drewN | apply Kd.R_drew)); exact Kd.R_mono HO_796000.out (fun _ hk => ⟨hk.1.1.1, ⟨hk.1.1.2.1, ⟨hk.1.1.2.2.1, ⟨hk.1.1.2.2.2.1, ⟨hk.1.1.2.2.2.2.1, hk.1.1.2.2.2.2.2⟩⟩⟩⟩⟩)) : P := h
theorem βFa {P : Prop} (h : P := by (with_reducible repeat (first | apply Kd.R_alloc | apply Kd.R_drewN | apply Kd.R_drew)); exact Kd.R_mono HO_796001.out (fun _ hk => ⟨hk.1.1.1, ⟨hk.1.1.2.1, ⟨hk.1.1.2.2.1, ⟨hk.1.1.2.2.2.1, ⟨hk.1.1.2.2.2.2.1, hk.1.1.2.2.2.2.2⟩⟩⟩⟩⟩)) : P := h
theorem βGa {P : Prop} (h : P := by repeat (first | (with_reducible first | exact HB.out | apply below_alloc | apply pw_below_drewN | apply below_drew1 | refine below_set ?_ GE125.out | refine below_set ?_ GE126.out | refine below_set ?_ GE133.out) | exact HB.out)) : P := h
theorem βHa {P : Prop} (h : P := by first | (simp only [putAll, Act.put, List.setIfInBounds_toArray, List.set_cons_zero, List.set_cons_succ]; done) | (simp only [putAll, Act.put, List.setIfInBounds_toArray, List.set_cons_zero, List.set_cons_succ]; rfl)) : P := h
theorem βIa {P : Prop} (h : P := by repeat (first | (with_reducible first | exact HK.out | apply KeepBut.set_ | apply keep_drewN | apply keep_drew | apply keep_alloc | refine keep_far ?_ GW221.out _ | refine keep_far ?_ GW232.out _) | exact HK.out)) : P := h
theorem βJa {P : Prop} (h : P := by repeat (first | (with_reducible first | exact HB.out | apply below_alloc | apply pw_below_drewN | apply below_drew1 | refine below_set ?_ (IsS101.ge HI305.out) | refine below_set ?_ GE300.out) | exact HB.out)) : P := h
theorem βKa {P : Prop} (h : P := by repeat (first | (with_reducible first | exact HB.out | apply below_alloc | apply pw_below_drewN | apply below_drew1 | refine below_set ?_ (IsS101.ge HI397.out) | refine below_set ?_ GE392.out) | exact HB.out)) : P := h
theorem βLa {P : Prop} (h : P := by repeat (first | (with_reducible first | exact HB.out | apply below_alloc | apply pw_below_drewN | apply below_drew1 | refine below_set ?_ (IsS101.ge HI426.out) | refine below_set ?_ GE421.out) | exact HB.out)) : P := h
theorem βMa {P : Prop} (h : P := by (with_reducible repeat (first | apply Kd.R_alloc | apply Kd.R_drewN | apply Kd.R_drew)); exact Kd.R_mono HO_610000.out (fun _ hk => ⟨hk.1.1.1, ⟨hk.1.1.2.1, ⟨hk.1.1.2.2.1, ⟨hk.1.1.2.2.2.1, hk.1.1.2.2.2.2⟩⟩⟩⟩)) : P := h
theorem βNa {P : Prop} (h : P := by (with_reducible repeat (first | apply Kd.R_alloc | apply Kd.R_drewN | apply Kd.R_drew)); exact Kd.R_mono HO_610001.out (fun _ hk => ⟨hk.1.1.1, ⟨hk.1.1.2.1, ⟨hk.1.1.2.2.1, ⟨hk.1.1.2.2.2.1, hk.1.1.2.2.2.2⟩⟩⟩⟩)) : P := h
theorem βOa {P : Prop} (h : P := by (with_reducible repeat (first | apply Kd.R_alloc | apply Kd.R_drewN | apply Kd.R_drew)); exact Kd.R_mono HO_619000.out (fun _ hk => ⟨hk.1.1.1, ⟨hk.1.1.2.1, ⟨hk.1.1.2.2.1, ⟨hk.1.1.2.2.2.1, hk.1.1.2.2.2.2⟩⟩⟩⟩)) : P := h
theorem βPa {P : Prop} (h : P := by (with_reducible repeat (first | apply Kd.R_alloc | apply Kd.R_drewN | apply Kd.R_drew)); exact Kd.R_mono HO_619001.out (fun _ hk => ⟨hk.1.1.1, ⟨hk.1.1.2.1, ⟨hk.1.1.2.2.1, ⟨hk.1.1.2.2.2.1, hk.1.1.2.2.2.2⟩⟩⟩⟩)) : P := h
theorem βQa {P : Prop} (h : P := by (with_reducible repeat (first | apply Kd.R_alloc | apply Kd.R_drewN | apply Kd.R_drew)); exact Kd.R_mono HO_629000.out (fun _ hk => ⟨hk.1.1.1, ⟨hk.1.1.2.1, ⟨hk.1.1.2.2.1, ⟨hk.1.1.2.2.2.1, hk.1.1.2.2.2.2⟩⟩⟩⟩)) : P := h
theorem βRa {P : Prop} (h : P := by (with_reducible repeat (first | apply Kd.R_alloc | apply Kd.R_drewN | apply Kd.R_drew)); exact Kd.R_mono HO_629001.out (fun _ hk => ⟨hk.1.1.1, ⟨hk.1.1.2.1, ⟨hk.1.1.2.2.1, ⟨hk.1.1.2.2.2.1, hk.1.1.2.2.2.2⟩⟩⟩⟩)) : P := h
theorem βSa {P : Prop} (h : P := by (with_reducible repeat (first | apply Kd.R_alloc | apply Kd.R_drewN | apply Kd.R_drew)); exact Kd.R_mono HO_636000.out (fun _ hk => ⟨hk.1.1.1, ⟨hk.1.1.2.1, ⟨hk.1.1.2.2.1, ⟨hk.1.1.2.2.2.1, hk.1.1.2.2.2.2⟩⟩⟩⟩)) : P := h
theorem βTa {P : Prop} (h : P := by (with_reducible repeat (first | apply Kd.R_alloc | apply Kd.R_drewN | apply Kd.R_drew)); exact Kd.R_mono HO_636001.out (fun _ hk => ⟨hk.1.1.1, ⟨hk.1.1.2.1, ⟨hk.1.1.2.2.1, ⟨hk.1.1.2.2.2.1, hk.1.1.2.2.2.2⟩⟩⟩⟩)) : P := h
theorem βUa {P : Prop} (h : P := by (with_reducible repeat (first | apply Kd.R_alloc | apply Kd.R_drewN | apply Kd.R_drew)); exact Kd.R_mono HO_645000.out (fun _ hk => ⟨hk.1.1.1, ⟨hk.1.1.2.1, ⟨hk.1.1.2.2.1, ⟨hk.1.1.2.2.2.1, hk.1.1.2.2.2.2⟩⟩⟩⟩)) : P := h
theorem βVa {P : Prop} (h : P := by (with_reducible repeat (first | apply Kd.R_alloc | apply Kd.R_drewN | apply Kd.R_drew)); exact Kd.R_mono HO_645001.out (fun _ hk => ⟨hk.1.1.1, ⟨hk.1.1.2.1, ⟨hk.1.1.2.2.1, ⟨hk.1.1.2.2.2.1, hk.1.1.2.2.2.2⟩⟩⟩⟩)) : P := h
theorem βWa {P : Prop} (h : P := by (with_reducible repeat (first | apply Kd.R_alloc | apply Kd.R_drewN | apply Kd.R_drew)); exact Kd.R_mono HO_653000.out (fun _ hk => ⟨hk.1.1.1, ⟨hk.1.1.2.1, ⟨hk.1.1.2.2.1, ⟨hk.1.1.2.2.2.1, hk.1.1.2.2.2.2⟩⟩⟩⟩)) : P := h
theorem βXa {P : Prop} (h : P := by (with_reducible repeat (first | apply Kd.R_alloc | apply Kd.R_drewN | apply Kd.R_drew)); exact Kd.R_mono HO_653001.out (fun _ hk => ⟨hk.1.1.1, ⟨hk.1.1.2.1, ⟨hk.1.1.2.2.1, ⟨hk.1.1.2.2.2.1, hk.1.1.2.2.2.2⟩⟩⟩⟩)) : P := h
theorem βYa {P : Prop} (h : P := by repeat (first | (with_reducible first | exact HB.out | apply below_alloc | apply pw_below_drewN | apply below_drew1 | refine below_set ?_ (IsS101.ge HI0.out) | refine below_set ?_ GE221.out) | exact HB.out)) : P := h
theorem βZa {P : Prop} (h : P := by repeat (first | (with_reducible first | exact HI453.out | apply IsS101.alloc | apply IsS101.drewN | apply IsS101.drew | apply IsS101.set_1 | apply IsS101.set_2 | apply IsS101.set_3) | exact HI453.out)) : P := h
theorem βab {P : Prop} (h : P := by repeat (first | (with_reducible first | exact HI478.out | apply IsS101.alloc | apply IsS101.drewN | apply IsS101.drew | apply IsS101.set_1 | apply IsS101.set_2 | apply IsS101.set_3) | exact HI478.out)) : P := h
theorem βbb {P : Prop} (h : P := by repeat (first | (with_reducible first | exact HB.out | apply below_alloc | apply pw_below_drewN | apply below_drew1 | refine below_set ?_ GE139.out | refine below_set ?_ GE140.out) | exact HB.out)) : P := h
theorem βcb {P : Prop} (h : P := by repeat (first | (with_reducible first | exact HB.out | apply below_alloc | apply pw_below_drewN | apply below_drew1 | refine below_set ?_ GE185.out | refine below_set ?_ GE186.out) | exact HB.out)) : P := h
theorem βdb {P : Prop} (h : P := by repeat (first | (with_reducible first | exact HI0.out | apply IsS101.alloc | apply IsS101.drewN | apply IsS101.drew | apply IsS101.set_1 | apply IsS101.set_2 | apply IsS101.set_3) | exact HI0.out)) : P := h
theorem βeb {P : Prop} (h : P := by repeat (first | (with_reducible first | exact HB.out | apply below_alloc | apply pw_below_drewN | apply below_drew1 | refine below_set ?_ GE509.out | refine below_set ?_ GE510.out) | exact HB.out)) : P := h
theorem βfb {P : Prop} (h : P := by repeat (first | (with_reducible first | exact HB.out | apply below_alloc | apply pw_below_drewN | apply below_drew1 | refine below_set ?_ GE514.out | refine below_set ?_ GE515.out) | exact HB.out)) : P := h
theorem βgb {P : Prop} (h : P := by repeat (first | (with_reducible first | exact HB.out | apply below_alloc | apply pw_below_drewN | apply below_drew1 | refine below_set ?_ GE518.out | refine below_set ?_ GE519.out) | exact HB.out)) : P := h
theorem βhb {P : Prop} (h : P := by repeat (first | (with_reducible first | exact HB.out | apply below_alloc | apply pw_below_drewN | apply below_drew1 | refine below_set ?_ GE551.out | refine below_set ?_ GE552.out) | exact HB.out)) : P := h
theorem βib {P : Prop} (h : P := by repeat (first | (with_reducible first | exact HB.out | apply below_alloc | apply pw_below_drewN | apply below_drew1 | refine below_set ?_ GE566.out | refine below_set ?_ GE567.out) | exact HB.out)) : P := h
theorem βjb {P : Prop} (h : P := by repeat (first | (with_reducible first | exact HK.out | apply KeepBut.set_ | apply keep_drewN | apply keep_drew | apply keep_alloc | refine keep_far ?_ GW221.out _) | exact HK.out)) : P := h
theorem βkb {P : Prop} (h : P := by repeat (first | (with_reducible first | exact HB.out | apply below_alloc | apply pw_below_drewN | apply below_drew1 | refine below_set ?_ (IsS101.ge HI453.out)) | exact HB.out)) : P := h
theorem βlb {P : Prop} (h : P := by repeat (first | (with_reducible first | exact HB.out | apply below_alloc | apply pw_below_drewN | apply below_drew1 | refine below_set ?_ (IsS101.ge HI478.out)) | exact HB.out)) : P := h
theorem βmb {P : Prop} (h : P := by repeat (first | exact (Kd.C_below HR0_0.out HB.out) | (with_reducible refine Kd.C_alloc ?_ _) | (with_reducible refine Kd.C_drewN ?_ _) | (with_reducible refine Kd.C_drew ?_))) : P := h
theorem βnb {P : Prop} (h : P := by repeat (first | (with_reducible first | exact HB.out | apply below_alloc | apply pw_below_drewN | apply below_drew1 | refine below_set ?_ (IsS101.ge HI0.out)) | exact HB.out)) : P := h
theorem βob {P : Prop} (h : P := by repeat (first | exact (Kd.C_below HR0.out HB.out) | (with_reducible refine Kd.C_alloc ?_ _) | (with_reducible refine Kd.C_drewN ?_ _) | (with_reducible refine Kd.C_drew ?_))) : P := h
theorem βpb {P : Prop} (h : P := by repeat (first | (with_reducible first | exact HBW.out | apply below_alloc | apply pw_below_drewN | apply below_drew1 | refine below_set ?_ GW101.out) | exact HBW.out)) : P := h
theorem βqb {P : Prop} (h : P := by repeat (first | (with_reducible first | exact HB.out | apply below_alloc | apply pw_below_drewN | apply below_drew1 | refine below_set ?_ GE101.out) | exact HB.out)) : P := h
theorem βrb {P : Prop} (h : P := by repeat (first | (with_reducible first | exact HB.out | apply below_alloc | apply pw_below_drewN | apply below_drew1 | refine below_set ?_ GE103.out) | exact HB.out)) : P := h
theorem βsb {P : Prop} (h : P := by repeat (first | (with_reducible first | exact HB.out | apply below_alloc | apply pw_below_drewN | apply below_drew1 | refine below_set ?_ GE202.out) | exact HB.out)) : P := h
theorem βtb {P : Prop} (h : P := by repeat (first | (with_reducible first | exact HB.out | apply below_alloc | apply pw_below_drewN | apply below_drew1 | refine below_set ?_ GE300.out) | exact HB.out)) : P := h
theorem βub {P : Prop} (h : P := by repeat (first | (with_reducible first | exact HB.out | apply below_alloc | apply pw_below_drewN | apply below_drew1 | refine below_set ?_ GE421.out) | exact HB.out)) : P := h
theorem βvb {P : Prop} (h : P := by repeat (first | (with_reducible first | exact HB.out | apply below_alloc | apply pw_below_drewN | apply below_drew1 | refine below_set ?_ GE547.out) | exact HB.out)) : P := h
theorem βwb {P : Prop} (h : P := by repeat (first | (with_reducible first | exact HB.out | apply below_alloc | apply pw_below_drewN | apply below_drew1 | refine below_set ?_ GE562.out) | exact HB.out)) : P := h
theorem βxb {P : Prop} (h : P := by repeat (first | (with_reducible first | exact HB.out | apply below_alloc | apply pw_below_drewN | apply below_drew1 | refine below_set ?_ GE593.out) | exact HB.out)) : P := h
theorem βyb {P : Prop} (h : P := by repeat (first | exact HR0.out | (with_reducible refine Kd.C_alloc ?_ _) | (with_reducible refine Kd.C_drewN ?_ _) | (with_reducible refine Kd.C_drew ?_))) : P := h
theorem βzb {P : Prop} (h : P := by first | exact ⟨rfl, _, World.drewN_drewN _ _ _⟩ | exact ⟨rfl, _, Eq.trans (World.drewN_drewN _ _ _) (congrArg (World.drewN _) (Nat.add_assoc _ _ _))⟩) : P := h
theorem βAb {P : Prop} (h : P := by repeat (first | (with_reducible first | exact HK.out | apply KeepBut.set_ | apply keep_drewN | apply keep_drew | apply keep_alloc) | exact HK.out)) : P := h
theorem βBb {P : Prop} (h : P := by first | exact Kd.R_nil _ _ _ _ _ | exact Kd.N_nil _ _ _ _ _ | exact Kd.V_nil _ _ _ _ _ | exact Kd.Q_nil _ _ _ _ _ | exact Kd.S_nil _ _ _ _ _) : P := h
theorem βCb {P : Prop} (h : P := by repeat (first | (with_reducible first | exact HB.out | apply below_alloc | apply pw_below_drewN | apply below_drew1) | exact HB.out)) : P := h
theorem βDb {P : Prop} (h : P := by repeat (first | exact Below.refl _ _ | apply pw_below_drewN | apply below_drew1 | apply below_alloc)) : P := h
theorem βEb {P : Prop} (h : P := by simp only [putAll, Act.put, List.setIfInBounds_toArray, List.set_cons_zero, List.set_cons_succ]) : P := h
theorem βFb {P : Prop} (h : P := by first | rfl | (simp [errW_none, errW_some] <;> rfl) | (simp [*, errW_none, errW_some] <;> rfl)) : P := h
theorem βGb {P : Prop} (h : P := by repeat (first | exact HB.out | apply pw_below_drewN | apply below_drew1 | apply below_alloc)) : P := h
theorem βHb {P : Prop} (h : P := by repeat (first | exact HB2.out | apply pw_below_drewN | apply below_drew1)) : P := h
theorem βIb {P : Prop} (h : P := by repeat (first | exact Drawn0.refl _ | apply Drawn0.step)) : P := h
theorem βJb {P : Prop} (h : P := by have := HK1.out; first | omega | exact Nat.le_refl _) : P := h
theorem βKb {P : Prop} (h : P := by first | (with_reducible assumption) | assumption) : P := h
theorem βLb {P : Prop} (h : P := by first | rfl | (simp; done) | (simp [*]; done)) : P := h
theorem βMb {P : Prop} (h : P := by first | (go_simp; done) | (go_simp; rfl)) : P := h
theorem βNb {P : Prop} (h : P := by first | omega | exact Nat.le_refl _) : P := h
theorem βOb {P : Prop} (h : P := by have := HK1.out; omega) : P := h
theorem βPb {P : Prop} (h : P := by kernel_rfl) : P := h
set_option maxHeartbeats 8000000
set_option maxRecDepth 100000
def errW : Option Int → Value
 | none => .nilIface
 | some c => .iface 0 (.int .i64 c)
theorem errW_none : errW none = .nilIface := rfl
theorem errW_some (c : Int) : errW (some c) = .iface 0 (.int .i64 c) := rfl
theorem info2 : (Try.prog.info? 2).map (fun i => (i.zero, i.size, i.bytes)) = some (some (.int .i64 0), 1, 8) := by kernel_rfl
theorem info5 : (Try.prog.info? 5).map (fun i => (i.zero, i.size, i.bytes)) = some (some (.int .u8 0), 1, 1) := by kernel_rfl
theorem info9 : (Try.prog.info? 9).map (fun i => (i.zero, i.size, i.bytes)) = some (some (.string ⟨#[]⟩), 1, 16) := by kernel_rfl
theorem info83 : (Try.prog.info? 83).map (fun i => (i.zero, i.size, i.bytes)) = some (some (.agg #[(.int .i64 0), (.string ⟨#[]⟩)]), 2, 24) := by kernel_rfl
structure S83 where
 f0 : Int
 f1 : ByteArray
def z83 : S83 := ⟨(0 : Int), (⟨#[]⟩ : ByteArray)⟩
def k83 : Kd S83 := Kd.iso (Kd.pair (Kd.int .i64) Kd.string) (fun x : S83 => (x.f0, x.f1))
theorem k83_open {w : World} {x : S83} {cs : List Value} (h : k83.K w x cs) : cs = [.int .i64 x.f0, .string x.f1] := by
 obtain ⟨_, _, rfl, rfl, rfl⟩ := h
 exact rfl
theorem k83_openM {w : World} {base : Nat} {ok : Nat → Prop} {x : S83} {cs : List Value} (h : k83.M w base ok x cs) : cs = [.int .i64 x.f0, .string x.f1] := by
 obtain ⟨_, _, rfl, rfl, rfl⟩ := h
 exact rfl
theorem k83_mkM (w : World) (base : Nat) (ok : Nat → Prop) (x : S83)  : k83.M w base ok x [.int .i64 x.f0, .string x.f1] := ⟨[.int .i64 x.f0], [.string x.f1], rfl, rfl, rfl⟩
def rd_T83 (xs : List S83) (i : Int) : S83 := xs.getD i.toNat z83
theorem at_T83 {w : World} {A : Option Addr} {n : Nat} {xs : List S83} (h : Kd.C k83 w A n xs) (i : Int) (h0 : 0 ≤ i) (h1 : i < n) : ∃ ad , A = some ad ∧ w.cell? (ad.add (i.toNat * 2)) = some (.int .i64 (rd_T83 xs i).f0) ∧ w.cell? ⟨(ad.add (i.toNat * 2)).block, (ad.add (i.toNat * 2)).off + 1, none⟩ = some (.string (rd_T83 xs i).f1) := by
 obtain ⟨ad, c, e, _, hK, hc0⟩ := Kd.C_get h z83 i h0 h1
 have hc : ∀ j u, c[j]? = some u → w.cell? (ad.add (i.toNat * 2 + j)) = some u := hc0
 obtain rfl := k83_open hK
 exact ⟨ad, e, hc 0 _ rfl, (by rw [← add_field _ _ 1 (by omega)]; exact hc 1 _ rfl)⟩
structure S90 where
 f0 : Bool
 f1 : Int
 f2 : ByteArray
end Go.Proofs.Ytboobfpmmaaogaa.Q
namespace Go.Proofs.Ytboobfpmmaaogaa.Q
open Go.RowKit Go.Proofs.YtboobfpmmaaogaaW.PrintWords Go.Proofs.YtboobfpmmaaogaaW.PrintLast Go.Proofs.YtboobfpmmaaogaaW.PrintMore
attribute [local go_sem] max2_int min2_int max_two min_two max_three min_three max_four min_four Instr.field asAgg
set_option linter.unusedVariables false
set_option linter.unusedSimpArgs false
set_option maxHeartbeats 8000000
set_option maxRecDepth 100000
def IsS101 (w0 W : World) (g : Nat) (f0 : List Int) (f1 : Int) (f2 : Int) (f3 : Int) : Prop := ∃ A0 c0, W.heap[g]? = some (.cells #[.slice A0 f0.length c0, .int .i64 f1, .int .u64 f2, .int .i64 f3] 101 (0, 0)) ∧ w0.heap.size ≤ g ∧ Kd.C (Kd.int .u8) w0 A0 f0.length f0
theorem IsS101.grown {w0 W : World} {g : Nat} {f0 : List Int} {f1 : Int} {f2 : Int} {f3 : Int} {W1 : World} {row : Option Nat} (h : IsS101 w0 W g f0 f1 f2 f3) (hw : W.grownBy W1 row) (hne : some g ≠ row) : IsS101 w0 W1 g f0 f1 f2 f3 := by
 obtain ⟨A0, c0, hb, hg, hr0⟩ := h
 exact ⟨A0, c0, blk_grown hb hw hne, hg, hr0⟩
theorem IsS101.kept {w0 W : World} {g : Nat} {f0 : List Int} {f1 : Int} {f2 : Int} {f3 : Int} {W1 : World} {S : Nat → Prop} (h : IsS101 w0 W g f0 f1 f2 f3) (hk : Kept W W1 S) (hne : ¬ S g) : IsS101 w0 W1 g f0 f1 f2 f3 := by
 obtain ⟨A0, c0, hb, hg, hr0⟩ := h
 exact ⟨A0, c0, blk_kept hb hk hne, hg, hr0⟩
theorem IsS101.below {w0 W : World} {g : Nat} {f0 : List Int} {f1 : Int} {f2 : Int} {f3 : Int} {W1 : World} (h : IsS101 w0 W g f0 f1 f2 f3) (hw : Below W.heap.size W W1) : IsS101 w0 W1 g f0 f1 f2 f3 := h.grown (grown_of_below hw none) (by simp)
theorem IsS101.alloc {w0 W : World} {g : Nat} {f0 : List Int} {f1 : Int} {f2 : Int} {f3 : Int} (h : IsS101 w0 W g f0 f1 f2 f3) (o : Obj) : IsS101 w0 (W.alloc o) g f0 f1 f2 f3 := h.below (below_alloc (Below.refl _ _) o)
theorem IsS101.drewN {w0 W : World} {g : Nat} {f0 : List Int} {f1 : Int} {f2 : Int} {f3 : Int} (h : IsS101 w0 W g f0 f1 f2 f3) (m : Nat) : IsS101 w0 (W.drewN m) g f0 f1 f2 f3 := h
theorem IsS101.drew {w0 W : World} {g : Nat} {f0 : List Int} {f1 : Int} {f2 : Int} {f3 : Int} (h : IsS101 w0 W g f0 f1 f2 f3) : IsS101 w0 W.drew g f0 f1 f2 f3 := h
theorem IsS101.at_ {w0 W : World} {g : Nat} {f0 : List Int} {f1 : Int} {f2 : Int} {f3 : Int} {w' : World} {m : Nat} (hq : W.drewN m = w') (h : IsS101 w0 W g f0 f1 f2 f3) : IsS101 w0 w' g f0 f1 f2 f3 := by subst hq; exact IsS101.drewN h m
theorem IsS101.apart {w0 W : World} {g : Nat} {f0 : List Int} {f1 : Int} {f2 : Int} {f3 : Int} {α : Type} {d : Kd α} {e : Nat} {base : Nat} {ok : Nat → Prop} {v : Value} {xs : List α} (h : IsS101 w0 W g f0 f1 f2 f3) (ho : d.R e W base ok v xs) (ht : ∀ q, q ∈ e :: d.E → q ≠ 101) : d.R e W base (fun k => ok k ∧ k ≠ g) v xs := by
 obtain ⟨A0, c0, hb, hg, hr0⟩ := h
 exact Kd.R_types ho hb ht
theorem IsS101.own_ne {w0 W : World} {g : Nat} {f0 : List Int} {f1 : Int} {f2 : Int} {f3 : Int} {α : Type} {d : Kd α} {e : Nat} {base : Nat} {ok : Nat → Prop} {v : Value} {xs : List α} (h : IsS101 w0 W g f0 f1 f2 f3) (ho : d.R e W base ok v xs) (ht : e ≠ 101) : some g ≠ v.ownBlock := by
 obtain ⟨A0, c0, hb, hg, hr0⟩ := h
 exact Kd.R_ne ho hb ht
theorem IsS101.lt {w0 W : World} {g : Nat} {f0 : List Int} {f1 : Int} {f2 : Int} {f3 : Int} (h : IsS101 w0 W g f0 f1 f2 f3) : g < W.heap.size := by
 obtain ⟨A0, c0, hb, hg, hr0⟩ := h
 exact blk_lt hb
theorem IsS101.ge {w0 W : World} {g : Nat} {f0 : List Int} {f1 : Int} {f2 : Int} {f3 : Int} (h : IsS101 w0 W g f0 f1 f2 f3) : w0.heap.size ≤ g := by
 obtain ⟨A0, c0, hb, hg, hr0⟩ := h
 exact hg
theorem IsS101.ne_blk {w0 W : World} {g : Nat} {f0 : List Int} {f1 : Int} {f2 : Int} {f3 : Int} {a : Nat} {cs : Array Value} {t : TypeId} {fr : Nat × Nat} (h : IsS101 w0 W g f0 f1 f2 f3) (hb2 : W.heap[a]? = some (.cells cs t fr)) (ht : t ≠ 101) : g ≠ a := by
 obtain ⟨A0, c0, hb, hg, hr0⟩ := h
 rintro rfl
 rw [hb] at hb2
 injection hb2 with hb2
 injection hb2 with _ ht2
 exact ht ht2.symm
theorem IsS101.far {w0 W : World} {g : Nat} {f0 : List Int} {f1 : Int} {f2 : Int} {f3 : Int} {p : Addr} (h : IsS101 w0 W g f0 f1 f2 f3) (hne : g ≠ p.block) (u : Value) : IsS101 w0 (W.setCell p u) g f0 f1 f2 f3 := by
 obtain ⟨A0, c0, hb, hg, hr0⟩ := h
 exact ⟨A0, c0, blk_far hb hne u, hg, hr0⟩
theorem IsS101.set_1 {w0 W : World} {g : Nat} {f0 : List Int} {f1 : Int} {f2 : Int} {f3 : Int} (h : IsS101 w0 W g f0 f1 f2 f3) (x : Int) : IsS101 w0 (W.setCell ⟨g, 1, none⟩ (.int .i64 x)) g f0 x f2 f3 := by
 obtain ⟨A0, c0, hb, hg, hr0⟩ := h
 exact ⟨A0, c0, (by simpa using blk_set hb 1 (.int .i64 x)), hg, hr0⟩
theorem IsS101.set_2 {w0 W : World} {g : Nat} {f0 : List Int} {f1 : Int} {f2 : Int} {f3 : Int} (h : IsS101 w0 W g f0 f1 f2 f3) (x : Int) : IsS101 w0 (W.setCell ⟨g, 2, none⟩ (.int .u64 x)) g f0 f1 x f3 := by
 obtain ⟨A0, c0, hb, hg, hr0⟩ := h
 exact ⟨A0, c0, (by simpa using blk_set hb 2 (.int .u64 x)), hg, hr0⟩
theorem IsS101.set_3 {w0 W : World} {g : Nat} {f0 : List Int} {f1 : Int} {f2 : Int} {f3 : Int} (h : IsS101 w0 W g f0 f1 f2 f3) (x : Int) : IsS101 w0 (W.setCell ⟨g, 3, none⟩ (.int .i64 x)) g f0 f1 f2 x := by
 obtain ⟨A0, c0, hb, hg, hr0⟩ := h
 exact ⟨A0, c0, (by simpa using blk_set hb 3 (.int .i64 x)), hg, hr0⟩
def spec_l01Source.l0 : Nat → List Int → Int → List Int → Int → Int → Int → Option (List Int × Int × Int × Int)
 | 0, _, _, _, _, _, _ => none
 | k + 1, x0, x4, x102000, x102001, x102002, x102003 => if x4 < (x0.length : Int) then (if x4 < 64 then (if 0 ≤ x4 then (spec_l01Source.l0 k x0 (wrap64 (x4 + 1)) x102000 x102001 (IntKind.u64.wrap ((Go.bits .xor .u64 x102002 (IntKind.u64.wrap (rd x0 x4))) * 1099511628211)) x102003) else (none)) else (if (wrap64 ((x0.length : Int) / 20)) > 12 then (some (x102000, x102001, x102002, 12)) else (some (x102000, x102001, x102002, wrap64 ((x0.length : Int) / 20))))) else (if (wrap64 ((x0.length : Int) / 20)) > 12 then (some (x102000, x102001, x102002, 12)) else (some (x102000, x102001, x102002, wrap64 ((x0.length : Int) / 20))))
def spec_l01Source.f (k : Nat) (l0 : List Int) : Option (List Int × Int × Int × Int) := spec_l01Source.l0 k l0 0 l0 0 88172645463325252 0
def spec_l01Source.T5 : Bool × List (List Nat × List Nat) := (true, [([], []), ([], []), ([1], [1]), ([2], [2]), ([3], [3]), ([], []), ([], []), ([5, 6], [5, 6]), ([7], [7]), ([8], [8]), ([4, 9], [4, 9]), ([10], [10]), ([0, 0, 1, 2, 3, 4, 5, 6, 7, 8, 9, 10, 11], [0]), ([12, 0, 1, 2, 3, 4, 5, 6, 7, 8, 9, 10, 11], [12]), ([13, 11, 0, 1, 2, 3, 4, 5, 6, 7, 8, 9, 10, 11], [11, 13])])
def spec_l01Source.B5 : List Nat := [0, 0, 2, 6, 14, 0, 0, 96, 224, 480, 1022, 2046, 4095, 8191, 16383]
theorem spec_l01Source.tab5 : rtab .any (opsOf Try.f43 5) = spec_l01Source.T5 := by kernel_rfl
theorem spec_l01Source.bits5 : waitsOk spec_l01Source.T5.2 spec_l01Source.B5 = true := by kernel_rfl
theorem spec_l01Source.calls (k : Nat) (A0 : Option Addr) (c0 : Nat) (l0 : List Int) (r1 : List Int) (r2 : Int) (r3 : Int) (r4 : Int) (w0 w : World) (hB : Below w0.heap.size w0 w) (hr0 : Kd.C (Kd.int .u8) w0 A0 l0.length l0) (hc0 : l0.length ≤ c0) (h : spec_l01Source.f k l0 = some (r1, r2, r3, r4)) :
 Calls Try.prog 43 #[.slice A0 l0.length c0] w fun e w' => ∃ g_ : Nat, e = .returned (.pointer (some ⟨g_, 0, none⟩)) ∧ IsS101 w0 w' g_ r1 r2 r3 r4 ∧ Below w0.heap.size w0 w' ∧ Below w.heap.size w w' := by
 have hu101 := Try.underlying101
 have HR0 := zA_ hr0
 have HC0 := zA_ hc0
 clear hr0 hc0
 have HBW := zA_ (Below.refl w.heap.size w)
 have HW0 := zA_ hB.size
 have HB := zA_ hB
 clear hB
 have H : (spec_l01Source.l0 k l0 0 l0 0 88172645463325252 0) = some (r1, r2, r3, r4) := h
 clear h
 have H' := zA_ H
 clear H
 go_enter Try.func43, Try.ntmps43
 go_wp2_with (first | ((with_reducible refine gate_dst (N := 7) rfl ?_); refine box_event ?hg (N := 7) ?hd (cs := #[.slice A0 l0.length c0, .int .i64 0, .int .u64 88172645463325252, .int .i64 0]) (t := 101) ?hr ?_; (case hd => exact (by rfl)); (case hg => exact (by rfl)); (case hr => exact βMb); intro gb101 hg w2 hbox hb; replace HB := zA_ (below_step (zh_ HB.out) hb); have BK101 := zA_ (hbox); have GW101 := zA_ ((by rw [hg]; exact (below_size (by repeat (first | (with_reducible first | exact HBW.out | apply below_alloc | apply pw_below_drewN | apply below_drew1) | exact HBW.out))) : w.heap.size ≤ gb101)); have GE101 := zA_ ((Nat.le_trans HW0.out (by rw [hg]; exact (below_size (by repeat (first | (with_reducible first | exact HBW.out | apply below_alloc | apply pw_below_drewN | apply below_drew1) | exact HBW.out))) : w.heap.size ≤ gb101) : w0.heap.size ≤ gb101)); replace HBW := zA_ (below_step HBW.out hb); clear hb hbox hg))
 go_loopg [4] k (fun kq v4 w' => ∃ (x4_1 : Int) (x102002_1 : Int), v4 = .int .i64 x4_1 ∧ Aside0 (spec_l01Source.l0 kq l0 x4_1 l0 0 x102002_1 0 = some (r1, r2, r3, r4)) ∧ Aside0 (kq ≤ k) ∧ Aside0 (w'.heap[gb101]? = some (.cells #[(.slice A0 l0.length c0), .int .i64 0, .int .u64 x102002_1, .int .i64 0] 101 (0, 0))) ∧ Aside0 (Below w.heap.size w w') ∧ Aside0 (Below w0.heap.size w0 w'))
 case atStart => exact ⟨(0), (88172645463325252), βLb, H', ⟨Nat.le_refl _⟩, ⟨zb_ BK101.out⟩, ⟨βpb⟩, ⟨zg1_ HB.out GE101.out⟩⟩
 case round =>
  clear H'
  try clear p2
  obtain ⟨x4_1, x102002_1, rfl, HA, HK1, BK101, HBW, HB⟩ := hrel
  cases gk with
  | zero => exact absurd HA.out (by simp [spec_l01Source.l0])
  | succ k1 =>
   have H := HA.out
   clear HA
   simp only [spec_l01Source.l0] at H
   by_cases c3 : x4_1 < (l0.length : Int)
   · rw [if_pos c3] at H
     have c3b0 : decide (x4_1 < (l0.length : Int)) = true := decide_eq_true c3
     clear c3
     by_cases c4 : x4_1 < 64
     · rw [if_pos c4] at H
       have c4b0 : decide (x4_1 < 64) = true := decide_eq_true c4
       clear c4
       by_cases c5 : 0 ≤ x4_1
       · rw [if_pos c5] at H
         have c5b0 : decide (0 ≤ x4_1) = true := decide_eq_true c5
         clear c5
         have H' := zA_ H
         clear H
         try go_wp2
         replace BK101 := zA_ (blk_drew BK101.out)
         replace HB := zA_ (below_drew1 HB.out)
         replace HBW := zA_ (below_drew1 HBW.out)
         have p102 : 0 ≤ (x4_1 : Int) := of_decide_eq_true βKb
         have q102 : x4_1 < (l0.length : Int) := of_decide_eq_true βKb
         obtain ⟨ad102, e102, hx102_0⟩ := Kd.at_int HR0.out x4_1 p102 q102
         have hw102_0 := hx102_0
         cases e102
         replace hx102_0 := pw_cell_below HB.out hx102_0
         replace p102 := eq_true p102
         replace q102 := eq_true q102
         refine start_ (n := 15) (S := fun w' => w'.cell? ⟨gb101, 0, none⟩ = some (.slice (some ad102) l0.length c0) ∧ w'.cell? ⟨gb101, 1, none⟩ = some (.int .i64 0) ∧ w'.cell? ⟨gb101, 2, none⟩ = some (.int .u64 x102002_1) ∧ w'.cell? ⟨gb101, 3, none⟩ = some (.int .i64 0) ∧ w'.cell? (ad102.add (x4_1).toNat) = some (.int .u8 (rd l0 x4_1))) (ds := [14]) (mr_ [0, 15]) βPb rfl rfl ⟨cy_ BK101.out 0, cy_ BK101.out 1, cy_ BK101.out 2, cy_ BK101.out 3, ((HB.out.cell (World.block_lt_of_cell? _ _ hw102_0)).trans hw102_0)⟩ (fun hHeld => ?_); refine with_tabW spec_l01Source.tab5 spec_l01Source.bits5 (fun HT_ HW_ => ?_)
         generalize wr.drew = w6 at BK101 HB HBW hx102_0 hHeld ⊢
         refine pure_ (i := 0) (N := some 18) (v := ?_) (a' := ?_) (mr_ [1, 14]) rfl rfl (any_of HT_.out βPb) (fun _ _ _ h => h) (Or.inl ⟨(by rfl), ?_⟩) ?_ ?_
         rotate_left; exact pv_; rotate_left; exact pp_
         refine pure_ (i := 1) (N := some 19) (v := ?_) (a' := ?_) (mr_ [2, 13]) rfl rfl (any_of HT_.out βPb) (fun _ _ _ h => h) (Or.inl ⟨(by rfl), ?_⟩) ?_ ?_
         rotate_left; exact pv_; rotate_left; exact pp_
         refine pure_ (i := 2) (N := some 20) (v := ?_) (a' := ?_) (mr_ [3, 12]) rfl rfl (any_of HT_.out βPb) (fun _ _ _ h => h) (Or.inl ⟨(by rfl), ?_⟩) ?_ ?_
         rotate_left; exact pv_; rotate_left; exact pp_
         refine pure_ (i := 3) (N := some 21) (v := ?_) (a' := ?_) (mr_ [4, 11]) rfl rfl (any_of HT_.out βPb) (fun _ _ _ h => h) (Or.inl ⟨(by rfl), ?_⟩) ?_ ?_
         rotate_left; exact pv_; rotate_left; exact pp_
         refine pure_ (i := 5) (N := some 23) (v := ?_) (a' := ?_) (mr_ [4, 1, 1, 9]) rfl rfl (any_of HT_.out βPb) (fun _ _ _ h => h) (Or.inl ⟨(by rfl), ?_⟩) ?_ ?_
         rotate_left; exact pv_; rotate_left; exact pp_
         refine pure_ (i := 6) (N := some 24) (v := ?_) (a' := ?_) (mr_ [4, 1, 2, 8]) rfl rfl (any_of HT_.out βPb) (fun _ _ _ h => h) (Or.inl ⟨(by rfl), ?_⟩) ?_ ?_
         rotate_left; exact pv_; rotate_left; exact pp_
         refine pure_ (i := 7) (N := some 25) (v := ?_) (a' := ?_) (mr_ [4, 1, 3, 7]) rfl rfl (any_of HT_.out βPb) (fun _ _ _ h => h) (Or.inl ⟨(by rfl), ?_⟩) ?_ ?_
         rotate_left; exact pv_; rotate_left; exact pp_
         refine take_ (i := 4) (N := some 22) (v := ?_) (a' := ?_) (mr_ [8, 7]) rfl rfl (take_ofW HT_.out HW_.out βPb) (fun _ _ _ h => h) (Or.inl ⟨(by rfl), ?_⟩) hHeld ?_ ?_
         rotate_left
         · rintro w' ⟨s0, s1, s2, s3, s4⟩
           go_simp
           with_reducible rfl
         rotate_left
         exact pp_
         refine take_ (i := 8) (N := some 26) (v := ?_) (a' := ?_) (mr_ [9, 6]) rfl rfl (take_ofW HT_.out HW_.out βPb) (fun _ _ _ h => h) (Or.inl ⟨(by rfl), ?_⟩) hHeld ?_ ?_
         rotate_left
         · rintro w' ⟨s0, s1, s2, s3, s4⟩
           go_simp
           with_reducible rfl
         rotate_left
         exact pp_
         refine pure_ (i := 9) (N := some 27) (v := ?_) (a' := ?_) (mr_ [10, 5]) rfl rfl (any_of HT_.out βPb) (fun _ _ _ h => h) (Or.inl ⟨(by rfl), ?_⟩) ?_ ?_
         rotate_left; exact pv_; rotate_left; exact pp_
         refine pure_ (i := 10) (N := some 28) (v := ?_) (a' := ?_) (mr_ [11, 4]) rfl rfl (any_of HT_.out βPb) (fun _ _ _ h => h) (Or.inl ⟨(by rfl), ?_⟩) ?_ ?_
         rotate_left; exact pv_; rotate_left; exact pp_
         refine pure_ (i := 11) (N := some 29) (v := ?_) (a' := ?_) (mr_ [12, 3]) rfl rfl (any_of HT_.out βPb) (fun _ _ _ h => h) (Or.inl ⟨(by rfl), ?_⟩) ?_ ?_
         rotate_left; exact pv_; rotate_left; exact pp_
         refine pure_ (i := 12) (N := some 30) (v := ?_) (a' := ?_) (mr_ [13, 2]) rfl rfl (any_of HT_.out βPb) (fun _ _ _ h => h) (Or.inl ⟨(by rfl), ?_⟩) ?_ ?_
         rotate_left; exact pv_; rotate_left; exact pp_
         refine pure_ (i := 13) (N := some 31) (v := ?_) (a' := ?_) (mr_ [14, 1]) rfl rfl (any_of HT_.out βPb) (fun _ _ _ h => h) (Or.inl ⟨(by rfl), ?_⟩) ?_ ?_
         rotate_left; exact pv_; rotate_left; exact pp_
         refine last_ (i := 14) (N := none) (mr_ [15]) rfl rfl (one_of HT_.out βPb) (by decide) (fun K hK => ?_)
         have hs7 := cz_ BK101.out 2 (.int .u64 x102002_1) rfl
         have hfs7 := blk_frozen BK101.out 2
         refine skip_ (w1 := ?_) (by rfl) rfl ?_ ?_
         rotate_left
         · go_simp
           rfl
         refine hK.out _ _ ?_
         clear hK K
         refine done_ (done_of HT_.out βPb) ?_
         try go_wp2
         go_roundg k1
         case measure => have := HK1.out; omega
         case rel => exact ⟨(wrap64 (x4_1 + 1)), (IntKind.u64.wrap ((Go.bits .xor .u64 x102002_1 (IntKind.u64.wrap (rd l0 x4_1))) * 1099511628211)), βLb, H', ⟨βOb⟩, ⟨(by (with_reducible repeat (first | refine blk_drewN ?_ _ | refine blk_drew ?_ | refine blk_alloc ?_ _)); refine blk_put (cs := #[.slice (some ad102) l0.length c0, .int .i64 0, .int .u64 x102002_1, .int .i64 0]) ?_ 2 _ rfl; (with_reducible repeat (first | refine blk_drewN ?_ _ | refine blk_drew ?_ | refine blk_alloc ?_ _)); exact BK101.out)⟩, ⟨βpb⟩, ⟨zg1_ HB.out GE101.out⟩⟩
       · rw [if_neg c5] at H
         exact absurd H (by simp)
     · rw [if_neg c4] at H
       have c4b0 : decide (x4_1 < 64) = false := decide_eq_false c4
       clear c4
       by_cases c8 : (wrap64 ((l0.length : Int) / 20)) > 12
       · rw [if_pos c8] at H
         have c8b0 : decide (12 < (wrap64 ((l0.length : Int) / 20))) = true := decide_eq_true c8
         clear c8
         simp only [Option.some.injEq, Prod.mk.injEq] at H
         obtain ⟨rfl, rfl, rfl, rfl⟩ := H
         have hcz9_0 := cz_ BK101.out 0 (.slice A0 l0.length c0) rfl
         have hcz9_1 := cz_ BK101.out 1 (.int .i64 0) rfl
         have hcz9_2 := cz_ BK101.out 2 (.int .u64 x102002_1) rfl
         have hcz9_3 := cz_ BK101.out 3 (.int .i64 0) rfl
         have hfz9_0 := blk_frozen BK101.out 0
         have hfz9_1 := blk_frozen BK101.out 1
         have hfz9_2 := blk_frozen BK101.out 2
         have hfz9_3 := blk_frozen BK101.out 3
         go_wp2
         go_ret
         exact ⟨_, rfl, (show IsS101 w0 _ gb101 l0 0 x102002_1 12 from ⟨_, _, βb, GE101.out, HR0.out⟩), βqb, βpb⟩
       · rw [if_neg c8] at H
         have c8b0 : decide (12 < (wrap64 ((l0.length : Int) / 20))) = false := decide_eq_false c8
         clear c8
         simp only [Option.some.injEq, Prod.mk.injEq] at H
         obtain ⟨rfl, rfl, rfl, rfl⟩ := H
         have hcz10_0 := cz_ BK101.out 0 (.slice A0 l0.length c0) rfl
         have hcz10_1 := cz_ BK101.out 1 (.int .i64 0) rfl
         have hcz10_2 := cz_ BK101.out 2 (.int .u64 x102002_1) rfl
         have hcz10_3 := cz_ BK101.out 3 (.int .i64 0) rfl
         have hfz10_0 := blk_frozen BK101.out 0
         have hfz10_1 := blk_frozen BK101.out 1
         have hfz10_2 := blk_frozen BK101.out 2
         have hfz10_3 := blk_frozen BK101.out 3
         go_wp2
         go_ret
         exact ⟨_, rfl, (show IsS101 w0 _ gb101 l0 0 x102002_1 (wrap64 ((l0.length : Int) / 20)) from ⟨_, _, βQ, GE101.out, HR0.out⟩), βqb, βpb⟩
   · rw [if_neg c3] at H
     have c3b0 : decide (x4_1 < (l0.length : Int)) = false := decide_eq_false c3
     clear c3
     by_cases c11 : (wrap64 ((l0.length : Int) / 20)) > 12
     · rw [if_pos c11] at H
       have c11b0 : decide (12 < (wrap64 ((l0.length : Int) / 20))) = true := decide_eq_true c11
       clear c11
       simp only [Option.some.injEq, Prod.mk.injEq] at H
       obtain ⟨rfl, rfl, rfl, rfl⟩ := H
       have hcz12_0 := cz_ BK101.out 0 (.slice A0 l0.length c0) rfl
       have hcz12_1 := cz_ BK101.out 1 (.int .i64 0) rfl
       have hcz12_2 := cz_ BK101.out 2 (.int .u64 x102002_1) rfl
       have hcz12_3 := cz_ BK101.out 3 (.int .i64 0) rfl
       have hfz12_0 := blk_frozen BK101.out 0
       have hfz12_1 := blk_frozen BK101.out 1
       have hfz12_2 := blk_frozen BK101.out 2
       have hfz12_3 := blk_frozen BK101.out 3
       go_wp2
       go_ret
       exact ⟨_, rfl, (show IsS101 w0 _ gb101 l0 0 x102002_1 12 from ⟨_, _, βb, GE101.out, HR0.out⟩), βqb, βpb⟩
     · rw [if_neg c11] at H
       have c11b0 : decide (12 < (wrap64 ((l0.length : Int) / 20))) = false := decide_eq_false c11
       clear c11
       simp only [Option.some.injEq, Prod.mk.injEq] at H
       obtain ⟨rfl, rfl, rfl, rfl⟩ := H
       have hcz13_0 := cz_ BK101.out 0 (.slice A0 l0.length c0) rfl
       have hcz13_1 := cz_ BK101.out 1 (.int .i64 0) rfl
       have hcz13_2 := cz_ BK101.out 2 (.int .u64 x102002_1) rfl
       have hcz13_3 := cz_ BK101.out 3 (.int .i64 0) rfl
       have hfz13_0 := blk_frozen BK101.out 0
       have hfz13_1 := blk_frozen BK101.out 1
       have hfz13_2 := blk_frozen BK101.out 2
       have hfz13_3 := blk_frozen BK101.out 3
       go_wp2
       go_ret
       exact ⟨_, rfl, (show IsS101 w0 _ gb101 l0 0 x102002_1 (wrap64 ((l0.length : Int) / 20)) from ⟨_, _, βQ, GE101.out, HR0.out⟩), βqb, βpb⟩
def spec_l03Is.f (a0 : Int) (a1 : Int) (a2 : Int) : Option (Bool) := if a0 ≥ a1 then (some (decide (a0 ≤ a2))) else (some false)
theorem spec_l03Is.calls (a0 : Int) (a1 : Int) (a2 : Int) (r : Bool) (w : World) (h : spec_l03Is.f a0 a1 a2 = some r) :
 Calls Try.prog 57 #[.int .i64 a0, .int .i64 a1, .int .i64 a2] w fun e w' => e = .returned (.bool r) ∧ Drawn0 w w' := by
 have H : (if a0 ≥ a1 then (some (decide (a0 ≤ a2))) else (some false)) = some r := h
 clear h
 by_cases c4 : a0 ≥ a1
 · rw [if_pos c4] at H
   have c4b0 : decide (a1 ≤ a0) = true := decide_eq_true c4
   clear c4
   obtain rfl := Option.some.inj H
   go_enter Try.func57, Try.ntmps57
   go_wp2
   go_ret
   exact ⟨βLb, βIb⟩
 · rw [if_neg c4] at H
   have c4b0 : decide (a1 ≤ a0) = false := decide_eq_false c4
   clear c4
   obtain rfl := Option.some.inj H
   go_enter Try.func57, Try.ntmps57
   go_wp2
   go_ret
   exact ⟨βLb, βIb⟩
mutual
def spec_FlashRight.j0 : Nat → Bool → List ByteArray → List (S83) → Option (Bool)
 | 0, _, _, _ => none
 | k + 1, x24, x104000, x104001 => if x24 = true then (some false) else (spec_FlashRight.l0 k 0 x104000 x104001)
def spec_FlashRight.l0 : Nat → Int → List ByteArray → List (S83) → Option (Bool)
 | 0, _, _, _ => none
 | k + 1, x3, x104000, x104001 => if x3 < (x104000.length : Int) then (if 0 ≤ x3 then (if ((rdOf ByteArray.empty x104000 x3).size : Int) > 96 then (some false) else (spec_FlashRight.l0 k (wrap64 (x3 + 1)) x104000 x104001)) else (none)) else (spec_FlashRight.l1 k 0 x104000 x104001)
def spec_FlashRight.l1 : Nat → Int → List ByteArray → List (S83) → Option (Bool)
 | 0, _, _, _ => none
 | k + 1, x4, x104000, x104001 => if x4 < (x104001.length : Int) then (if 0 ≤ x4 then ((spec_l03Is.f ((rd_T83 x104001 x4).f0) 0 (wrap64 ((x104000.length : Int) - 1))).bind fun t106 => (if t106 = true then (spec_FlashRight.j3 k x4 (decide ((((rd_T83 x104001 x4).f1).size : Int) > 96)) x104000 x104001) else (spec_FlashRight.j3 k x4 true x104000 x104001))) else (none)) else (some true)
def spec_FlashRight.j3 : Nat → Int → Bool → List ByteArray → List (S83) → Option (Bool)
 | 0, _, _, _, _ => none
 | k + 1, x4, x67, x104000, x104001 => if x67 = true then (some false) else (spec_FlashRight.l2 k x4 0 x104000 x104001)
def spec_FlashRight.l2 : Nat → Int → Int → List ByteArray → List (S83) → Option (Bool)
 | 0, _, _, _, _ => none
 | k + 1, x4, x5, x104000, x104001 => if x5 < x4 then (if 0 ≤ x5 then (if x5 < (x104001.length : Int) then (if 0 ≤ x4 then (if x4 < (x104001.length : Int) then (if ((rd_T83 x104001 x5).f0) = ((rd_T83 x104001 x4).f0) then (some false) else (spec_FlashRight.l2 k x4 (wrap64 (x5 + 1)) x104000 x104001)) else (none)) else (none)) else (none)) else (none)) else (spec_FlashRight.l1 k (wrap64 (x4 + 1)) x104000 x104001)
end
def spec_FlashRight.f (k : Nat) (l0_0 : List ByteArray) (l0_1 : List (S83)) : Option (Bool) := if (l0_0.length : Int) < 1 then (spec_FlashRight.j0 k true l0_0 l0_1) else (if (l0_0.length : Int) > 40 then (spec_FlashRight.j0 k true l0_0 l0_1) else (spec_FlashRight.j0 k (decide ((l0_1.length : Int) > (l0_0.length : Int))) l0_0 l0_1))
theorem spec_FlashRight.calls (k : Nat) (A0_0 : Option Addr) (c0_0 : Nat) (l0_0 : List ByteArray) (A0_1 : Option Addr) (c0_1 : Nat) (l0_1 : List (S83)) (r : Bool) (w : World) (hr0_0 : Kd.C Kd.string w A0_0 l0_0.length l0_0) (hc0_0 : l0_0.length ≤ c0_0) (hr0_1 : Kd.C k83 w A0_1 l0_1.length l0_1) (hc0_1 : l0_1.length ≤ c0_1) (h : spec_FlashRight.f k l0_0 l0_1 = some r) :
 Calls Try.prog 25 #[.agg #[.slice A0_0 l0_0.length c0_0, .slice A0_1 l0_1.length c0_1]] w fun e w' => e = .returned (.bool r) ∧ Below w.heap.size w w' := by
 have hu26 := Try.underlying26
 have HR0_0 := zA_ hr0_0
 have HC0_0 := zA_ hc0_0
 clear hr0_0 hc0_0
 have HR0_1 := zA_ hr0_1
 have HC0_1 := zA_ hc0_1
 clear hr0_1 hc0_1
 have HB := zA_ (Below.refl w.heap.size w)
 have H : (if (l0_0.length : Int) < 1 then (spec_FlashRight.j0 k true l0_0 l0_1) else (if (l0_0.length : Int) > 40 then (spec_FlashRight.j0 k true l0_0 l0_1) else (spec_FlashRight.j0 k (decide ((l0_1.length : Int) > (l0_0.length : Int))) l0_0 l0_1))) = some r := h
 clear h
 have HC2 := zA_ H
 clear H
 go_enter Try.func25, Try.ntmps25
 go_upto_region 1 with (first | ((with_reducible refine gate_dst (N := 1) rfl ?_); (try (refine gate_guard (by rfl) ?_; dsimp only)); refine box_event ?hg (N := 1) ?hd (cs := #[.slice A0_0 l0_0.length c0_0, .slice A0_1 l0_1.length c0_1]) (t := 26) ?hr ?_; (case hd => exact (by rfl)); (case hg => exact (by rfl)); (case hr => exact βMb); intro gb103 hg w3 hbox hb; have BK103 := zA_ (hbox); have GW103 := zA_ ((by rw [hg]; exact (below_size (zh_ HB.out)) : w.heap.size ≤ gb103)); have GE103 := zA_ ((by rw [hg]; exact (below_size (zh_ HB.out)) : w.heap.size ≤ gb103)); replace HB := zA_ (below_step (zh_ HB.out) hb); clear hb hbox hg))
 repeat (go_quiet (first | ((with_reducible refine gate_dst (N := 1) rfl ?_); (try (refine gate_guard (by rfl) ?_; dsimp only)); refine box_event ?hg (N := 1) ?hd (cs := #[.slice A0_0 l0_0.length c0_0, .slice A0_1 l0_1.length c0_1]) (t := 26) ?hr ?_; (case hd => exact (by rfl)); (case hg => exact (by rfl)); (case hr => exact βMb); intro gb103 hg w3 hbox hb; have BK103 := zA_ (hbox); have GW103 := zA_ ((by rw [hg]; exact (below_size (zh_ HB.out)) : w.heap.size ≤ gb103)); have GE103 := zA_ ((by rw [hg]; exact (below_size (zh_ HB.out)) : w.heap.size ≤ gb103)); replace HB := zA_ (below_step (zh_ HB.out) hb); clear hb hbox hg)); go_upto_region 1 with (first | ((with_reducible refine gate_dst (N := 1) rfl ?_); (try (refine gate_guard (by rfl) ?_; dsimp only)); refine box_event ?hg (N := 1) ?hd (cs := #[.slice A0_0 l0_0.length c0_0, .slice A0_1 l0_1.length c0_1]) (t := 26) ?hr ?_; (case hd => exact (by rfl)); (case hg => exact (by rfl)); (case hr => exact βMb); intro gb103 hg w3 hbox hb; have BK103 := zA_ (hbox); have GW103 := zA_ ((by rw [hg]; exact (below_size (zh_ HB.out)) : w.heap.size ≤ gb103)); have GE103 := zA_ ((by rw [hg]; exact (below_size (zh_ HB.out)) : w.heap.size ≤ gb103)); replace HB := zA_ (below_step (zh_ HB.out) hb); clear hb hbox hg)))
 (try simp only [Act.put, List.setIfInBounds_toArray, List.set_cons_zero, List.set_cons_succ])
 go_cut [24] (fun v24 wc => ∃ (kq : Nat) (x24_1 : Bool), v24 = .bool x24_1 ∧ Aside0 (spec_FlashRight.j0 kq x24_1 l0_0 l0_1 = some r) ∧ Aside0 (kq ≤ k) ∧ Aside0 (wc.heap[gb103]? = some (.cells #[(.slice A0_0 l0_0.length c0_0), (.slice A0_1 l0_1.length c0_1)] 26 (0, 0))) ∧ Aside0 (Below w.heap.size w wc))
 case first =>
  have H := HC2.out
  clear HC2
  by_cases c4 : (l0_0.length : Int) < 1
  · rw [if_pos c4] at H
    have c4b0 : decide ((l0_0.length : Int) < 1) = true := decide_eq_true c4
    have c4b1 : decide (l0_0.length < 1) = true := decide_eq_true (by omega)
    clear c4
    (first | rw [c4b0] | (simp only [i64_w, i32_w]; rw [c4b0]) | skip)
    have H' := zA_ H
    clear H
    have hcz5_0 := cz_ BK103.out 0 (.slice A0_0 l0_0.length c0_0) rfl
    have hcz5_1 := cz_ BK103.out 1 (.slice A0_1 l0_1.length c0_1) rfl
    have hfz5_0 := blk_frozen BK103.out 0
    have hfz5_1 := blk_frozen BK103.out 1
    go_wp2
    repeat (go_quiet (fail); try go_wp2)
    go_meet
    case rel => exact ⟨_, (true), βLb, H', ⟨βNb⟩, ⟨zb_ BK103.out⟩, ⟨zg1_ HB.out GE103.out⟩⟩
  · rw [if_neg c4] at H
    have c4b0 : decide ((l0_0.length : Int) < 1) = false := decide_eq_false c4
    have c4b1 : decide (l0_0.length < 1) = false := decide_eq_false (by omega)
    clear c4
    (first | rw [c4b0] | (simp only [i64_w, i32_w]; rw [c4b0]) | skip)
    by_cases c6 : (l0_0.length : Int) > 40
    · rw [if_pos c6] at H
      have c6b0 : decide (40 < (l0_0.length : Int)) = true := decide_eq_true c6
      have c6b1 : decide (40 < l0_0.length) = true := decide_eq_true (by omega)
      clear c6
      have H' := zA_ H
      clear H
      have hcz7_0 := cz_ BK103.out 0 (.slice A0_0 l0_0.length c0_0) rfl
      have hcz7_1 := cz_ BK103.out 1 (.slice A0_1 l0_1.length c0_1) rfl
      have hfz7_0 := blk_frozen BK103.out 0
      have hfz7_1 := blk_frozen BK103.out 1
      go_wp2
      repeat (go_quiet (fail); try go_wp2)
      go_meet
      case rel => exact ⟨_, (true), βLb, H', ⟨βNb⟩, ⟨zb_ BK103.out⟩, ⟨zg1_ HB.out GE103.out⟩⟩
    · rw [if_neg c6] at H
      have c6b0 : decide (40 < (l0_0.length : Int)) = false := decide_eq_false c6
      have c6b1 : decide (40 < l0_0.length) = false := decide_eq_false (by omega)
      clear c6
      have H' := zA_ H
      clear H
      have hcz8_0 := cz_ BK103.out 0 (.slice A0_0 l0_0.length c0_0) rfl
      have hcz8_1 := cz_ BK103.out 1 (.slice A0_1 l0_1.length c0_1) rfl
      have hfz8_0 := blk_frozen BK103.out 0
      have hfz8_1 := blk_frozen BK103.out 1
      go_wp2
      repeat (go_quiet (fail); try go_wp2)
      go_meet
      case rel => exact ⟨_, (decide ((l0_1.length : Int) > (l0_0.length : Int))), βLb, H', ⟨βNb⟩, ⟨zb_ BK103.out⟩, ⟨zg1_ HB.out GE103.out⟩⟩
 case rest =>
  clear HC2
  try clear c2
  try clear p2
  try clear c4
  try clear c4b0
  try clear c4b1
  try clear c6
  try clear c6b0
  try clear c6b1
  try clear hcz5_0
  try clear hcz5_1
  try clear hcz7_0
  try clear hcz7_1
  try clear hcz8_0
  try clear hcz8_1
  try clear hfz5_0
  try clear hfz5_1
  try clear hfz7_0
  try clear hfz7_1
  try clear hfz8_0
  try clear hfz8_1
  obtain ⟨kq, x24_1, rfl, HA, HJ1, BK103, HB⟩ := hcut
  cases kq with
  | zero => exact absurd HA.out (by simp [spec_FlashRight.j0])
  | succ kj1 =>
   have H := HA.out
   clear HA
   simp only [spec_FlashRight.j0] at H
   by_cases c9 : x24_1 = true
   · subst c9
     have H1 : (some false) = some r := by rw [if_pos rfl] at H; exact H
     clear H
     have H := H1
     clear H1
     obtain rfl := Option.some.inj H
     go_wp2
     repeat (go_quiet (fail); try go_wp2)
     go_ret
     exact ⟨βFb, βrb⟩
   · replace c9 := Bool.eq_false_iff.mpr c9
     subst c9
     have H1 : (spec_FlashRight.l0 kj1 0 l0_0 l0_1) = some r := by rw [if_neg (show ¬ (false = true) by decide)] at H; exact H
     clear H
     have H := H1
     clear H1
     have H' := zA_ H
     clear H
     go_wp2
     repeat (go_quiet (fail); try go_wp2)
     go_loopg [3] kj1 (fun kq v3 w' => ∃ (x3_2 : Int), v3 = .int .i64 x3_2 ∧ Aside0 (spec_FlashRight.l0 kq x3_2 l0_0 l0_1 = some r) ∧ Aside0 (kq ≤ kj1) ∧ Aside0 (w'.heap[gb103]? = some (.cells #[(.slice A0_0 l0_0.length c0_0), (.slice A0_1 l0_1.length c0_1)] 26 (0, 0))) ∧ Aside0 (Below w.heap.size w w'))
     case atStart => exact ⟨(0), βLb, H', ⟨Nat.le_refl _⟩, ⟨zb_ BK103.out⟩, ⟨zg1_ HB.out GE103.out⟩⟩
     case round =>
      clear H'
      try clear c2
      try clear p2
      try clear c4
      try clear c4b0
      try clear c4b1
      try clear c6
      try clear c6b0
      try clear c6b1
      try clear c9
      try clear hcz5_0
      try clear hcz5_1
      try clear hcz7_0
      try clear hcz7_1
      try clear hcz8_0
      try clear hcz8_1
      try clear hfz5_0
      try clear hfz5_1
      try clear hfz7_0
      try clear hfz7_1
      try clear hfz8_0
      try clear hfz8_1
      try clear p2
      obtain ⟨x3_2, rfl, HA, HK2, BK103, HB⟩ := hrel
      cases gk with
      | zero => exact absurd HA.out (by simp [spec_FlashRight.l0])
      | succ k2 =>
       have H := HA.out
       clear HA
       simp only [spec_FlashRight.l0] at H
       by_cases c10 : x3_2 < (l0_0.length : Int)
       · rw [if_pos c10] at H
         have c10b0 : decide (x3_2 < (l0_0.length : Int)) = true := decide_eq_true c10
         clear c10
         by_cases c11 : 0 ≤ x3_2
         · rw [if_pos c11] at H
           have c11b0 : decide (0 ≤ x3_2) = true := decide_eq_true c11
           clear c11
           by_cases c12 : ((rdOf ByteArray.empty l0_0 x3_2).size : Int) > 96
           · rw [if_pos c12] at H
             have c12b0 : decide (96 < ((rdOf ByteArray.empty l0_0 x3_2).size : Int)) = true := decide_eq_true c12
             have c12b1 : decide (96 < (rdOf ByteArray.empty l0_0 x3_2).size) = true := decide_eq_true (by omega)
             clear c12
             obtain rfl := Option.some.inj H
             have hcz13_0 := cz_ BK103.out 0 (.slice A0_0 l0_0.length c0_0) rfl
             have hcz13_1 := cz_ BK103.out 1 (.slice A0_1 l0_1.length c0_1) rfl
             have hfz13_0 := blk_frozen BK103.out 0
             have hfz13_1 := blk_frozen BK103.out 1
             have p104 : 0 ≤ (x3_2 : Int) := of_decide_eq_true βKb
             have q104 : x3_2 < (l0_0.length : Int) := of_decide_eq_true βKb
             obtain ⟨ad104, e104, hx104_0⟩ := Kd.at_string HR0_0.out x3_2 p104 q104
             cases e104
             replace hx104_0 := bc_ HB.out hx104_0
             replace p104 := eq_true p104
             replace q104 := eq_true q104
             go_wp2
             repeat (go_quiet (fail); try go_wp2)
             go_ret
             exact ⟨βFb, βrb⟩
           · rw [if_neg c12] at H
             have c12b0 : decide (96 < ((rdOf ByteArray.empty l0_0 x3_2).size : Int)) = false := decide_eq_false c12
             have c12b1 : decide (96 < (rdOf ByteArray.empty l0_0 x3_2).size) = false := decide_eq_false (by omega)
             clear c12
             have H' := zA_ H
             clear H
             have hcz14_0 := cz_ BK103.out 0 (.slice A0_0 l0_0.length c0_0) rfl
             have hcz14_1 := cz_ BK103.out 1 (.slice A0_1 l0_1.length c0_1) rfl
             have hfz14_0 := blk_frozen BK103.out 0
             have hfz14_1 := blk_frozen BK103.out 1
             have p104 : 0 ≤ (x3_2 : Int) := of_decide_eq_true βKb
             have q104 : x3_2 < (l0_0.length : Int) := of_decide_eq_true βKb
             obtain ⟨ad104, e104, hx104_0⟩ := Kd.at_string HR0_0.out x3_2 p104 q104
             cases e104
             replace hx104_0 := bc_ HB.out hx104_0
             replace p104 := eq_true p104
             replace q104 := eq_true q104
             go_wp2
             repeat (go_quiet (fail); try go_wp2)
             go_roundg k2
             case measure => have := HJ1.out; have := HK2.out; omega
             case rel => exact ⟨(wrap64 (x3_2 + 1)), βLb, H', ⟨(by have := HJ1.out; have := HK2.out; omega)⟩, ⟨zb_ BK103.out⟩, ⟨zg1_ HB.out GE103.out⟩⟩
         · rw [if_neg c11] at H
           exact absurd H (by simp)
       · rw [if_neg c10] at H
         have c10b0 : decide (x3_2 < (l0_0.length : Int)) = false := decide_eq_false c10
         clear c10
         have H' := zA_ H
         clear H
         have hcz15_0 := cz_ BK103.out 0 (.slice A0_0 l0_0.length c0_0) rfl
         have hcz15_1 := cz_ BK103.out 1 (.slice A0_1 l0_1.length c0_1) rfl
         have hfz15_0 := blk_frozen BK103.out 0
         have hfz15_1 := blk_frozen BK103.out 1
         go_wp2
         repeat (go_quiet (fail); try go_wp2)
         go_loopg [4] k2 (fun kq v4 w' => ∃ (x4_3 : Int), v4 = .int .i64 x4_3 ∧ Aside0 (spec_FlashRight.l1 kq x4_3 l0_0 l0_1 = some r) ∧ Aside0 (kq ≤ k2) ∧ Aside0 (w'.heap[gb103]? = some (.cells #[(.slice A0_0 l0_0.length c0_0), (.slice A0_1 l0_1.length c0_1)] 26 (0, 0))) ∧ Aside0 (Below w.heap.size w w'))
         case atStart => exact ⟨(0), βLb, H', ⟨Nat.le_refl _⟩, ⟨zb_ BK103.out⟩, ⟨zg1_ HB.out GE103.out⟩⟩
         case round =>
          clear H'
          try clear c1
          try clear p1
          try clear q1
          try clear hx1
          try clear c2
          try clear p2
          try clear c4
          try clear c4b0
          try clear c4b1
          try clear c6
          try clear c6b0
          try clear c6b1
          try clear p6
          try clear c9
          try clear c10
          try clear c10b0
          try clear p10
          try clear q10
          try clear hx10
          try clear c11
          try clear c11b0
          try clear c12
          try clear c12b0
          try clear c12b1
          try clear hcz13_0
          try clear hcz13_1
          try clear hcz14_0
          try clear hcz14_1
          try clear hcz15_0
          try clear hcz15_1
          try clear hcz5_0
          try clear hcz5_1
          try clear hcz7_0
          try clear hcz7_1
          try clear hcz8_0
          try clear hcz8_1
          try clear hfz13_0
          try clear hfz13_1
          try clear hfz14_0
          try clear hfz14_1
          try clear hfz15_0
          try clear hfz15_1
          try clear hfz5_0
          try clear hfz5_1
          try clear hfz7_0
          try clear hfz7_1
          try clear hfz8_0
          try clear hfz8_1
          try clear hx104_0
          try clear p104
          try clear p2
          try clear q104
          obtain ⟨x4_3, rfl, HA, HK3, BK103, HB⟩ := hrel
          cases gk with
          | zero => exact absurd HA.out (by simp [spec_FlashRight.l1])
          | succ k3 =>
           have H := HA.out
           clear HA
           simp only [spec_FlashRight.l1] at H
           by_cases c16 : x4_3 < (l0_1.length : Int)
           · rw [if_pos c16] at H
             have c16b0 : decide (x4_3 < (l0_1.length : Int)) = true := decide_eq_true c16
             clear c16
             have HC17 := zA_ H
             clear H
             have hcz18_0 := cz_ BK103.out 0 (.slice A0_0 l0_0.length c0_0) rfl
             have hcz18_1 := cz_ BK103.out 1 (.slice A0_1 l0_1.length c0_1) rfl
             have hfz18_0 := blk_frozen BK103.out 0
             have hfz18_1 := blk_frozen BK103.out 1
             go_upto_region 11 with (fail)
             repeat (go_quiet (fail); go_upto_region 11 with (fail))
             go_cut [67] (fun v67 wc => ∃ (kq : Nat) (x67_16 : Bool), v67 = .bool x67_16 ∧ Aside0 (spec_FlashRight.j3 kq x4_3 x67_16 l0_0 l0_1 = some r) ∧ Aside0 (kq ≤ k3) ∧ Aside0 (wc.heap[gb103]? = some (.cells #[(.slice A0_0 l0_0.length c0_0), (.slice A0_1 l0_1.length c0_1)] 26 (0, 0))) ∧ Aside0 (Below w.heap.size w wc))
             case first =>
              have H := HC17.out
              clear HC17
              by_cases c19 : 0 ≤ x4_3
              · rw [if_pos c19] at H
                have c19b0 : decide (0 ≤ x4_3) = true := decide_eq_true c19
                clear c19
                (first | rw [c19b0] | (simp only [i64_w, i32_w]; rw [c19b0]) | skip)
                replace H := Option.bind_eq_some_iff.mp H
                obtain ⟨t106, A200, H⟩ := H
                (try dsimp -simprocs only at H)
                have A20 := zA_ A200
                clear A200
                by_cases c21 : t106 = true
                · subst c21
                  have H1 : (spec_FlashRight.j3 k3 x4_3 (decide ((((rd_T83 l0_1 x4_3).f1).size : Int) > 96)) l0_0 l0_1) = some r := by rw [if_pos rfl] at H; exact H
                  clear H
                  have H := H1
                  clear H1
                  have H' := zA_ H
                  clear H
                  have hcz22_0 := cz_ BK103.out 0 (.slice A0_0 l0_0.length c0_0) rfl
                  have hcz22_1 := cz_ BK103.out 1 (.slice A0_1 l0_1.length c0_1) rfl
                  have hfz22_0 := blk_frozen BK103.out 0
                  have hfz22_1 := blk_frozen BK103.out 1
                  have p105 : 0 ≤ (x4_3 : Int) := of_decide_eq_true βKb
                  have q105 : x4_3 < (l0_1.length : Int) := of_decide_eq_true βKb
                  obtain ⟨ad105, e105, hx105_0, hx105_1⟩ := at_T83 HR0_1.out x4_3 p105 q105
                  cases e105
                  replace hx105_0 := bc_ HB.out hx105_0
                  replace hx105_1 := bc_ HB.out hx105_1
                  replace p105 := eq_true p105
                  replace q105 := eq_true q105
                  go_wp2_with (first | (go_at_call 57; (with_reducible refine (spec_l03Is.calls ((rd_T83 l0_1 x4_3).f0) 0 (wrap64 ((l0_0.length : Int) - 1)) true _ A20.out).mono ?_); rintro e w' ⟨rfl, ⟨nd, rfl⟩⟩; have p107 : 0 ≤ (x4_3 : Int) := of_decide_eq_true βKb; have q107 : x4_3 < (l0_1.length : Int) := of_decide_eq_true βKb; obtain ⟨ad107, e107, hx107_0, hx107_1⟩ := at_T83 HR0_1.out x4_3 p107 q107; obtain rfl : ad105 = ad107 := (by injection e107); replace hx107_0 := bc_ HB.out hx107_0; replace hx107_1 := bc_ HB.out hx107_1; replace p107 := eq_true p107; replace q107 := eq_true q107; (try exact βzb)))
                  repeat (go_quiet (first | (go_at_call 57; (with_reducible refine (spec_l03Is.calls ((rd_T83 l0_1 x4_3).f0) 0 (wrap64 ((l0_0.length : Int) - 1)) true _ A20.out).mono ?_); rintro e w' ⟨rfl, ⟨nd, rfl⟩⟩; have p107 : 0 ≤ (x4_3 : Int) := of_decide_eq_true βKb; have q107 : x4_3 < (l0_1.length : Int) := of_decide_eq_true βKb; obtain ⟨ad107, e107, hx107_0, hx107_1⟩ := at_T83 HR0_1.out x4_3 p107 q107; obtain rfl : ad105 = ad107 := (by injection e107); replace hx107_0 := bc_ HB.out hx107_0; replace hx107_1 := bc_ HB.out hx107_1; replace p107 := eq_true p107; replace q107 := eq_true q107; (try exact βzb))); try go_wp2_with (first | (go_at_call 57; (with_reducible refine (spec_l03Is.calls ((rd_T83 l0_1 x4_3).f0) 0 (wrap64 ((l0_0.length : Int) - 1)) true _ A20.out).mono ?_); rintro e w' ⟨rfl, ⟨nd, rfl⟩⟩; have p107 : 0 ≤ (x4_3 : Int) := of_decide_eq_true βKb; have q107 : x4_3 < (l0_1.length : Int) := of_decide_eq_true βKb; obtain ⟨ad107, e107, hx107_0, hx107_1⟩ := at_T83 HR0_1.out x4_3 p107 q107; obtain rfl : ad105 = ad107 := (by injection e107); replace hx107_0 := bc_ HB.out hx107_0; replace hx107_1 := bc_ HB.out hx107_1; replace p107 := eq_true p107; replace q107 := eq_true q107; (try exact βzb))))
                  go_meet
                  case rel => exact ⟨_, (decide ((((rd_T83 l0_1 x4_3).f1).size : Int) > 96)), βLb, H', ⟨(by have := HJ1.out; have := HK2.out; have := HK3.out; first | omega | exact Nat.le_refl _)⟩, ⟨zb_ BK103.out⟩, ⟨zg1_ HB.out GE103.out⟩⟩
                · replace c21 := Bool.eq_false_iff.mpr c21
                  subst c21
                  have H1 : (spec_FlashRight.j3 k3 x4_3 true l0_0 l0_1) = some r := by rw [if_neg (show ¬ (false = true) by decide)] at H; exact H
                  clear H
                  have H := H1
                  clear H1
                  have H' := zA_ H
                  clear H
                  have hcz23_0 := cz_ BK103.out 0 (.slice A0_0 l0_0.length c0_0) rfl
                  have hcz23_1 := cz_ BK103.out 1 (.slice A0_1 l0_1.length c0_1) rfl
                  have hfz23_0 := blk_frozen BK103.out 0
                  have hfz23_1 := blk_frozen BK103.out 1
                  have p105 : 0 ≤ (x4_3 : Int) := of_decide_eq_true βKb
                  have q105 : x4_3 < (l0_1.length : Int) := of_decide_eq_true βKb
                  obtain ⟨ad105, e105, hx105_0, hx105_1⟩ := at_T83 HR0_1.out x4_3 p105 q105
                  cases e105
                  replace hx105_0 := bc_ HB.out hx105_0
                  replace hx105_1 := bc_ HB.out hx105_1
                  replace p105 := eq_true p105
                  replace q105 := eq_true q105
                  go_wp2_with (first | (go_at_call 57; (with_reducible refine (spec_l03Is.calls ((rd_T83 l0_1 x4_3).f0) 0 (wrap64 ((l0_0.length : Int) - 1)) false _ A20.out).mono ?_); rintro e w' ⟨rfl, ⟨nd, rfl⟩⟩; (try exact βzb)))
                  repeat (go_quiet (first | (go_at_call 57; (with_reducible refine (spec_l03Is.calls ((rd_T83 l0_1 x4_3).f0) 0 (wrap64 ((l0_0.length : Int) - 1)) false _ A20.out).mono ?_); rintro e w' ⟨rfl, ⟨nd, rfl⟩⟩; (try exact βzb))); try go_wp2_with (first | (go_at_call 57; (with_reducible refine (spec_l03Is.calls ((rd_T83 l0_1 x4_3).f0) 0 (wrap64 ((l0_0.length : Int) - 1)) false _ A20.out).mono ?_); rintro e w' ⟨rfl, ⟨nd, rfl⟩⟩; (try exact βzb))))
                  go_meet
                  case rel => exact ⟨_, (true), βLb, H', ⟨(by have := HJ1.out; have := HK2.out; have := HK3.out; first | omega | exact Nat.le_refl _)⟩, ⟨zb_ BK103.out⟩, ⟨zg1_ HB.out GE103.out⟩⟩
              · rw [if_neg c19] at H
                exact absurd H (by simp)
             case rest =>
              clear HC17
              try clear c1
              try clear p1
              try clear q1
              try clear hx1
              try clear c2
              try clear p2
              try clear c4
              try clear c4b0
              try clear c4b1
              try clear c6
              try clear c6b0
              try clear c6b1
              try clear p6
              try clear c9
              try clear c10
              try clear c10b0
              try clear p10
              try clear q10
              try clear hx10
              try clear c11
              try clear c11b0
              try clear c12
              try clear c12b0
              try clear c12b1
              try clear c16
              try clear c16b0
              try clear c19
              try clear c19b0
              try clear c21
              try clear hcz13_0
              try clear hcz13_1
              try clear hcz14_0
              try clear hcz14_1
              try clear hcz15_0
              try clear hcz15_1
              try clear hcz18_0
              try clear hcz18_1
              try clear hcz22_0
              try clear hcz22_1
              try clear hcz23_0
              try clear hcz23_1
              try clear hcz5_0
              try clear hcz5_1
              try clear hcz7_0
              try clear hcz7_1
              try clear hcz8_0
              try clear hcz8_1
              try clear hfz13_0
              try clear hfz13_1
              try clear hfz14_0
              try clear hfz14_1
              try clear hfz15_0
              try clear hfz15_1
              try clear hfz18_0
              try clear hfz18_1
              try clear hfz22_0
              try clear hfz22_1
              try clear hfz23_0
              try clear hfz23_1
              try clear hfz5_0
              try clear hfz5_1
              try clear hfz7_0
              try clear hfz7_1
              try clear hfz8_0
              try clear hfz8_1
              try clear hx104_0
              try clear hx105_0
              try clear hx105_1
              try clear hx107_0
              try clear hx107_1
              try clear p1
              try clear p10
              try clear p104
              try clear p105
              try clear p107
              try clear p2
              try clear p6
              try clear q1
              try clear q10
              try clear q104
              try clear q105
              try clear q107
              obtain ⟨kq, x67_16, rfl, HA, HJ16, BK103, HB⟩ := hcut
              cases kq with
              | zero => exact absurd HA.out (by simp [spec_FlashRight.j3])
              | succ kj16 =>
               have H := HA.out
               clear HA
               simp only [spec_FlashRight.j3] at H
               by_cases c24 : x67_16 = true
               · subst c24
                 have H1 : (some false) = some r := by rw [if_pos rfl] at H; exact H
                 clear H
                 have H := H1
                 clear H1
                 obtain rfl := Option.some.inj H
                 go_wp2
                 repeat (go_quiet (fail); try go_wp2)
                 go_ret
                 exact ⟨βFb, βrb⟩
               · replace c24 := Bool.eq_false_iff.mpr c24
                 subst c24
                 have H1 : (spec_FlashRight.l2 kj16 x4_3 0 l0_0 l0_1) = some r := by rw [if_neg (show ¬ (false = true) by decide)] at H; exact H
                 clear H
                 have H := H1
                 clear H1
                 have H' := zA_ H
                 clear H
                 go_wp2
                 repeat (go_quiet (fail); try go_wp2)
                 go_loopg [5] kj16 (fun kq v5 w' => ∃ (x5_5 : Int), v5 = .int .i64 x5_5 ∧ Aside0 (spec_FlashRight.l2 kq x4_3 x5_5 l0_0 l0_1 = some r) ∧ Aside0 (kq ≤ kj16) ∧ Aside0 (w'.heap[gb103]? = some (.cells #[(.slice A0_0 l0_0.length c0_0), (.slice A0_1 l0_1.length c0_1)] 26 (0, 0))) ∧ Aside0 (Below w.heap.size w w'))
                 case atStart => exact ⟨(0), βLb, H', ⟨Nat.le_refl _⟩, ⟨zb_ BK103.out⟩, ⟨zg1_ HB.out GE103.out⟩⟩
                 case round =>
                  clear H'
                  try clear c1
                  try clear p1
                  try clear q1
                  try clear hx1
                  try clear c2
                  try clear p2
                  try clear c4
                  try clear c4b0
                  try clear c4b1
                  try clear c6
                  try clear c6b0
                  try clear c6b1
                  try clear p6
                  try clear c9
                  try clear c10
                  try clear c10b0
                  try clear p10
                  try clear q10
                  try clear hx10
                  try clear c11
                  try clear c11b0
                  try clear c12
                  try clear c12b0
                  try clear c12b1
                  try clear c16
                  try clear c16b0
                  try clear c19
                  try clear c19b0
                  try clear c21
                  try clear c24
                  try clear hcz13_0
                  try clear hcz13_1
                  try clear hcz14_0
                  try clear hcz14_1
                  try clear hcz15_0
                  try clear hcz15_1
                  try clear hcz18_0
                  try clear hcz18_1
                  try clear hcz22_0
                  try clear hcz22_1
                  try clear hcz23_0
                  try clear hcz23_1
                  try clear hcz5_0
                  try clear hcz5_1
                  try clear hcz7_0
                  try clear hcz7_1
                  try clear hcz8_0
                  try clear hcz8_1
                  try clear hfz13_0
                  try clear hfz13_1
                  try clear hfz14_0
                  try clear hfz14_1
                  try clear hfz15_0
                  try clear hfz15_1
                  try clear hfz18_0
                  try clear hfz18_1
                  try clear hfz22_0
                  try clear hfz22_1
                  try clear hfz23_0
                  try clear hfz23_1
                  try clear hfz5_0
                  try clear hfz5_1
                  try clear hfz7_0
                  try clear hfz7_1
                  try clear hfz8_0
                  try clear hfz8_1
                  try clear hx104_0
                  try clear hx105_0
                  try clear hx105_1
                  try clear hx107_0
                  try clear hx107_1
                  try clear p1
                  try clear p10
                  try clear p104
                  try clear p105
                  try clear p107
                  try clear p2
                  try clear p6
                  try clear q1
                  try clear q10
                  try clear q104
                  try clear q105
                  try clear q107
                  obtain ⟨x5_5, rfl, HA, HK5, BK103, HB⟩ := hrel
                  cases gk with
                  | zero => exact absurd HA.out (by simp [spec_FlashRight.l2])
                  | succ k5 =>
                   have H := HA.out
                   clear HA
                   simp only [spec_FlashRight.l2] at H
                   by_cases c25 : x5_5 < x4_3
                   · rw [if_pos c25] at H
                     have c25b0 : decide (x5_5 < x4_3) = true := decide_eq_true c25
                     clear c25
                     by_cases c26 : 0 ≤ x5_5
                     · rw [if_pos c26] at H
                       have c26b0 : decide (0 ≤ x5_5) = true := decide_eq_true c26
                       clear c26
                       by_cases c27 : x5_5 < (l0_1.length : Int)
                       · rw [if_pos c27] at H
                         have c27b0 : decide (x5_5 < (l0_1.length : Int)) = true := decide_eq_true c27
                         clear c27
                         by_cases c28 : 0 ≤ x4_3
                         · rw [if_pos c28] at H
                           have c28b0 : decide (0 ≤ x4_3) = true := decide_eq_true c28
                           clear c28
                           by_cases c29 : x4_3 < (l0_1.length : Int)
                           · rw [if_pos c29] at H
                             have c29b0 : decide (x4_3 < (l0_1.length : Int)) = true := decide_eq_true c29
                             clear c29
                             by_cases c30 : ((rd_T83 l0_1 x5_5).f0) = ((rd_T83 l0_1 x4_3).f0)
                             · rw [if_pos c30] at H
                               have c30b0 : (((rd_T83 l0_1 x5_5).f0) == ((rd_T83 l0_1 x4_3).f0)) = true := beq_iff_eq.mpr c30
                               have c30b1 : (((rd_T83 l0_1 x5_5).f0) != ((rd_T83 l0_1 x4_3).f0)) = false := bne_eq_false_iff_eq.mpr c30
                               clear c30
                               obtain rfl := Option.some.inj H
                               have hcz31_0 := cz_ BK103.out 0 (.slice A0_0 l0_0.length c0_0) rfl
                               have hcz31_1 := cz_ BK103.out 1 (.slice A0_1 l0_1.length c0_1) rfl
                               have hfz31_0 := blk_frozen BK103.out 0
                               have hfz31_1 := blk_frozen BK103.out 1
                               have p108 : 0 ≤ (x5_5 : Int) := of_decide_eq_true βKb
                               have q108 : x5_5 < (l0_1.length : Int) := of_decide_eq_true βKb
                               obtain ⟨ad108, e108, hx108_0, hx108_1⟩ := at_T83 HR0_1.out x5_5 p108 q108
                               cases e108
                               replace hx108_0 := bc_ HB.out hx108_0
                               replace hx108_1 := bc_ HB.out hx108_1
                               replace p108 := eq_true p108
                               replace q108 := eq_true q108
                               have p109 : 0 ≤ (x4_3 : Int) := of_decide_eq_true βKb
                               have q109 : x4_3 < (l0_1.length : Int) := of_decide_eq_true βKb
                               obtain ⟨ad109, e109, hx109_0, hx109_1⟩ := at_T83 HR0_1.out x4_3 p109 q109
                               obtain rfl : ad108 = ad109 := (by injection e109)
                               replace hx109_0 := bc_ HB.out hx109_0
                               replace hx109_1 := bc_ HB.out hx109_1
                               replace p109 := eq_true p109
                               replace q109 := eq_true q109
                               go_wp2
                               repeat (go_quiet (fail); try go_wp2)
                               go_ret
                               exact ⟨βFb, βrb⟩
                             · rw [if_neg c30] at H
                               have c30b0 : (((rd_T83 l0_1 x5_5).f0) == ((rd_T83 l0_1 x4_3).f0)) = false := beq_eq_false_iff_ne.mpr c30
                               have c30b1 : (((rd_T83 l0_1 x5_5).f0) != ((rd_T83 l0_1 x4_3).f0)) = true := bne_iff_ne.mpr c30
                               have H' := zA_ H
                               clear H
                               have hcz32_0 := cz_ BK103.out 0 (.slice A0_0 l0_0.length c0_0) rfl
                               have hcz32_1 := cz_ BK103.out 1 (.slice A0_1 l0_1.length c0_1) rfl
                               have hfz32_0 := blk_frozen BK103.out 0
                               have hfz32_1 := blk_frozen BK103.out 1
                               have p108 : 0 ≤ (x5_5 : Int) := of_decide_eq_true βKb
                               have q108 : x5_5 < (l0_1.length : Int) := of_decide_eq_true βKb
                               obtain ⟨ad108, e108, hx108_0, hx108_1⟩ := at_T83 HR0_1.out x5_5 p108 q108
                               cases e108
                               replace hx108_0 := bc_ HB.out hx108_0
                               replace hx108_1 := bc_ HB.out hx108_1
                               replace p108 := eq_true p108
                               replace q108 := eq_true q108
                               have p109 : 0 ≤ (x4_3 : Int) := of_decide_eq_true βKb
                               have q109 : x4_3 < (l0_1.length : Int) := of_decide_eq_true βKb
                               obtain ⟨ad109, e109, hx109_0, hx109_1⟩ := at_T83 HR0_1.out x4_3 p109 q109
                               obtain rfl : ad108 = ad109 := (by injection e109)
                               replace hx109_0 := bc_ HB.out hx109_0
                               replace hx109_1 := bc_ HB.out hx109_1
                               replace p109 := eq_true p109
                               replace q109 := eq_true q109
                               go_wp2
                               repeat (go_quiet (fail); try go_wp2)
                               go_roundg k5
                               case measure => have := HJ1.out; have := HK2.out; have := HK3.out; have := HJ16.out; have := HK5.out; omega
                               case rel => exact ⟨(wrap64 (x5_5 + 1)), βLb, H', ⟨(by have := HJ1.out; have := HK2.out; have := HK3.out; have := HJ16.out; have := HK5.out; omega)⟩, ⟨zb_ BK103.out⟩, ⟨zg1_ HB.out GE103.out⟩⟩
                           · rw [if_neg c29] at H
                             exact absurd H (by simp)
                         · rw [if_neg c28] at H
                           exact absurd H (by simp)
                       · rw [if_neg c27] at H
                         exact absurd H (by simp)
                     · rw [if_neg c26] at H
                       exact absurd H (by simp)
                   · rw [if_neg c25] at H
                     have c25b0 : decide (x5_5 < x4_3) = false := decide_eq_false c25
                     clear c25
                     have H' := zA_ H
                     clear H
                     go_wp2
                     repeat (go_quiet (fail); try go_wp2)
                     go_roundg k5
                     case measure => have := HJ1.out; have := HK2.out; have := HK3.out; have := HJ16.out; have := HK5.out; omega
                     case rel => exact ⟨(wrap64 (x4_3 + 1)), βLb, H', ⟨(by have := HJ1.out; have := HK2.out; have := HK3.out; have := HJ16.out; have := HK5.out; omega)⟩, ⟨zb_ BK103.out⟩, ⟨zg1_ HB.out GE103.out⟩⟩
           · rw [if_neg c16] at H
             have c16b0 : decide (x4_3 < (l0_1.length : Int)) = false := decide_eq_false c16
             clear c16
             obtain rfl := Option.some.inj H
             have hcz33_0 := cz_ BK103.out 0 (.slice A0_0 l0_0.length c0_0) rfl
             have hcz33_1 := cz_ BK103.out 1 (.slice A0_1 l0_1.length c0_1) rfl
             have hfz33_0 := blk_frozen BK103.out 0
             have hfz33_1 := blk_frozen BK103.out 1
             go_wp2
             repeat (go_quiet (fail); try go_wp2)
             go_ret
             exact ⟨βFb, βrb⟩
def spec_l03Ill.f (a0 : Int) : Option (List ByteArray × (List (S83)) × ByteArray × Int) := some (([] : List ByteArray), ([] : List (S83)), (⟨#[]⟩ : ByteArray), a0)
theorem spec_l03Ill.calls (a0 : Int) (r1 : List ByteArray) (r2 : List (S83)) (r3 : ByteArray) (r4 : Int) (w : World) (h : spec_l03Ill.f a0 = some (r1, r2, r3, r4)) :
 Calls Try.prog 56 #[.int .i64 a0] w fun e w' => ∃ v0_ v1_ : Value, e = .returned (.agg #[v0_, v1_, .string r3, .int .i64 r4]) ∧ Kd.R Kd.string 9 w' w.heap.size (fun _ => True) v0_ r1 ∧ Kd.R k83 83 w' w.heap.size (fun _ => True) v1_ r2 ∧ Below w.heap.size w w' := by
 have hu30 := Try.underlying30
 have HB := zA_ (Below.refl w.heap.size w)
 have H : (some (([] : List ByteArray), ([] : List (S83)), (⟨#[]⟩ : ByteArray), a0)) = some (r1, r2, r3, r4) := h
 clear h
 simp only [Option.some.injEq, Prod.mk.injEq] at H
 obtain ⟨rfl, rfl, rfl, rfl⟩ := H
 go_enter Try.func56, Try.ntmps56
 go_wp2_with (first | ((with_reducible refine gate_dst (N := 2) rfl ?_); refine box_event ?hg (N := 2) ?hd (cs := #[.slice none 0 0, .slice none 0 0, .string (⟨#[]⟩ : ByteArray), .int .i64 0]) (t := 30) ?hr ?_; (case hd => exact (by rfl)); (case hg => exact (by rfl)); (case hr => exact βMb); intro gb110 hg w2 hbox hb; have BK110 := zA_ (hbox); have GW110 := zA_ ((by rw [hg]; exact (below_size (zh_ HB.out)) : w.heap.size ≤ gb110)); have GE110 := zA_ ((by rw [hg]; exact (below_size (zh_ HB.out)) : w.heap.size ≤ gb110)); replace HB := zA_ (below_step (zh_ HB.out) hb); clear hb hbox hg; have hcz3_0 := cz_ BK110.out 0 (.slice none 0 0) rfl; have hcz3_1 := cz_ BK110.out 1 (.slice none 0 0) rfl; have hcz3_2 := cz_ BK110.out 2 (.string (⟨#[]⟩ : ByteArray)) rfl; have hcz3_3 := cz_ BK110.out 3 (.int .i64 0) rfl; have hfz3_0 := blk_frozen BK110.out 0; have hfz3_1 := blk_frozen BK110.out 1; have hfz3_2 := blk_frozen BK110.out 2; have hfz3_3 := blk_frozen BK110.out 3))
 refine bodyPost_ret (results_cell_row rfl _ _ gb110 30 #[.slice none 0 0, .slice none 0 0, .string (⟨#[]⟩ : ByteArray), .int .i64 a0] (0, 0) _ rfl (by (with_reducible repeat (first | refine blk_drewN ?_ _ | refine blk_drew ?_ | refine blk_alloc ?_ _)); refine blk_put (cs := #[.slice none 0 0, .slice none 0 0, .string (⟨#[]⟩ : ByteArray), .int .i64 0]) ?_ 3 _ rfl; (with_reducible repeat (first | refine blk_drewN ?_ _ | refine blk_drew ?_ | refine blk_alloc ?_ _)); refine blk_put (cs := #[.slice none 0 0, .slice none 0 0, .string (⟨#[]⟩ : ByteArray), .int .i64 0]) ?_ 2 _ rfl; (with_reducible repeat (first | refine blk_drewN ?_ _ | refine blk_drew ?_ | refine blk_alloc ?_ _)); refine blk_put (cs := #[.slice none 0 0, .slice none 0 0, .string (⟨#[]⟩ : ByteArray), .int .i64 0]) ?_ 1 _ rfl; (with_reducible repeat (first | refine blk_drewN ?_ _ | refine blk_drew ?_ | refine blk_alloc ?_ _)); refine blk_put (cs := #[.slice none 0 0, .slice none 0 0, .string (⟨#[]⟩ : ByteArray), .int .i64 0]) ?_ 0 _ rfl; (with_reducible repeat (first | refine blk_drewN ?_ _ | refine blk_drew ?_ | refine blk_alloc ?_ _)); exact BK110.out) Try.underlying30 rfl βPb) rfl ?_
 exact ⟨_, _, βFb, βBb, βBb, (by repeat (first | (with_reducible first | exact HB.out | apply below_alloc | apply pw_below_drewN | apply below_drew1 | refine below_set ?_ GE110.out) | exact HB.out))⟩
def spec_l03Copy.f (l0_0 : List ByteArray) (l0_1 : List (S83)) : Option (List ByteArray × (List (S83))) := (some (([] : List ByteArray) : List ByteArray)).bind fun y113 => (if y113.length + l0_0.length < 8796093022208 then ((some (([] : List (S83)) : List (S83))).bind fun y119 => (if y119.length + l0_1.length < 5864062014805 then (some ((y113 ++ l0_0), (y119 ++ l0_1))) else (none))) else (none))
def spec_l03Copy.T1 : Bool × List (List Nat × List Nat) := (true, [([], []), ([], []), ([1], [1]), ([0, 2], [0, 2]), ([], []), ([], []), ([5], [5]), ([4, 6, 3], [4, 6]), ([3, 7], [3, 7]), ([8, 7, 0, 1, 2, 3, 4, 5, 6, 7, 8], [8])])
def spec_l03Copy.B1 : List Nat := [0, 0, 2, 7, 0, 0, 32, 127, 255, 511]
theorem spec_l03Copy.tab1 : rtab .any (opsOf Try.f60 1) = spec_l03Copy.T1 := by kernel_rfl
theorem spec_l03Copy.bits1 : waitsOk spec_l03Copy.T1.2 spec_l03Copy.B1 = true := by kernel_rfl
theorem spec_l03Copy.calls (A0_0 : Option Addr) (c0_0 : Nat) (l0_0 : List ByteArray) (A0_1 : Option Addr) (c0_1 : Nat) (l0_1 : List (S83)) (r1 : List ByteArray) (r2 : List (S83)) (w : World) (hr0_0 : Kd.C Kd.string w A0_0 l0_0.length l0_0) (hc0_0 : l0_0.length ≤ c0_0) (hr0_1 : Kd.C k83 w A0_1 l0_1.length l0_1) (hc0_1 : l0_1.length ≤ c0_1) (h : spec_l03Copy.f l0_0 l0_1 = some (r1, r2)) :
 Calls Try.prog 60 #[.agg #[.slice A0_0 l0_0.length c0_0, .slice A0_1 l0_1.length c0_1]] w fun e w' => ∃ v0_ v1_ : Value, e = .returned (.agg #[v0_, v1_]) ∧ Kd.R Kd.string 9 w' w.heap.size (fun _ => True) v0_ r1 ∧ Kd.R k83 83 w' w.heap.size (fun _ => True) v1_ r2 ∧ Below w.heap.size w w' := by
 have hu26 := Try.underlying26
 have HR0_0 := zA_ hr0_0
 have HC0_0 := zA_ hc0_0
 clear hr0_0 hc0_0
 have HR0_1 := zA_ hr0_1
 have HC0_1 := zA_ hc0_1
 clear hr0_1 hc0_1
 have HB := zA_ (Below.refl w.heap.size w)
 have H : ((some (([] : List ByteArray) : List ByteArray)).bind fun y113 => (if y113.length + l0_0.length < 8796093022208 then ((some (([] : List (S83)) : List (S83))).bind fun y119 => (if y119.length + l0_1.length < 5864062014805 then (some ((y113 ++ l0_0), (y119 ++ l0_1))) else (none))) else (none))) = some (r1, r2) := h
 clear h
 obtain ⟨y113, hy113⟩ : ∃ y_ : List ByteArray, y_ = (([] : List ByteArray)) := ⟨_, rfl⟩
 replace H : (if y113.length + l0_0.length < 8796093022208 then ((some (([] : List (S83)) : List (S83))).bind fun y119 => (if y119.length + l0_1.length < 5864062014805 then (some ((y113 ++ l0_0), (y119 ++ l0_1))) else (none))) else (none)) = some (r1, r2) := by first | (rw [hy113]; with_reducible exact H) | (have H2_ := (Option.bind_some _ _).symm.trans H; rw [hy113]; with_reducible exact H2_) | (have H2_ := (Option.bind_some _ _).symm.trans H; with_reducible exact H2_) | with_reducible exact H | (rw [hy113]; exact H) | exact H
 have Ny113 := zA_ hy113
 clear hy113
 by_cases c2 : y113.length + l0_0.length < 8796093022208
 · rw [if_pos c2] at H
   have LMc2 := zA_ c2
   clear c2
   obtain ⟨y116, hy116⟩ : ∃ y_ : List ByteArray, y_ = (y113 ++ l0_0) := ⟨_, rfl⟩
   replace H : ((some (([] : List (S83)) : List (S83))).bind fun y119 => (if y119.length + l0_1.length < 5864062014805 then (some (y116, (y119 ++ l0_1))) else (none))) = some (r1, r2) := by first | (rw [hy116]; with_reducible exact H) | (have H2_ := (Option.bind_some _ _).symm.trans H; rw [hy116]; with_reducible exact H2_) | (have H2_ := (Option.bind_some _ _).symm.trans H; with_reducible exact H2_) | with_reducible exact H | (rw [hy116]; exact H) | exact H
   have Ny116 := zA_ hy116
   clear hy116
   obtain ⟨y119, hy119⟩ : ∃ y_ : List (S83), y_ = (([] : List (S83))) := ⟨_, rfl⟩
   replace H : (if y119.length + l0_1.length < 5864062014805 then (some (y116, (y119 ++ l0_1))) else (none)) = some (r1, r2) := by first | (rw [hy119]; with_reducible exact H) | (have H2_ := (Option.bind_some _ _).symm.trans H; rw [hy119]; with_reducible exact H2_) | (have H2_ := (Option.bind_some _ _).symm.trans H; with_reducible exact H2_) | with_reducible exact H | (rw [hy119]; exact H) | exact H
   have Ny119 := zA_ hy119
   clear hy119
   by_cases c3 : y119.length + l0_1.length < 5864062014805
   · rw [if_pos c3] at H
     have LMc3 := zA_ c3
     clear c3
     obtain ⟨y122, hy122⟩ : ∃ y_ : List (S83), y_ = (y119 ++ l0_1) := ⟨_, rfl⟩
     replace H : (some (y116, y122)) = some (r1, r2) := by first | (rw [hy122]; with_reducible exact H) | (have H2_ := (Option.bind_some _ _).symm.trans H; rw [hy122]; with_reducible exact H2_) | (have H2_ := (Option.bind_some _ _).symm.trans H; with_reducible exact H2_) | with_reducible exact H | (rw [hy122]; exact H) | exact H
     have Ny122 := zA_ hy122
     clear hy122
     simp only [Option.some.injEq, Prod.mk.injEq] at H
     obtain ⟨rfl, rfl⟩ := H
     go_enter Try.func60, Try.ntmps60
     try go_wp2_with (first | ((with_reducible refine gate_dst (N := 1) rfl ?_); refine box_event ?hg (N := 1) ?hd (cs := #[.slice A0_0 l0_0.length c0_0, .slice A0_1 l0_1.length c0_1]) (t := 26) ?hr ?_; (case hd => exact (by rfl)); (case hg => exact (by rfl)); (case hr => exact βMb); intro gb111 hg w4 hbox hb; have BK111 := zA_ (hbox); have GW111 := zA_ ((by rw [hg]; exact (below_size (zh_ HB.out)) : w.heap.size ≤ gb111)); have GE111 := zA_ ((by rw [hg]; exact (below_size (zh_ HB.out)) : w.heap.size ≤ gb111)); replace HB := zA_ (below_step (zh_ HB.out) hb); clear hb hbox hg) | ((with_reducible refine gate_dst (N := 2) rfl ?_); refine box_event ?hg (N := 2) ?hd (cs := #[.slice none 0 0, .slice none 0 0]) (t := 26) ?hr ?_; (case hd => exact (by rfl)); (case hg => exact (by rfl)); (case hr => exact βMb); intro gb112 hg w5 hbox hb; have BK112 := zA_ (hbox); have GW112 := zA_ ((by rw [hg]; exact (below_size (zg1_ HB.out GE111.out)) : w.heap.size ≤ gb112)); have GE112 := zA_ ((by rw [hg]; exact (below_size (zg1_ HB.out GE111.out)) : w.heap.size ≤ gb112)); replace HB := zA_ (below_step (zg1_ HB.out GE111.out) hb); have NB111_112 := zA_ ((by rw [hg]; exact Nat.ne_of_lt (blk_lt (g := gb111) (o := .cells #[.slice A0_0 l0_0.length c0_0, .slice A0_1 l0_1.length c0_1] 26 (0, 0)) (zb_ BK111.out)) : gb111 ≠ gb112)); have NB112_111 := zA_ ((by rw [hg]; exact Nat.ne_of_gt (blk_lt (g := gb111) (o := .cells #[.slice A0_0 l0_0.length c0_0, .slice A0_1 l0_1.length c0_1] 26 (0, 0)) (zb_ BK111.out)) : gb112 ≠ gb111)); replace BK111 := zB_ BK111.out hb; clear hb hbox hg))
     replace BK111 := zA_ (blk_drew BK111.out)
     replace BK112 := zA_ (blk_drew BK112.out)
     replace HB := zA_ (below_drew1 HB.out)
     refine start_ (n := 10) (S := fun w' => w'.cell? ⟨gb111, 0, none⟩ = some (.slice A0_0 l0_0.length c0_0) ∧ w'.cell? ⟨gb111, 1, none⟩ = some (.slice A0_1 l0_1.length c0_1)) (ds := []) (mr_ [0, 10]) βPb rfl rfl ⟨cy_ BK111.out 0, cy_ BK111.out 1⟩ (fun hHeld => ?_); refine with_tabW spec_l03Copy.tab1 spec_l03Copy.bits1 (fun HT_ HW_ => ?_)
     generalize w5.drew = w6 at BK111 BK112 HB hHeld ⊢
     refine pure_ (i := 1) (N := some 4) (v := ?_) (a' := ?_) (mr_ [0, 1, 1, 8]) rfl rfl (any_of HT_.out βPb) (fun _ _ _ h => h) (Or.inl ⟨(by rfl), ?_⟩) ?_ ?_
     rotate_left; exact pv_; rotate_left; exact pp_
     refine pure_ (i := 5) (N := some 8) (v := ?_) (a' := ?_) (mr_ [0, 1, 1, 3, 1, 4]) rfl rfl (any_of HT_.out βPb) (fun _ _ _ h => h) (Or.inl ⟨(by rfl), ?_⟩) ?_ ?_
     rotate_left; exact pv_; rotate_left; exact pp_
     refine take_ (i := 2) (N := some 5) (v := ?_) (a' := ?_) (mr_ [0, 1, 2, 2, 1, 4]) rfl rfl (take_ofW HT_.out HW_.out βPb) (fun _ _ _ h => h) (Or.inl ⟨(by rfl), ?_⟩) hHeld ?_ ?_
     rotate_left
     · rintro w' ⟨s0, s1⟩
       go_simp
       with_reducible rfl
     rotate_left
     exact pp_
     refine take_ (i := 6) (N := some 9) (v := ?_) (a' := ?_) (mr_ [0, 1, 2, 2, 2, 3]) rfl rfl (take_ofW HT_.out HW_.out βPb) (fun _ _ _ h => h) (Or.inl ⟨(by rfl), ?_⟩) hHeld ?_ ?_
     rotate_left
     · rintro w' ⟨s0, s1⟩
       go_simp
       with_reducible rfl
     rotate_left
     exact pp_
     refine join_ (σ := Value × Value × Value) 3 (mr_ [7, 3]) (fun s_ => [(3, s_.1), (6, s_.2.1), (7, s_.2.2)]) (fun s_ w' => (w'.cell? ⟨gb111, 0, none⟩ = some (.slice A0_0 l0_0.length c0_0) ∧ w'.cell? ⟨gb111, 1, none⟩ = some (.slice A0_1 l0_1.length c0_1)) ∧ (Kd.R Kd.string 9 w' w.heap.size (fun _ => True) s_.2.1 y116) ∧ (Kd.R k83 83 w' w.heap.size (fun _ => True) s_.2.2 y119) ∧ (w'.heap[gb111]? = some (.cells #[.slice A0_0 l0_0.length c0_0, .slice A0_1 l0_1.length c0_1] 26 (0, 0))) ∧ (w'.heap[gb112]? = some (.cells #[.slice none 0 0, .slice none 0 0] 26 (0, 0))) ∧ (Below w.heap.size w w')) ?_ ?_
     rotate_left
     · intro hCont
       refine two_ (i := 0) (j := 4) (Ni := some 3) (Nj := some 7) (mr_ [3, 2, 2, 3]) (mr_ [0, 1, 2, 1, 3, 3]) rfl rfl rfl rfl (two_of HT_.out βPb) (by decide) (by decide) (fun K hK => ?_) (fun K hK => ?_)
       · skip
         refine Kd.R_lit_step Kd.string _ 9 ?hg (N := 3) ?hd (xs := ([] : List ByteArray)) (inner := []) (ok := fun _ => True) (okp := fun _ => True) ?hr ?hp (fun _ hk => hk) trivial (Below.refl _ _) (Nat.le_refl _) (by simp) ?_; (case hd => exact (by rfl)); (case hg => exact (by rfl)); (case hr => exact βMb); (case hp => exact (Reps.none _ _))
         intro v114 w7 ho8 hb hg_ hnew_
         clear hg_ hnew_
         (first | rw [← Ny113.out] at ho8 | (simp only [Int.reduceToNat] at ho8; rw [← Ny113.out] at ho8))
         have HO115 := zA_ (Kd.R_lower ho8 (below_size (zg2_ HB.out GE111.out GE112.out)))
         replace BK111 := zB_ BK111.out hb
         replace BK112 := zB_ BK112.out hb
         replace HB := zA_ (below_step (zg2_ HB.out GE111.out GE112.out) hb)
         clear hb ho8
         refine hK.out _ _ ⟨cy_ BK111.out 0, cy_ BK111.out 1⟩ (fun hHeld => ?_)
         clear hK K
         refine norm_ (a' := ?_) ?_ ?_
         rotate_left
         · show Act.put _ (some 3) _ = _
           simp only [Act.put, List.setIfInBounds_toArray, List.set_cons_zero, List.set_cons_succ, i64_w, i32_w]
           rfl
         refine two_ (i := 3) (j := 4) (Ni := some 6) (Nj := some 7) (mr_ [4, 1, 2, 3]) (mr_ [3, 1, 3, 3]) rfl rfl rfl rfl (two_of HT_.out βPb) (by decide) (by decide) (fun K hK => ?_) (fun K hK => ?_)
         · skip
           refine Kd.R_append_rows_step Kd.string (w0 := w) w.heap.size (by rfl) (.tmp 3) (.tmp 5) 23 9 (.string ⟨#[]⟩) 16 rfl Try.underlying23 info9 rfl (by decide) (by omega) v114 y113 l0_0 _ _ _ (fun _ => True) (fun _ => False) rfl rfl ?aO ?aR (fun _ _ h => h) (fun _ h => h.elim) ?aF ?aB ?aS ?aL ?_
           (case aR => exact βmb)
           (case aB => exact (zg2_ HB.out GE111.out GE112.out))
           (case aF => exact (fun _ _ => trivial))
           (case aO => exact (zr_ HO115.out))
           (case aS => exact (below_size (zg2_ HB.out GE111.out GE112.out)))
           (case aL => exact (by have := LMc2.out; omega))
           intro v117 w9 ho hb hg hat
           rw [← Ny116.out] at ho
           replace BK111 := zA_ (blk_grown (g := gb111) (o := .cells #[.slice A0_0 l0_0.length c0_0, .slice A0_1 l0_1.length c0_1] 26 (0, 0)) (zb_ BK111.out) hg (Kd.R_ne HO115.out BK111.out (by decide)))
           replace BK112 := zA_ (blk_grown (g := gb112) (o := .cells #[.slice none 0 0, .slice none 0 0] 26 (0, 0)) (zb_ BK112.out) hg (Kd.R_ne HO115.out BK112.out (by decide)))
           replace HB := zA_ (hb)
           have HO118 := zA_ (ho)
           clear HO115
           clear ho hb hg hat
           refine hK.out _ _ ⟨cy_ BK111.out 0, cy_ BK111.out 1⟩ (fun hHeld => ?_)
           clear hK K
           refine norm_ (a' := ?_) ?_ ?_
           rotate_left
           · show Act.put _ (some 6) _ = _
             simp only [Act.put, List.setIfInBounds_toArray, List.set_cons_zero, List.set_cons_succ, i64_w, i32_w]
             rfl
           refine one_ (i := 4) (N := some 7) (mr_ [7, 3]) rfl rfl (one_of HT_.out βPb) (by decide) (fun K hK => ?_)
           refine Kd.R_lit_step k83 _ 83 ?hg (N := 7) ?hd (xs := ([] : List (S83))) (inner := []) (ok := fun _ => True) (okp := fun _ => True) ?hr ?hp (fun _ hk => hk) trivial (Below.refl _ _) (Nat.le_refl _) (by simp) ?_; (case hd => exact (by rfl)); (case hg => exact (by rfl)); (case hr => exact βMb); (case hp => exact (Reps.none _ _))
           intro v120 w10 ho11 hb hg_ hnew_
           clear hg_ hnew_
           (first | rw [← Ny119.out] at ho11 | (simp only [Int.reduceToNat] at ho11; rw [← Ny119.out] at ho11))
           replace HO118 := zR_ HO118.out hb
           have HO121 := zA_ (Kd.R_lower ho11 (below_size (zg2_ HB.out GE111.out GE112.out)))
           replace BK111 := zB_ BK111.out hb
           replace BK112 := zB_ BK112.out hb
           replace HB := zA_ (below_step (zg2_ HB.out GE111.out GE112.out) hb)
           clear hb ho11
           refine hK.out _ _ ⟨cy_ BK111.out 0, cy_ BK111.out 1⟩ (fun hHeld => ?_)
           clear hK K
           refine norm_ (a' := ?_) ?_ ?_
           rotate_left
           · show Act.put _ (some 7) _ = _
             simp only [Act.put, List.setIfInBounds_toArray, List.set_cons_zero, List.set_cons_succ, i64_w, i32_w]
             rfl
           exact norm_ βEb (hCont (v114, v117, v120) _ ⟨hHeld, (zr_ HO118.out), (zr_ HO121.out), (zb_ BK111.out), (zb_ BK112.out), (zg2_ HB.out GE111.out GE112.out)⟩)
         · skip
           refine Kd.R_lit_step k83 _ 83 ?hg (N := 7) ?hd (xs := ([] : List (S83))) (inner := []) (ok := fun _ => True) (okp := fun _ => True) ?hr ?hp (fun _ hk => hk) trivial (Below.refl _ _) (Nat.le_refl _) (by simp) ?_; (case hd => exact (by rfl)); (case hg => exact (by rfl)); (case hr => exact βMb); (case hp => exact (Reps.none _ _))
           intro v120 w9 ho10 hb hg_ hnew_
           clear hg_ hnew_
           (first | rw [← Ny119.out] at ho10 | (simp only [Int.reduceToNat] at ho10; rw [← Ny119.out] at ho10))
           replace HO115 := zR_ HO115.out hb
           have HO121 := zA_ (Kd.R_lower ho10 (below_size (zg2_ HB.out GE111.out GE112.out)))
           replace BK111 := zB_ BK111.out hb
           replace BK112 := zB_ BK112.out hb
           replace HB := zA_ (below_step (zg2_ HB.out GE111.out GE112.out) hb)
           clear hb ho10
           refine hK.out _ _ ⟨cy_ BK111.out 0, cy_ BK111.out 1⟩ (fun hHeld => ?_)
           clear hK K
           refine norm_ (a' := ?_) ?_ ?_
           rotate_left
           · show Act.put _ (some 7) _ = _
             simp only [Act.put, List.setIfInBounds_toArray, List.set_cons_zero, List.set_cons_succ, i64_w, i32_w]
             rfl
           refine one_ (i := 3) (N := some 6) (mr_ [7, 3]) rfl rfl (one_of HT_.out βPb) (by decide) (fun K hK => ?_)
           refine Kd.R_append_rows_step Kd.string (w0 := w) w.heap.size (by rfl) (.tmp 3) (.tmp 5) 23 9 (.string ⟨#[]⟩) 16 rfl Try.underlying23 info9 rfl (by decide) (by omega) v114 y113 l0_0 _ _ _ (fun _ => True) (fun _ => False) rfl rfl ?aO ?aR (fun _ _ h => h) (fun _ h => h.elim) ?aF ?aB ?aS ?aL ?_
           (case aR => exact βmb)
           (case aB => exact (zg2_ HB.out GE111.out GE112.out))
           (case aF => exact (fun _ _ => trivial))
           (case aO => exact (zr_ HO115.out))
           (case aS => exact (below_size (zg2_ HB.out GE111.out GE112.out)))
           (case aL => exact (by have := LMc2.out; omega))
           intro v117 w11 ho hb hg hat
           rw [← Ny116.out] at ho
           replace BK111 := zA_ (blk_grown (g := gb111) (o := .cells #[.slice A0_0 l0_0.length c0_0, .slice A0_1 l0_1.length c0_1] 26 (0, 0)) (zb_ BK111.out) hg (Kd.R_ne HO115.out BK111.out (by decide)))
           replace BK112 := zA_ (blk_grown (g := gb112) (o := .cells #[.slice none 0 0, .slice none 0 0] 26 (0, 0)) (zb_ BK112.out) hg (Kd.R_ne HO115.out BK112.out (by decide)))
           replace HO121 := zA_ (Kd.R_over' (zr_ HO121.out) (Kd.R_typed (zr_ HO115.out)) (by decide) hg)
           replace HB := zA_ (hb)
           have HO118 := zA_ (ho)
           clear HO115
           clear ho hb hg hat
           refine hK.out _ _ ⟨cy_ BK111.out 0, cy_ BK111.out 1⟩ (fun hHeld => ?_)
           clear hK K
           refine norm_ (a' := ?_) ?_ ?_
           rotate_left
           · show Act.put _ (some 6) _ = _
             simp only [Act.put, List.setIfInBounds_toArray, List.set_cons_zero, List.set_cons_succ, i64_w, i32_w]
             rfl
           exact norm_ βEb (hCont (v114, v117, v120) _ ⟨hHeld, (zr_ HO118.out), (zr_ HO121.out), (zb_ BK111.out), (zb_ BK112.out), (zg2_ HB.out GE111.out GE112.out)⟩)
       · skip
         refine Kd.R_lit_step k83 _ 83 ?hg (N := 7) ?hd (xs := ([] : List (S83))) (inner := []) (ok := fun _ => True) (okp := fun _ => True) ?hr ?hp (fun _ hk => hk) trivial (Below.refl _ _) (Nat.le_refl _) (by simp) ?_; (case hd => exact (by rfl)); (case hg => exact (by rfl)); (case hr => exact βMb); (case hp => exact (Reps.none _ _))
         intro v120 w7 ho8 hb hg_ hnew_
         clear hg_ hnew_
         (first | rw [← Ny119.out] at ho8 | (simp only [Int.reduceToNat] at ho8; rw [← Ny119.out] at ho8))
         have HO121 := zA_ (Kd.R_lower ho8 (below_size (zg2_ HB.out GE111.out GE112.out)))
         replace BK111 := zB_ BK111.out hb
         replace BK112 := zB_ BK112.out hb
         replace HB := zA_ (below_step (zg2_ HB.out GE111.out GE112.out) hb)
         clear hb ho8
         refine hK.out _ _ ⟨cy_ BK111.out 0, cy_ BK111.out 1⟩ (fun hHeld => ?_)
         clear hK K
         refine norm_ (a' := ?_) ?_ ?_
         rotate_left
         · show Act.put _ (some 7) _ = _
           simp only [Act.put, List.setIfInBounds_toArray, List.set_cons_zero, List.set_cons_succ, i64_w, i32_w]
           rfl
         refine one_ (i := 0) (N := some 3) (mr_ [3, 1, 3, 3]) rfl rfl (one_of HT_.out βPb) (by decide) (fun K hK => ?_)
         refine Kd.R_lit_step Kd.string _ 9 ?hg (N := 3) ?hd (xs := ([] : List ByteArray)) (inner := []) (ok := fun _ => True) (okp := fun _ => True) ?hr ?hp (fun _ hk => hk) trivial (Below.refl _ _) (Nat.le_refl _) (by simp) ?_; (case hd => exact (by rfl)); (case hg => exact (by rfl)); (case hr => exact βMb); (case hp => exact (Reps.none _ _))
         intro v114 w9 ho10 hb hg_ hnew_
         clear hg_ hnew_
         (first | rw [← Ny113.out] at ho10 | (simp only [Int.reduceToNat] at ho10; rw [← Ny113.out] at ho10))
         replace HO121 := zR_ HO121.out hb
         have HO115 := zA_ (Kd.R_lower ho10 (below_size (zg2_ HB.out GE111.out GE112.out)))
         replace BK111 := zB_ BK111.out hb
         replace BK112 := zB_ BK112.out hb
         replace HB := zA_ (below_step (zg2_ HB.out GE111.out GE112.out) hb)
         clear hb ho10
         refine hK.out _ _ ⟨cy_ BK111.out 0, cy_ BK111.out 1⟩ (fun hHeld => ?_)
         clear hK K
         refine norm_ (a' := ?_) ?_ ?_
         rotate_left
         · show Act.put _ (some 3) _ = _
           simp only [Act.put, List.setIfInBounds_toArray, List.set_cons_zero, List.set_cons_succ, i64_w, i32_w]
           rfl
         refine one_ (i := 3) (N := some 6) (mr_ [7, 3]) rfl rfl (one_of HT_.out βPb) (by decide) (fun K hK => ?_)
         refine Kd.R_append_rows_step Kd.string (w0 := w) w.heap.size (by rfl) (.tmp 3) (.tmp 5) 23 9 (.string ⟨#[]⟩) 16 rfl Try.underlying23 info9 rfl (by decide) (by omega) v114 y113 l0_0 _ _ _ (fun _ => True) (fun _ => False) rfl rfl ?aO ?aR (fun _ _ h => h) (fun _ h => h.elim) ?aF ?aB ?aS ?aL ?_
         (case aR => exact βmb)
         (case aB => exact (zg2_ HB.out GE111.out GE112.out))
         (case aF => exact (fun _ _ => trivial))
         (case aO => exact (zr_ HO115.out))
         (case aS => exact (below_size (zg2_ HB.out GE111.out GE112.out)))
         (case aL => exact (by have := LMc2.out; omega))
         intro v117 w11 ho hb hg hat
         rw [← Ny116.out] at ho
         replace BK111 := zA_ (blk_grown (g := gb111) (o := .cells #[.slice A0_0 l0_0.length c0_0, .slice A0_1 l0_1.length c0_1] 26 (0, 0)) (zb_ BK111.out) hg (Kd.R_ne HO115.out BK111.out (by decide)))
         replace BK112 := zA_ (blk_grown (g := gb112) (o := .cells #[.slice none 0 0, .slice none 0 0] 26 (0, 0)) (zb_ BK112.out) hg (Kd.R_ne HO115.out BK112.out (by decide)))
         replace HO121 := zA_ (Kd.R_over' (zr_ HO121.out) (Kd.R_typed (zr_ HO115.out)) (by decide) hg)
         replace HB := zA_ (hb)
         have HO118 := zA_ (ho)
         clear HO115
         clear ho hb hg hat
         refine hK.out _ _ ⟨cy_ BK111.out 0, cy_ BK111.out 1⟩ (fun hHeld => ?_)
         clear hK K
         refine norm_ (a' := ?_) ?_ ?_
         rotate_left
         · show Act.put _ (some 6) _ = _
           simp only [Act.put, List.setIfInBounds_toArray, List.set_cons_zero, List.set_cons_succ, i64_w, i32_w]
           rfl
         exact norm_ βEb (hCont (v114, v117, v120) _ ⟨hHeld, (zr_ HO118.out), (zr_ HO121.out), (zb_ BK111.out), (zb_ BK112.out), (zg2_ HB.out GE111.out GE112.out)⟩)
     rintro ⟨v114, v117, v120⟩ w12 ⟨hS_, h0_, h1_, h2_, h3_, h4_⟩
     have HO118 : Aside0 (Kd.R Kd.string 9 w12 w.heap.size (fun _ => True) v117 y116) := ⟨h0_⟩
     have HO121 : Aside0 (Kd.R k83 83 w12 w.heap.size (fun _ => True) v120 y119) := ⟨h1_⟩
     replace BK111 : Aside0 (w12.heap[gb111]? = some (.cells #[.slice A0_0 l0_0.length c0_0, .slice A0_1 l0_1.length c0_1] 26 (0, 0))) := ⟨h2_⟩
     replace BK112 : Aside0 (w12.heap[gb112]? = some (.cells #[.slice none 0 0, .slice none 0 0] 26 (0, 0))) := ⟨h3_⟩
     replace HB : Aside0 (Below w.heap.size w w12) := ⟨h4_⟩
     clear h0_ h1_ h2_ h3_ h4_
     have hHeld : w12.cell? ⟨gb111, 0, none⟩ = some (.slice A0_0 l0_0.length c0_0) ∧ w12.cell? ⟨gb111, 1, none⟩ = some (.slice A0_1 l0_1.length c0_1) := hS_
     refine norm_ (a' := ?_) ?_ ?_
     rotate_left
     · simp only [putAll, Act.put, List.setIfInBounds_toArray, List.set_cons_zero, List.set_cons_succ]
       rfl
     refine one_ (i := 7) (N := some 10) (mr_ [8, 2]) rfl rfl (one_of HT_.out βPb) (by decide) (fun K hK => ?_)
     refine Kd.R_append_rows_step k83 (w0 := w) w.heap.size (by rfl) (.tmp 7) (.tmp 9) 24 83 (.agg #[(.int .i64 0), (.string ⟨#[]⟩)]) 24 rfl Try.underlying24 info83 rfl (by decide) (by omega) v120 y119 l0_1 _ _ _ (fun _ => True) (fun _ => False) rfl rfl ?aO ?aR (fun _ _ h => h) (fun _ h => h.elim) ?aF ?aB ?aS ?aL ?_
     (case aR => exact (by repeat (first | exact (Kd.C_below HR0_1.out HB.out) | (with_reducible refine Kd.C_alloc ?_ _) | (with_reducible refine Kd.C_drewN ?_ _) | (with_reducible refine Kd.C_drew ?_))))
     (case aB => exact (zg2_ HB.out GE111.out GE112.out))
     (case aF => exact (fun _ _ => trivial))
     (case aO => exact (zr_ HO121.out))
     (case aS => exact (below_size (zg2_ HB.out GE111.out GE112.out)))
     (case aL => exact (by have := LMc3.out; omega))
     intro v123 w13 ho hb hg hat
     rw [← Ny122.out] at ho
     replace BK111 := zA_ (blk_grown (g := gb111) (o := .cells #[.slice A0_0 l0_0.length c0_0, .slice A0_1 l0_1.length c0_1] 26 (0, 0)) (zb_ BK111.out) hg (Kd.R_ne HO121.out BK111.out (by decide)))
     replace BK112 := zA_ (blk_grown (g := gb112) (o := .cells #[.slice none 0 0, .slice none 0 0] 26 (0, 0)) (zb_ BK112.out) hg (Kd.R_ne HO121.out BK112.out (by decide)))
     replace HO118 := zA_ (Kd.R_over' (zr_ HO118.out) (Kd.R_typed (zr_ HO121.out)) (by decide) hg)
     replace HB := zA_ (hb)
     have HO124 := zA_ (ho)
     clear HO121
     clear ho hb hg hat
     obtain ⟨Ao14, co14, eo14⟩ := Kd.R_slice HO124.out
     (first | subst eo14 | (injection eo14 with f1_ f2_ f3_; have f4_ := f1_.symm; have f5_ := f3_.symm; clear f1_ f2_ f3_; subst f4_; subst f5_))
     obtain ⟨Ao15, co15, eo15⟩ := Kd.R_slice HO118.out
     (first | subst eo15 | (injection eo15 with f1_ f2_ f3_; have f4_ := f1_.symm; have f5_ := f3_.symm; clear f1_ f2_ f3_; subst f4_; subst f5_))
     refine hK.out _ _ ⟨cy_ BK111.out 0, cy_ BK111.out 1⟩ (fun hHeld => ?_)
     clear hK K
     refine norm_ (a' := ?_) ?_ ?_
     rotate_left
     · show Act.put _ (some 10) _ = _
       simp only [Act.put, List.setIfInBounds_toArray, List.set_cons_zero, List.set_cons_succ, i64_w, i32_w]
       rfl
     refine pure_ (i := 8) (N := some 11) (v := ?_) (a' := ?_) (mr_ [9, 1]) rfl rfl (any_of HT_.out βPb) (fun _ _ _ h => h) (Or.inl ⟨(by rfl), ?_⟩) ?_ ?_
     rotate_left; exact pv_; rotate_left; exact pp_
     refine one_ (i := 9) (N := none) (mr_ [10]) rfl rfl (one_of HT_.out βPb) (by decide) (fun K hK => ?_)
     have hs16 := cz_ BK112.out 0 (.slice none 0 0) rfl
     have hfs16 := blk_frozen BK112.out 0
     have hns16_0 := NB111_112.out
     have hms16_0 := NB112_111.out
     have hs17 := cz_ BK112.out 1 (.slice none 0 0) rfl
     have hfs17 := blk_frozen BK112.out 1
     have hns17_0 := NB111_112.out
     have hms17_0 := NB112_111.out
     refine skip_ (w1 := ?_) (by rfl) rfl ?_ ?_
     rotate_left
     · go_simp
       rfl
     refine hK.out _ _ ⟨((cell_far (p := ⟨gb112, _, none⟩) NB111_112.out _).trans (((cell_far (p := ⟨gb112, _, none⟩) NB111_112.out _).trans (hHeld.1)))), ((cell_far (p := ⟨gb112, _, none⟩) NB111_112.out _).trans (((cell_far (p := ⟨gb112, _, none⟩) NB111_112.out _).trans (hHeld.2))))⟩ (fun hHeld => ?_)
     clear hK K
     refine done_ (done_of HT_.out βPb) ?_
     try go_wp2
     refine bodyPost_ret (results_cell_row rfl _ _ gb112 26 #[.slice Ao15 y116.length co15, .slice Ao14 y122.length co14] (0, 0) _ rfl (by (with_reducible repeat (first | refine blk_drewN ?_ _ | refine blk_drew ?_ | refine blk_alloc ?_ _)); refine blk_put (cs := #[.slice Ao15 y116.length co15, .slice none 0 0]) ?_ 1 _ rfl; (with_reducible repeat (first | refine blk_drewN ?_ _ | refine blk_drew ?_ | refine blk_alloc ?_ _)); refine blk_put (cs := #[.slice none 0 0, .slice none 0 0]) ?_ 0 _ rfl; (with_reducible repeat (first | refine blk_drewN ?_ _ | refine blk_drew ?_ | refine blk_alloc ?_ _)); exact BK112.out) Try.underlying26 rfl βPb) rfl ?_
     exact ⟨_, _, βFb, (by (with_reducible repeat (first | apply Kd.R_alloc | apply Kd.R_drewN | apply Kd.R_drew)); exact Kd.R_mono (Kd.R_far (p := ⟨gb112, 1, none⟩) (Kd.R_far (p := ⟨gb112, 0, none⟩) (Kd.R_types HO118.out BK112.out (by decide)) (fun _ hk => hk.2) (.slice Ao15 y116.length co15)) (fun _ hk => hk.2) (.slice Ao14 y122.length co14)) (fun _ hk => trivial)), (by (with_reducible repeat (first | apply Kd.R_alloc | apply Kd.R_drewN | apply Kd.R_drew)); exact Kd.R_mono (Kd.R_far (p := ⟨gb112, 1, none⟩) (Kd.R_far (p := ⟨gb112, 0, none⟩) (Kd.R_types HO124.out BK112.out (by decide)) (fun _ hk => hk.2) (.slice Ao15 y116.length co15)) (fun _ hk => hk.2) (.slice Ao14 y122.length co14)) (fun _ hk => trivial)), (by repeat (first | (with_reducible first | exact HB.out | apply below_alloc | apply pw_below_drewN | apply below_drew1 | refine below_set ?_ GE111.out | refine below_set ?_ GE112.out) | exact HB.out))⟩
   · rw [if_neg c3] at H
     exact absurd H (by simp)
 · rw [if_neg c2] at H
   exact absurd H (by simp)
def spec_l03Put.l0 : Nat → Int → ByteArray → Int → List ByteArray → List (S83) → Option (List ByteArray × (List (S83)))
 | 0, _, _, _, _, _ => none
 | k + 1, x1, x2, x8, x134000, x134001 => if x8 < (x134001.length : Int) then (if 0 ≤ x8 then (if ((rd_T83 x134001 x8).f0) = x1 then (some (x134000, (x134001.set (x8 : Int).toNat (⟨(rd_T83 x134001 x8).f0, x2⟩ : S83)))) else (spec_l03Put.l0 k x1 x2 (wrap64 (x8 + 1)) x134000 x134001)) else (none)) else (if x134001.length < 5864062014805 then (some (x134000, (x134001 ++ [(⟨x1, x2⟩ : S83)]))) else (none))
def spec_l03Put.f (k : Nat) (l0_0 : List ByteArray) (l0_1 : List (S83)) (a1 : Int) (a2 : ByteArray) : Option (List ByteArray × (List (S83))) := (spec_l03Copy.f l0_0 l0_1).bind fun bt127 => (spec_l03Put.l0 k a1 a2 0 bt127.1 bt127.2)
theorem spec_l03Put.calls (k : Nat) (A0_0 : Option Addr) (c0_0 : Nat) (l0_0 : List ByteArray) (A0_1 : Option Addr) (c0_1 : Nat) (l0_1 : List (S83)) (a1 : Int) (a2 : ByteArray) (r1 : List ByteArray) (r2 : List (S83)) (w : World) (hr0_0 : Kd.C Kd.string w A0_0 l0_0.length l0_0) (hc0_0 : l0_0.length ≤ c0_0) (hr0_1 : Kd.C k83 w A0_1 l0_1.length l0_1) (hc0_1 : l0_1.length ≤ c0_1) (h : spec_l03Put.f k l0_0 l0_1 a1 a2 = some (r1, r2)) :
 Calls Try.prog 58 #[.agg #[.slice A0_0 l0_0.length c0_0, .slice A0_1 l0_1.length c0_1], .int .i64 a1, .string a2] w fun e w' => ∃ v0_ v1_ : Value, e = .returned (.agg #[v0_, v1_]) ∧ Kd.R Kd.string 9 w' w.heap.size (fun _ => True) v0_ r1 ∧ Kd.R k83 83 w' w.heap.size (fun _ => True) v1_ r2 ∧ Below w.heap.size w w' := by
 have hu26 := Try.underlying26
 have hu83 := Try.underlying83
 have HR0_0 := zA_ hr0_0
 have HC0_0 := zA_ hc0_0
 clear hr0_0 hc0_0
 have HR0_1 := zA_ hr0_1
 have HC0_1 := zA_ hc0_1
 clear hr0_1 hc0_1
 have HB := zA_ (Below.refl w.heap.size w)
 have H : ((spec_l03Copy.f l0_0 l0_1).bind fun bt127 => (spec_l03Put.l0 k a1 a2 0 bt127.1 bt127.2)) = some (r1, r2) := h
 clear h
 replace H := Option.bind_eq_some_iff.mp H
 obtain ⟨⟨t127, t130⟩, A40, H⟩ := H
 (try dsimp -simprocs only at H)
 have A4 := zA_ A40
 clear A40
 have H' := zA_ H
 clear H
 go_enter Try.func58, Try.ntmps58
 go_wp2_with (first | ((with_reducible refine gate_dst (N := 3) rfl ?_); refine box_event ?hg (N := 3) ?hd (cs := #[.slice A0_0 l0_0.length c0_0, .slice A0_1 l0_1.length c0_1]) (t := 26) ?hr ?_; (case hd => exact (by rfl)); (case hg => exact (by rfl)); (case hr => exact βMb); intro gb125 hg w5 hbox hb; have BK125 := zA_ (hbox); have GW125 := zA_ ((by rw [hg]; exact (below_size (zh_ HB.out)) : w.heap.size ≤ gb125)); have GE125 := zA_ ((by rw [hg]; exact (below_size (zh_ HB.out)) : w.heap.size ≤ gb125)); replace HB := zA_ (below_step (zh_ HB.out) hb); clear hb hbox hg) | ((with_reducible refine gate_dst (N := 6) rfl ?_); refine box_event ?hg (N := 6) ?hd (cs := #[.slice none 0 0, .slice none 0 0]) (t := 26) ?hr ?_; (case hd => exact (by rfl)); (case hg => exact (by rfl)); (case hr => exact βMb); intro gb126 hg w6 hbox hb; have BK126 := zA_ (hbox); have GW126 := zA_ ((by rw [hg]; exact (below_size (zg1_ HB.out GE125.out)) : w.heap.size ≤ gb126)); have GE126 := zA_ ((by rw [hg]; exact (below_size (zg1_ HB.out GE125.out)) : w.heap.size ≤ gb126)); replace HB := zA_ (below_step (zg1_ HB.out GE125.out) hb); have NB125_126 := zA_ ((by rw [hg]; exact Nat.ne_of_lt (blk_lt (g := gb125) (o := .cells #[.slice A0_0 l0_0.length c0_0, .slice A0_1 l0_1.length c0_1] 26 (0, 0)) (zb_ BK125.out)) : gb125 ≠ gb126)); have NB126_125 := zA_ ((by rw [hg]; exact Nat.ne_of_gt (blk_lt (g := gb125) (o := .cells #[.slice A0_0 l0_0.length c0_0, .slice A0_1 l0_1.length c0_1] 26 (0, 0)) (zb_ BK125.out)) : gb126 ≠ gb125)); replace BK125 := zB_ BK125.out hb; clear hb hbox hg; have hnb7 := NB125_126.out; have hnc7 := NB126_125.out; have hcz8_0 := cz_ BK125.out 0 (.slice A0_0 l0_0.length c0_0) rfl; have hcz8_1 := cz_ BK125.out 1 (.slice A0_1 l0_1.length c0_1) rfl; have hfz8_0 := blk_frozen BK125.out 0; have hfz8_1 := blk_frozen BK125.out 1) | ((with_reducible refine gate_callee (f := 60) rfl ?_); refine goesL_ (some 10) rfl rfl Try.func60 βPb rfl #[.agg #[.slice A0_0 l0_0.length c0_0, .slice A0_1 l0_1.length c0_1]] rfl zs_ ?_; (with_reducible refine (spec_l03Copy.calls _ _ l0_0 _ _ l0_1 t127 t130 _ ?side1 ?side2 ?side3 ?side4 A4.out).mono ?_); (case side1 => exact zc_ (Kd.C_below HR0_0.out HB.out)); (case side2 => exact HC0_0.out); (case side3 => exact zc_ (Kd.C_below HR0_1.out HB.out)); (case side4 => exact HC0_1.out); rintro e w9 ⟨v128, v131, rfl, ho0, ho1, hb⟩; refine ⟨_, rfl, ?_⟩; have HO129 := zA_ (Kd.R_lower ho0 (below_size (zg2_ HB.out GE125.out GE126.out))); have HO132 := zA_ (Kd.R_lower ho1 (below_size (zg2_ HB.out GE125.out GE126.out))); replace BK125 := zB_ BK125.out hb; replace BK126 := zB_ BK126.out hb; replace HB := zA_ (below_step (zg2_ HB.out GE125.out GE126.out) hb); (try clear hb); (try clear hb2); (try clear hk); (try clear hi); (try clear ho0); (try clear ho1)) | ((with_reducible refine gate_dst (N := 7) rfl ?_); refine box_event ?hg (N := 7) ?hd (cs := #[.slice none 0 0, .slice none 0 0]) (t := 26) ?hr ?_; (case hd => exact (by rfl)); (case hg => exact (by rfl)); (case hr => exact βMb); intro gb133 hg w10 hbox hb; replace HO129 := zR_ HO129.out hb; replace HO132 := zR_ HO132.out hb; have BK133 := zA_ (hbox); have GW133 := zA_ ((by rw [hg]; exact (below_size (zg2_ HB.out GE125.out GE126.out)) : w.heap.size ≤ gb133)); have GE133 := zA_ ((by rw [hg]; exact (below_size (zg2_ HB.out GE125.out GE126.out)) : w.heap.size ≤ gb133)); replace HB := zA_ (below_step (zg2_ HB.out GE125.out GE126.out) hb); have NB125_133 := zA_ ((by rw [hg]; exact Nat.ne_of_lt (blk_lt (g := gb125) (o := .cells #[.slice A0_0 l0_0.length c0_0, .slice A0_1 l0_1.length c0_1] 26 (0, 0)) (zb_ BK125.out)) : gb125 ≠ gb133)); have NB133_125 := zA_ ((by rw [hg]; exact Nat.ne_of_gt (blk_lt (g := gb125) (o := .cells #[.slice A0_0 l0_0.length c0_0, .slice A0_1 l0_1.length c0_1] 26 (0, 0)) (zb_ BK125.out)) : gb133 ≠ gb125)); replace BK125 := zB_ BK125.out hb; have NB126_133 := zA_ ((by rw [hg]; exact Nat.ne_of_lt (blk_lt (g := gb126) (o := .cells #[.slice none 0 0, .slice none 0 0] 26 (0, 0)) (zb_ BK126.out)) : gb126 ≠ gb133)); have NB133_126 := zA_ ((by rw [hg]; exact Nat.ne_of_gt (blk_lt (g := gb126) (o := .cells #[.slice none 0 0, .slice none 0 0] 26 (0, 0)) (zb_ BK126.out)) : gb133 ≠ gb126)); replace BK126 := zB_ BK126.out hb; clear hb hbox hg; obtain ⟨Ao11, co11, eo11⟩ := Kd.R_slice HO129.out; subst eo11; have hnb12 := NB133_125.out; have hnc12 := NB125_133.out; have hnb13 := NB133_126.out; have hnc13 := NB126_133.out; have hcz14_0 := cz_ BK133.out 0 (.slice none 0 0) rfl; have hcz14_1 := cz_ BK133.out 1 (.slice none 0 0) rfl; have hfz14_0 := blk_frozen BK133.out 0; have hfz14_1 := blk_frozen BK133.out 1; obtain ⟨Ao15, co15, eo15⟩ := Kd.R_slice HO132.out; subst eo15))
 go_loopg [8] k (fun kq v8 w' => ∃ (x8_1 : Int) (x134001_1 : List (S83)) (u134001 : Value), v8 = .int .i64 x8_1 ∧ Aside0 (spec_l03Put.l0 kq a1 a2 x8_1 t127 x134001_1 = some (r1, r2)) ∧ Aside0 (kq ≤ k) ∧ Aside0 (Kd.R Kd.string 9 w' w.heap.size (fun _ => True) (.slice Ao11 t127.length co11) t127) ∧ Aside0 (Kd.R k83 83 w' w.heap.size (fun _ => True) u134001 x134001_1) ∧ Aside0 (w'.heap[gb125]? = some (.cells #[(.slice A0_0 l0_0.length c0_0), (.slice A0_1 l0_1.length c0_1)] 26 (0, 0))) ∧ Aside0 (w'.heap[gb126]? = some (.cells #[(.slice none 0 0), (.slice none 0 0)] 26 (0, 0))) ∧ Aside0 (w'.heap[gb133]? = some (.cells #[(.slice Ao11 t127.length co11), u134001] 26 (0, 0))) ∧ Aside0 (Below w.heap.size w w'))
 case atStart => exact ⟨(0), (t130), (.slice Ao15 t130.length co15), βLb, H', ⟨Nat.le_refl _⟩, ⟨(by (with_reducible repeat (first | apply Kd.R_alloc | apply Kd.R_drewN | apply Kd.R_drew)); exact Kd.R_mono (Kd.R_far (p := ⟨gb133, 1, none⟩) (Kd.R_far (p := ⟨gb133, 0, none⟩) (Kd.R_types HO129.out BK133.out (by decide)) (fun _ hk => hk.2) (.slice Ao11 t127.length co11)) (fun _ hk => hk.2) (.slice Ao15 t130.length co15)) (fun _ hk => trivial))⟩, ⟨(by (with_reducible repeat (first | apply Kd.R_alloc | apply Kd.R_drewN | apply Kd.R_drew)); exact Kd.R_mono (Kd.R_far (p := ⟨gb133, 1, none⟩) (Kd.R_far (p := ⟨gb133, 0, none⟩) (Kd.R_types HO132.out BK133.out (by decide)) (fun _ hk => hk.2) (.slice Ao11 t127.length co11)) (fun _ hk => hk.2) (.slice Ao15 t130.length co15)) (fun _ hk => trivial))⟩, ⟨zf2_ NB125_133.out NB125_133.out BK125.out⟩, ⟨zf2_ NB126_133.out NB126_133.out BK126.out⟩, ⟨(by (with_reducible repeat (first | refine blk_drewN ?_ _ | refine blk_drew ?_ | refine blk_alloc ?_ _)); refine blk_put (cs := #[.slice Ao11 t127.length co11, .slice none 0 0]) ?_ 1 _ rfl; (with_reducible repeat (first | refine blk_drewN ?_ _ | refine blk_drew ?_ | refine blk_alloc ?_ _)); refine blk_put (cs := #[.slice none 0 0, .slice none 0 0]) ?_ 0 _ rfl; (with_reducible repeat (first | refine blk_drewN ?_ _ | refine blk_drew ?_ | refine blk_alloc ?_ _)); exact BK133.out)⟩, ⟨zg3_ HB.out GE125.out GE126.out GE133.out⟩⟩
 case round =>
  clear H'
  try clear c1
  try clear p2
  try clear c5
  try clear c6
  try clear c7
  try clear c12
  try clear c13
  try clear hcz14_0
  try clear hcz14_1
  try clear hcz8_0
  try clear hcz8_1
  try clear hfz14_0
  try clear hfz14_1
  try clear hfz8_0
  try clear hfz8_1
  obtain ⟨x8_1, x134001_1, u134001, rfl, HA, HK1, HO_134000, HO_134001, BK125, BK126, BK133, HB⟩ := hrel
  cases gk with
  | zero => exact absurd HA.out (by simp [spec_l03Put.l0])
  | succ k1 =>
   have H := HA.out
   clear HA
   simp only [spec_l03Put.l0] at H
   by_cases c16 : x8_1 < (x134001_1.length : Int)
   · rw [if_pos c16] at H
     have c16b0 : decide (x8_1 < (x134001_1.length : Int)) = true := decide_eq_true c16
     clear c16
     by_cases c17 : 0 ≤ x8_1
     · rw [if_pos c17] at H
       have c17b0 : decide (0 ≤ x8_1) = true := decide_eq_true c17
       clear c17
       by_cases c18 : ((rd_T83 x134001_1 x8_1).f0) = a1
       · rw [if_pos c18] at H
         have c18b0 : (((rd_T83 x134001_1 x8_1).f0) == a1) = true := beq_iff_eq.mpr c18
         have c18b1 : (((rd_T83 x134001_1 x8_1).f0) != a1) = false := bne_eq_false_iff_eq.mpr c18
         clear c18
         obtain ⟨y135, hy135⟩ : ∃ y_ : List (S83), y_ = (x134001_1.set (x8_1 : Int).toNat (⟨(rd_T83 x134001_1 x8_1).f0, a2⟩ : S83)) := ⟨_, rfl⟩
         replace H : (some (t127, y135)) = some (r1, r2) := by first | (rw [hy135]; with_reducible exact H) | (have H2_ := (Option.bind_some _ _).symm.trans H; rw [hy135]; with_reducible exact H2_) | (have H2_ := (Option.bind_some _ _).symm.trans H; with_reducible exact H2_) | with_reducible exact H | (rw [hy135]; exact H) | exact H
         have Ny135 := zA_ hy135
         clear hy135
         simp only [Option.some.injEq, Prod.mk.injEq] at H
         obtain ⟨rfl, rfl⟩ := H
         have hnb20 := NB133_125.out
         have hnc20 := NB125_133.out
         have hnb21 := NB133_126.out
         have hnc21 := NB126_133.out
         have hcz22_0 := cz_ BK133.out 0 (.slice Ao11 t127.length co11) rfl
         have hcz22_1 : wr.cell? ⟨gb133, 1, none⟩ = some (u134001) := (blk_cell BK133.out 1).trans rfl
         have hfz22_0 := blk_frozen BK133.out 0
         have hfz22_1 := blk_frozen BK133.out 1
         obtain ⟨Ao23, co23, eo23⟩ := Kd.R_slice HO_134001.out
         subst eo23
         have p134 : 0 ≤ (x8_1 : Int) := of_decide_eq_true βKb
         have q134 : x8_1 < (x134001_1.length : Int) := of_decide_eq_true βKb
         obtain ⟨ad134, e134, hx134_0, hx134_1⟩ := at_T83 (Kd.R_reads' HO_134001.out).2.2 x8_1 p134 q134
         cases e134
         replace p134 := eq_true p134
         replace q134 := eq_true q134
         have p19 : 0 ≤ (x8_1 : Int) := of_decide_eq_true βKb
         have q19 : (x8_1 : Int) < ((x134001_1.length : Int) : Int) := of_decide_eq_true βKb
         obtain ⟨go19, co19, eo19, gb19, gl19, cl19, HG19⟩ := Kd.R_form HO_134001.out (by omega)
         (first | cases eo19 | (injection eo19 with ea_ en_ ec_; (first | subst ea_ | (injection ea_ with ea_; subst ea_)); subst ec_; clear en_))
         have GB19 := zA_ gb19
         have GG19 := zA_ HG19
         clear gb19 gl19 HG19
         (first | simp only [add_plain] at hx134_0 | skip)
         (first | simp only [add_plain] at hx134_1 | skip)
         obtain ⟨ce19, hcl19, hM19, hcc19, hfr19⟩ := Kd.R_elem HO_134001.out z83 (x8_1 : Int) p19 q19
         obtain rfl := k83_openM hM19
         have hx19_0 : wr.cell? ⟨go19, (x8_1 : Int).toNat * 2, none⟩ = some (.int .i64 ((rd_T83 x134001_1 x8_1).f0)) := hcc19 0 _ rfl
         have hx19_1 : wr.cell? ⟨go19, (x8_1 : Int).toNat * 2 + 1, none⟩ = some (.string ((rd_T83 x134001_1 x8_1).f1)) := hcc19 1 _ rfl
         have hf19_0 : wr.frozen? ⟨go19, (x8_1 : Int).toNat * 2, none⟩ = false := hfr19 0
         have hf19_1 : wr.frozen? ⟨go19, (x8_1 : Int).toNat * 2 + 1, none⟩ = false := hfr19 1
         clear hcl19 hcc19 hfr19 hM19
         replace p19 := eq_true p19
         replace q19 := eq_true q19
         have HX24 := zA_ (show Kd.R k83 83 wr w.heap.size (fun _ => True) (.slice (some ⟨go19, 0, none⟩) x134001_1.length co23) x134001_1 from (zr_ HO_134001.out))
         obtain ⟨ce24, hcl24, hM24, hcc24, hfr24⟩ := Kd.R_elem HX24.out z83 (x8_1 : Int) (of_decide_eq_true βKb) (by have h_ : (x8_1 : Int) < ((x134001_1.length : Int) : Int) := of_decide_eq_true βKb; first | exact h_ | (have e_ := (Kd.R_reads' HO_134001.out).1; omega) | simpa using h_)
         obtain rfl := k83_openM hM24
         have HP24 := Kd.R_seg HX24.out (x8_1 : Int) (of_decide_eq_true βKb) (by have h_ : (x8_1 : Int) < ((x134001_1.length : Int) : Int) := of_decide_eq_true βKb; first | exact h_ | (have e_ := (Kd.R_reads' HO_134001.out).1; omega) | simpa using h_) (seg := [.string a2]) (j := 1) hcl24 hcc24 (show 2 ≤ 2 from by decide) (x' := (⟨(rd_T83 x134001_1 x8_1).f0, a2⟩ : S83)) (k83_mkM _ _ _ (⟨(rd_T83 x134001_1 x8_1).f0, a2⟩ : S83) ) (fun _ hk => hk)
         have hx24_1 := hcc24 1 _ rfl
         (try simp only [show (k83).sz = 2 from rfl, Nat.mul_one, Nat.add_zero] at hx24_1)
         have hf24_1 := hfr24 1
         (try simp only [show (k83).sz = 2 from rfl, Nat.mul_one, Nat.add_zero] at hf24_1)
         clear hcl24 hcc24 hfr24 hM24
         go_wp2_with (first | ((with_reducible refine gate_store (t := 9) (p := 31) rfl ?_); refine store_event (t := 9) (p := 31) (v := ?vo_w25) (w1 := (wr.setCell ⟨go19, (x8_1 : Int).toNat * 2 + 1, none⟩ (.string a2))) ?hg ?ho ?hn ?hr ?_; (case ho => exact (by rfl)); (case hg => exact (by rfl)); (case hn => exact (by rfl)); (case hr => exact (by first | (go_simp; done) | (go_simp; rfl) | (have hq_ := HQ_.out; subst hq_; go_simp; done) | (have hq_ := HQ_.out; subst hq_; go_simp; rfl))); intro w25 hw; have hg : wr.grownBy w25 (some go19) := (by rw [hw]; exact HP24.2); have hp_ : Kd.R k83 83 w25 w.heap.size (fun _ => True) (.slice (some ⟨go19, 0, none⟩) x134001_1.length co23) y135 := (by rw [hw, Ny135.out]; exact HP24.1); clear HP24; replace HO_134000 := zA_ (Kd.R_over' (v := (.slice (some ⟨go19, 0, none⟩) x134001_1.length co23)) (zr_ HO_134000.out) (Kd.R_typed HO_134001.out) (by decide) hg); replace BK125 := zA_ (blk_grown (g := gb125) (o := .cells #[.slice A0_0 l0_0.length c0_0, .slice A0_1 l0_1.length c0_1] 26 (0, 0)) (zb_ BK125.out) hg (Kd.R_ne HO_134001.out BK125.out (by decide))); replace BK126 := zA_ (blk_grown (g := gb126) (o := .cells #[.slice none 0 0, .slice none 0 0] 26 (0, 0)) (zb_ BK126.out) hg (Kd.R_ne HO_134001.out BK126.out (by decide))); replace BK133 := zA_ (blk_grown (g := gb133) (o := .cells #[.slice Ao11 t127.length co11, .slice (some ⟨go19, 0, none⟩) x134001_1.length co23] 26 (0, 0)) (zb_ BK133.out) hg (Kd.R_ne HO_134001.out BK133.out (by decide))); replace HO_134001 := zA_ (hp_); replace HB := zA_ ((by rw [hw]; exact below_set (HB.out) GB19.out : Below w.heap.size w w25)); clear hg hw hp_; have hcz26_0 := cz_ BK133.out 0 (.slice Ao11 t127.length co11) rfl; have hcz26_1 := cz_ BK133.out 1 (.slice (some ⟨go19, 0, none⟩) x134001_1.length co23) rfl; have hfz26_0 := blk_frozen BK133.out 0; have hfz26_1 := blk_frozen BK133.out 1; have hnb27 := NB126_125.out; have hnc27 := NB125_126.out; have hcz28_0 := cz_ BK126.out 0 (.slice none 0 0) rfl; have hcz28_1 := cz_ BK126.out 1 (.slice none 0 0) rfl; have hfz28_0 := blk_frozen BK126.out 0; have hfz28_1 := blk_frozen BK126.out 1))
         refine bodyPost_ret (results_cell_row rfl _ _ gb126 26 #[.slice Ao11 t127.length co11, .slice (some ⟨go19, 0, none⟩) x134001_1.length co23] (0, 0) _ rfl (by (with_reducible repeat (first | refine blk_drewN ?_ _ | refine blk_drew ?_ | refine blk_alloc ?_ _)); refine blk_put (cs := #[.slice Ao11 t127.length co11, .slice none 0 0]) ?_ 1 _ rfl; (with_reducible repeat (first | refine blk_drewN ?_ _ | refine blk_drew ?_ | refine blk_alloc ?_ _)); refine blk_put (cs := #[.slice none 0 0, .slice none 0 0]) ?_ 0 _ rfl; (with_reducible repeat (first | refine blk_drewN ?_ _ | refine blk_drew ?_ | refine blk_alloc ?_ _)); exact BK126.out) Try.underlying26 rfl βPb) rfl ?_
         exact ⟨_, _, βFb, (by (with_reducible repeat (first | apply Kd.R_alloc | apply Kd.R_drewN | apply Kd.R_drew)); exact Kd.R_mono (Kd.R_far (p := ⟨gb126, 1, none⟩) (Kd.R_far (p := ⟨gb126, 0, none⟩) (Kd.R_types HO_134000.out BK126.out (by decide)) (fun _ hk => hk.2) (.slice Ao11 t127.length co11)) (fun _ hk => hk.2) (.slice (some ⟨go19, 0, none⟩) x134001_1.length co23)) (fun _ hk => trivial)), (by (with_reducible repeat (first | apply Kd.R_alloc | apply Kd.R_drewN | apply Kd.R_drew)); exact Kd.R_mono (Kd.R_far (p := ⟨gb126, 1, none⟩) (Kd.R_far (p := ⟨gb126, 0, none⟩) (Kd.R_types HO_134001.out BK126.out (by decide)) (fun _ hk => hk.2) (.slice Ao11 t127.length co11)) (fun _ hk => hk.2) (.slice (some ⟨go19, 0, none⟩) x134001_1.length co23)) (fun _ hk => trivial)), βGa⟩
       · rw [if_neg c18] at H
         have c18b0 : (((rd_T83 x134001_1 x8_1).f0) == a1) = false := beq_eq_false_iff_ne.mpr c18
         have c18b1 : (((rd_T83 x134001_1 x8_1).f0) != a1) = true := bne_iff_ne.mpr c18
         have H' := zA_ H
         clear H
         have hnb29 := NB133_125.out
         have hnc29 := NB125_133.out
         have hnb30 := NB133_126.out
         have hnc30 := NB126_133.out
         have hcz31_0 := cz_ BK133.out 0 (.slice Ao11 t127.length co11) rfl
         have hcz31_1 : wr.cell? ⟨gb133, 1, none⟩ = some (u134001) := (blk_cell BK133.out 1).trans rfl
         have hfz31_0 := blk_frozen BK133.out 0
         have hfz31_1 := blk_frozen BK133.out 1
         obtain ⟨Ao32, co32, eo32⟩ := Kd.R_slice HO_134001.out
         subst eo32
         have p134 : 0 ≤ (x8_1 : Int) := of_decide_eq_true βKb
         have q134 : x8_1 < (x134001_1.length : Int) := of_decide_eq_true βKb
         obtain ⟨ad134, e134, hx134_0, hx134_1⟩ := at_T83 (Kd.R_reads' HO_134001.out).2.2 x8_1 p134 q134
         cases e134
         replace p134 := eq_true p134
         replace q134 := eq_true q134
         go_wp2
         go_roundg k1
         case measure => have := HK1.out; omega
         case rel => exact ⟨(wrap64 (x8_1 + 1)), (x134001_1), (.slice (some ad134) x134001_1.length co32), βLb, H', ⟨βOb⟩, ⟨zr_ HO_134000.out⟩, ⟨zr_ HO_134001.out⟩, ⟨zb_ BK125.out⟩, ⟨zb_ BK126.out⟩, ⟨zb_ BK133.out⟩, ⟨zg3_ HB.out GE125.out GE126.out GE133.out⟩⟩
     · rw [if_neg c17] at H
       exact absurd H (by simp)
   · rw [if_neg c16] at H
     have c16b0 : decide (x8_1 < (x134001_1.length : Int)) = false := decide_eq_false c16
     clear c16
     by_cases c33 : x134001_1.length < 5864062014805
     · rw [if_pos c33] at H
       have LMc33 := zA_ c33
       clear c33
       obtain ⟨y136, hy136⟩ : ∃ y_ : List (S83), y_ = (x134001_1 ++ [(⟨a1, a2⟩ : S83)]) := ⟨_, rfl⟩
       replace H : (some (t127, y136)) = some (r1, r2) := by first | (rw [hy136]; with_reducible exact H) | (have H2_ := (Option.bind_some _ _).symm.trans H; rw [hy136]; with_reducible exact H2_) | (have H2_ := (Option.bind_some _ _).symm.trans H; with_reducible exact H2_) | with_reducible exact H | (rw [hy136]; exact H) | exact H
       have Ny136 := zA_ hy136
       clear hy136
       simp only [Option.some.injEq, Prod.mk.injEq] at H
       obtain ⟨rfl, rfl⟩ := H
       have hnb34 := NB133_125.out
       have hnc34 := NB125_133.out
       have hnb35 := NB133_126.out
       have hnc35 := NB126_133.out
       have hcz36_0 := cz_ BK133.out 0 (.slice Ao11 t127.length co11) rfl
       have hcz36_1 : wr.cell? ⟨gb133, 1, none⟩ = some (u134001) := (blk_cell BK133.out 1).trans rfl
       have hfz36_0 := blk_frozen BK133.out 0
       have hfz36_1 := blk_frozen BK133.out 1
       obtain ⟨Ao37, co37, eo37⟩ := Kd.R_slice HO_134001.out
       subst eo37
       go_wp2_with (first | ((with_reducible refine gate_builtin (b := .append) (xs := #[.tmp 34, .tmp 38]) rfl ?_); at_builtin; refine Kd.R_append k83 (w0 := w) w.heap.size rfl (.tmp 34) (.tmp 38) 24 83 (.agg #[(.int .i64 0), (.string ⟨#[]⟩)]) 24 rfl Try.underlying24 info83 rfl (by decide) (by omega) (.slice Ao37 x134001_1.length co37) x134001_1 (⟨a1, a2⟩ : S83) [.int .i64 a1, .string a2] (fun _ => True) (fun _ => False) rfl rfl ?aP (fun _ hk => hk.elim) ?aF ?aO ?aB ?aS ?aL ?_; (case aP => exact k83_mkM _ _ _ (⟨a1, a2⟩ : S83)); (case aB => exact (zg3_ HB.out GE125.out GE126.out GE133.out)); (case aF => exact (fun _ _ => trivial)); (case aO => exact (zr_ HO_134001.out)); (case aS => exact (below_size (zg3_ HB.out GE125.out GE126.out GE133.out))); (case aL => exact (by have := LMc33.out; omega)); intro v137 w38 ho hb hg hat; rw [← Ny136.out] at ho; replace HO_134000 := zA_ (Kd.R_over' (zr_ HO_134000.out) (Kd.R_typed (zr_ HO_134001.out)) (by decide) hg); replace BK125 := zA_ (blk_grown (g := gb125) (o := .cells #[.slice A0_0 l0_0.length c0_0, .slice A0_1 l0_1.length c0_1] 26 (0, 0)) (zb_ BK125.out) hg (Kd.R_ne HO_134001.out BK125.out (by decide))); replace BK126 := zA_ (blk_grown (g := gb126) (o := .cells #[.slice none 0 0, .slice none 0 0] 26 (0, 0)) (zb_ BK126.out) hg (Kd.R_ne HO_134001.out BK126.out (by decide))); replace BK133 := zA_ (blk_grown (g := gb133) (o := .cells #[.slice Ao11 t127.length co11, .slice Ao37 x134001_1.length co37] 26 (0, 0)) (zb_ BK133.out) hg (Kd.R_ne HO_134001.out BK133.out (by decide))); replace HB := zA_ (hb); have HO138 := zA_ (ho); clear HO_134001; clear ho hb hg hat; obtain ⟨Ao39, co39, eo39⟩ := Kd.R_slice HO138.out; subst eo39; have hcz40_0 := cz_ BK133.out 0 (.slice Ao11 t127.length co11) rfl; have hcz40_1 := cz_ BK133.out 1 (.slice Ao37 x134001_1.length co37) rfl; have hfz40_0 := blk_frozen BK133.out 0; have hfz40_1 := blk_frozen BK133.out 1; have hnb41 := NB126_125.out; have hnc41 := NB125_126.out; have hcz42_0 := cz_ BK126.out 0 (.slice none 0 0) rfl; have hcz42_1 := cz_ BK126.out 1 (.slice none 0 0) rfl; have hfz42_0 := blk_frozen BK126.out 0; have hfz42_1 := blk_frozen BK126.out 1))
       refine bodyPost_ret (results_cell_row rfl _ _ gb126 26 #[.slice Ao11 t127.length co11, .slice Ao39 y136.length co39] (0, 0) _ rfl (by (with_reducible repeat (first | refine blk_drewN ?_ _ | refine blk_drew ?_ | refine blk_alloc ?_ _)); refine blk_put (cs := #[.slice Ao11 t127.length co11, .slice none 0 0]) ?_ 1 _ rfl; (with_reducible repeat (first | refine blk_drewN ?_ _ | refine blk_drew ?_ | refine blk_alloc ?_ _)); refine blk_put (cs := #[.slice none 0 0, .slice none 0 0]) ?_ 0 _ rfl; (with_reducible repeat (first | refine blk_drewN ?_ _ | refine blk_drew ?_ | refine blk_alloc ?_ _)); refine blk_far ?_ NB126_133.out _; (with_reducible repeat (first | refine blk_drewN ?_ _ | refine blk_drew ?_ | refine blk_alloc ?_ _)); exact BK126.out) Try.underlying26 rfl βPb) rfl ?_
       exact ⟨_, _, βFb, (by (with_reducible repeat (first | apply Kd.R_alloc | apply Kd.R_drewN | apply Kd.R_drew)); exact Kd.R_mono (Kd.R_far (p := ⟨gb126, 1, none⟩) (Kd.R_far (p := ⟨gb126, 0, none⟩) (Kd.R_far (p := ⟨gb133, 1, none⟩) (Kd.R_types (Kd.R_types HO_134000.out BK133.out (by decide)) BK126.out (by decide)) (fun _ hk => hk.1.2) (.slice Ao39 y136.length co39)) (fun _ hk => hk.2) (.slice Ao11 t127.length co11)) (fun _ hk => hk.2) (.slice Ao39 y136.length co39)) (fun _ hk => trivial)), (by (with_reducible repeat (first | apply Kd.R_alloc | apply Kd.R_drewN | apply Kd.R_drew)); exact Kd.R_mono (Kd.R_far (p := ⟨gb126, 1, none⟩) (Kd.R_far (p := ⟨gb126, 0, none⟩) (Kd.R_far (p := ⟨gb133, 1, none⟩) (Kd.R_types (Kd.R_types HO138.out BK133.out (by decide)) BK126.out (by decide)) (fun _ hk => hk.1.2) (.slice Ao39 y136.length co39)) (fun _ hk => hk.2) (.slice Ao11 t127.length co11)) (fun _ hk => hk.2) (.slice Ao39 y136.length co39)) (fun _ hk => trivial)), βGa⟩
     · rw [if_neg c33] at H
       exact absurd H (by simp)
def spec_FlashWrite.j0 : Nat → Int → ByteArray → Bool → List ByteArray → List (S83) → Option (List ByteArray × (List (S83)) × ByteArray × Int)
 | 0, _, _, _, _, _ => none
 | k + 1, x1, x2, x18, x140000, x140001 => if x18 = true then ((spec_l03Ill.f 1).bind fun bt150 => (some (bt150.1, bt150.2.1, bt150.2.2.1, bt150.2.2.2))) else ((spec_l03Is.f x1 0 (wrap64 ((x140000.length : Int) - 1))).bind fun t158 => (if t158 = true then ((spec_l03Put.f k x140000 x140001 x1 x2).bind fun bt159 => (some (bt159.1, bt159.2, (⟨#[]⟩ : ByteArray), 0))) else ((spec_l03Ill.f 8).bind fun bt165 => (some (bt165.1, bt165.2.1, bt165.2.2.1, bt165.2.2.2)))))
def spec_FlashWrite.f (k : Nat) (l0_0 : List ByteArray) (l0_1 : List (S83)) (a1 : Int) (a2 : ByteArray) : Option (List ByteArray × (List (S83)) × ByteArray × Int) := if (a2.size : Int) > 8000 then ((spec_l03Ill.f 2).bind fun bt141 => (some (bt141.1, bt141.2.1, bt141.2.2.1, bt141.2.2.2))) else ((spec_FlashRight.f k l0_0 l0_1).bind fun t149 => (if t149 = true then (spec_FlashWrite.j0 k a1 a2 (decide ((a2.size : Int) > 96)) l0_0 l0_1) else (spec_FlashWrite.j0 k a1 a2 true l0_0 l0_1)))
theorem spec_FlashWrite.calls (k : Nat) (A0_0 : Option Addr) (c0_0 : Nat) (l0_0 : List ByteArray) (A0_1 : Option Addr) (c0_1 : Nat) (l0_1 : List (S83)) (a1 : Int) (a2 : ByteArray) (r1 : List ByteArray) (r2 : List (S83)) (r3 : ByteArray) (r4 : Int) (w : World) (hr0_0 : Kd.C Kd.string w A0_0 l0_0.length l0_0) (hc0_0 : l0_0.length ≤ c0_0) (hr0_1 : Kd.C k83 w A0_1 l0_1.length l0_1) (hc0_1 : l0_1.length ≤ c0_1) (h : spec_FlashWrite.f k l0_0 l0_1 a1 a2 = some (r1, r2, r3, r4)) :
 Calls Try.prog 14 #[.agg #[.slice A0_0 l0_0.length c0_0, .slice A0_1 l0_1.length c0_1], .int .i64 a1, .string a2] w fun e w' => ∃ v0_ v1_ : Value, e = .returned (.agg #[v0_, v1_, .string r3, .int .i64 r4]) ∧ Kd.R Kd.string 9 w' w.heap.size (fun _ => True) v0_ r1 ∧ Kd.R k83 83 w' w.heap.size (fun _ => True) v1_ r2 ∧ Below w.heap.size w w' := by
 have hu26 := Try.underlying26
 have hu30 := Try.underlying30
 have HR0_0 := zA_ hr0_0
 have HC0_0 := zA_ hc0_0
 clear hr0_0 hc0_0
 have HR0_1 := zA_ hr0_1
 have HC0_1 := zA_ hc0_1
 clear hr0_1 hc0_1
 have HB := zA_ (Below.refl w.heap.size w)
 have H : (if (a2.size : Int) > 8000 then ((spec_l03Ill.f 2).bind fun bt141 => (some (bt141.1, bt141.2.1, bt141.2.2.1, bt141.2.2.2))) else ((spec_FlashRight.f k l0_0 l0_1).bind fun t149 => (if t149 = true then (spec_FlashWrite.j0 k a1 a2 (decide ((a2.size : Int) > 96)) l0_0 l0_1) else (spec_FlashWrite.j0 k a1 a2 true l0_0 l0_1)))) = some (r1, r2, r3, r4) := h
 clear h
 by_cases c4 : (a2.size : Int) > 8000
 · rw [if_pos c4] at H
   have c4b0 : decide (8000 < (a2.size : Int)) = true := decide_eq_true c4
   have c4b1 : decide (8000 < a2.size) = true := decide_eq_true (by omega)
   clear c4
   replace H := Option.bind_eq_some_iff.mp H
   obtain ⟨⟨t141, t144, t147, t148⟩, A50, H⟩ := H
   (try dsimp -simprocs only at H)
   have A5 := zA_ A50
   clear A50
   simp only [Option.some.injEq, Prod.mk.injEq] at H
   obtain ⟨rfl, rfl, rfl, rfl⟩ := H
   go_enter Try.func14, Try.ntmps14
   go_wp2_with (first | ((with_reducible refine gate_dst (N := 3) rfl ?_); (try (refine gate_guard (by rfl) ?_; dsimp only)); refine box_event ?hg (N := 3) ?hd (cs := #[.slice A0_0 l0_0.length c0_0, .slice A0_1 l0_1.length c0_1]) (t := 26) ?hr ?_; (case hd => exact (by rfl)); (case hg => exact (by rfl)); (case hr => exact βMb); intro gb139 hg w6 hbox hb; have BK139 := zA_ (hbox); have GW139 := zA_ ((by rw [hg]; exact (below_size (zh_ HB.out)) : w.heap.size ≤ gb139)); have GE139 := zA_ ((by rw [hg]; exact (below_size (zh_ HB.out)) : w.heap.size ≤ gb139)); replace HB := zA_ (below_step (zh_ HB.out) hb); clear hb hbox hg) | ((with_reducible refine gate_dst (N := 6) rfl ?_); (try (refine gate_guard (by rfl) ?_; dsimp only)); refine box_event ?hg (N := 6) ?hd (cs := #[.slice none 0 0, .slice none 0 0, .string (⟨#[]⟩ : ByteArray), .int .i64 0]) (t := 30) ?hr ?_; (case hd => exact (by rfl)); (case hg => exact (by rfl)); (case hr => exact βMb); intro gb140 hg w7 hbox hb; have BK140 := zA_ (hbox); have GW140 := zA_ ((by rw [hg]; exact (below_size (zg1_ HB.out GE139.out)) : w.heap.size ≤ gb140)); have GE140 := zA_ ((by rw [hg]; exact (below_size (zg1_ HB.out GE139.out)) : w.heap.size ≤ gb140)); replace HB := zA_ (below_step (zg1_ HB.out GE139.out) hb); have NB139_140 := zA_ ((by rw [hg]; exact Nat.ne_of_lt (blk_lt (g := gb139) (o := .cells #[.slice A0_0 l0_0.length c0_0, .slice A0_1 l0_1.length c0_1] 26 (0, 0)) (zb_ BK139.out)) : gb139 ≠ gb140)); have NB140_139 := zA_ ((by rw [hg]; exact Nat.ne_of_gt (blk_lt (g := gb139) (o := .cells #[.slice A0_0 l0_0.length c0_0, .slice A0_1 l0_1.length c0_1] 26 (0, 0)) (zb_ BK139.out)) : gb140 ≠ gb139)); replace BK139 := zB_ BK139.out hb; clear hb hbox hg) | ((with_reducible refine gate_callee (f := 56) rfl ?_); refine goesL_ (some 10) rfl rfl Try.func56 βPb rfl #[.int .i64 2] rfl zs_ ?_; (with_reducible refine (spec_l03Ill.calls 2 t141 t144 t147 t148 _ A5.out).mono ?_); rintro e w8 ⟨v142, v145, rfl, ho0, ho1, hb⟩; refine ⟨_, rfl, ?_⟩; have HO143 := zA_ (Kd.R_lower ho0 (below_size (zg2_ HB.out GE139.out GE140.out))); have HO146 := zA_ (Kd.R_lower ho1 (below_size (zg2_ HB.out GE139.out GE140.out))); replace BK139 := zB_ BK139.out hb; replace BK140 := zB_ BK140.out hb; replace HB := zA_ (below_step (zg2_ HB.out GE139.out GE140.out) hb); (try clear hb); (try clear hb2); (try clear hk); (try clear hi); (try clear ho0); (try clear ho1); obtain ⟨Ao9, co9, eo9⟩ := Kd.R_slice HO143.out; subst eo9; have hnb10 := NB140_139.out; have hnc10 := NB139_140.out; have hcz11_0 := cz_ BK140.out 0 (.slice none 0 0) rfl; have hcz11_1 := cz_ BK140.out 1 (.slice none 0 0) rfl; have hcz11_2 := cz_ BK140.out 2 (.string (⟨#[]⟩ : ByteArray)) rfl; have hcz11_3 := cz_ BK140.out 3 (.int .i64 0) rfl; have hfz11_0 := blk_frozen BK140.out 0; have hfz11_1 := blk_frozen BK140.out 1; have hfz11_2 := blk_frozen BK140.out 2; have hfz11_3 := blk_frozen BK140.out 3; obtain ⟨Ao12, co12, eo12⟩ := Kd.R_slice HO146.out; subst eo12))
   refine bodyPost_ret (results_cell_row rfl _ _ gb140 30 #[.slice Ao9 t141.length co9, .slice Ao12 t144.length co12, .string t147, .int .i64 t148] (0, 0) _ rfl (by (with_reducible repeat (first | refine blk_drewN ?_ _ | refine blk_drew ?_ | refine blk_alloc ?_ _)); refine blk_put (cs := #[.slice Ao9 t141.length co9, .slice Ao12 t144.length co12, .string t147, .int .i64 0]) ?_ 3 _ rfl; (with_reducible repeat (first | refine blk_drewN ?_ _ | refine blk_drew ?_ | refine blk_alloc ?_ _)); refine blk_put (cs := #[.slice Ao9 t141.length co9, .slice Ao12 t144.length co12, .string (⟨#[]⟩ : ByteArray), .int .i64 0]) ?_ 2 _ rfl; (with_reducible repeat (first | refine blk_drewN ?_ _ | refine blk_drew ?_ | refine blk_alloc ?_ _)); refine blk_put (cs := #[.slice Ao9 t141.length co9, .slice none 0 0, .string (⟨#[]⟩ : ByteArray), .int .i64 0]) ?_ 1 _ rfl; (with_reducible repeat (first | refine blk_drewN ?_ _ | refine blk_drew ?_ | refine blk_alloc ?_ _)); refine blk_put (cs := #[.slice none 0 0, .slice none 0 0, .string (⟨#[]⟩ : ByteArray), .int .i64 0]) ?_ 0 _ rfl; (with_reducible repeat (first | refine blk_drewN ?_ _ | refine blk_drew ?_ | refine blk_alloc ?_ _)); exact BK140.out) Try.underlying30 rfl βPb) rfl ?_
   exact ⟨_, _, βFb, (by (with_reducible repeat (first | apply Kd.R_alloc | apply Kd.R_drewN | apply Kd.R_drew)); exact Kd.R_mono (Kd.R_far (p := ⟨gb140, 3, none⟩) (Kd.R_far (p := ⟨gb140, 2, none⟩) (Kd.R_far (p := ⟨gb140, 1, none⟩) (Kd.R_far (p := ⟨gb140, 0, none⟩) (Kd.R_types HO143.out BK140.out (by decide)) (fun _ hk => hk.2) (.slice Ao9 t141.length co9)) (fun _ hk => hk.2) (.slice Ao12 t144.length co12)) (fun _ hk => hk.2) (.string t147)) (fun _ hk => hk.2) (.int .i64 t148)) (fun _ hk => trivial)), (by (with_reducible repeat (first | apply Kd.R_alloc | apply Kd.R_drewN | apply Kd.R_drew)); exact Kd.R_mono (Kd.R_far (p := ⟨gb140, 3, none⟩) (Kd.R_far (p := ⟨gb140, 2, none⟩) (Kd.R_far (p := ⟨gb140, 1, none⟩) (Kd.R_far (p := ⟨gb140, 0, none⟩) (Kd.R_types HO146.out BK140.out (by decide)) (fun _ hk => hk.2) (.slice Ao9 t141.length co9)) (fun _ hk => hk.2) (.slice Ao12 t144.length co12)) (fun _ hk => hk.2) (.string t147)) (fun _ hk => hk.2) (.int .i64 t148)) (fun _ hk => trivial)), βbb⟩
 · rw [if_neg c4] at H
   have c4b0 : decide (8000 < (a2.size : Int)) = false := decide_eq_false c4
   have c4b1 : decide (8000 < a2.size) = false := decide_eq_false (by omega)
   clear c4
   have HC13 := zA_ H
   clear H
   go_enter Try.func14, Try.ntmps14
   go_upto_region 3 with (first | ((with_reducible refine gate_dst (N := 3) rfl ?_); (try (refine gate_guard (by rfl) ?_; dsimp only)); refine box_event ?hg (N := 3) ?hd (cs := #[.slice A0_0 l0_0.length c0_0, .slice A0_1 l0_1.length c0_1]) (t := 26) ?hr ?_; (case hd => exact (by rfl)); (case hg => exact (by rfl)); (case hr => exact βMb); intro gb139 hg w14 hbox hb; have BK139 := zA_ (hbox); have GW139 := zA_ ((by rw [hg]; exact (below_size (zh_ HB.out)) : w.heap.size ≤ gb139)); have GE139 := zA_ ((by rw [hg]; exact (below_size (zh_ HB.out)) : w.heap.size ≤ gb139)); replace HB := zA_ (below_step (zh_ HB.out) hb); clear hb hbox hg) | ((with_reducible refine gate_dst (N := 6) rfl ?_); (try (refine gate_guard (by rfl) ?_; dsimp only)); refine box_event ?hg (N := 6) ?hd (cs := #[.slice none 0 0, .slice none 0 0, .string (⟨#[]⟩ : ByteArray), .int .i64 0]) (t := 30) ?hr ?_; (case hd => exact (by rfl)); (case hg => exact (by rfl)); (case hr => exact βMb); intro gb140 hg w15 hbox hb; have BK140 := zA_ (hbox); have GW140 := zA_ ((by rw [hg]; exact (below_size (zg1_ HB.out GE139.out)) : w.heap.size ≤ gb140)); have GE140 := zA_ ((by rw [hg]; exact (below_size (zg1_ HB.out GE139.out)) : w.heap.size ≤ gb140)); replace HB := zA_ (below_step (zg1_ HB.out GE139.out) hb); have NB139_140 := zA_ ((by rw [hg]; exact Nat.ne_of_lt (blk_lt (g := gb139) (o := .cells #[.slice A0_0 l0_0.length c0_0, .slice A0_1 l0_1.length c0_1] 26 (0, 0)) (zb_ BK139.out)) : gb139 ≠ gb140)); have NB140_139 := zA_ ((by rw [hg]; exact Nat.ne_of_gt (blk_lt (g := gb139) (o := .cells #[.slice A0_0 l0_0.length c0_0, .slice A0_1 l0_1.length c0_1] 26 (0, 0)) (zb_ BK139.out)) : gb140 ≠ gb139)); replace BK139 := zB_ BK139.out hb; clear hb hbox hg))
   (try simp only [Act.put, List.setIfInBounds_toArray, List.set_cons_zero, List.set_cons_succ])
   go_cut [18] (fun v18 wc => ∃ (kq : Nat) (x18_12 : Bool), v18 = .bool x18_12 ∧ Aside0 (spec_FlashWrite.j0 kq a1 a2 x18_12 l0_0 l0_1 = some (r1, r2, r3, r4)) ∧ Aside0 (kq ≤ k) ∧ Aside0 (wc.heap[gb139]? = some (.cells #[(.slice A0_0 l0_0.length c0_0), (.slice A0_1 l0_1.length c0_1)] 26 (0, 0))) ∧ Aside0 (wc.heap[gb140]? = some (.cells #[(.slice none 0 0), (.slice none 0 0), .string (⟨#[]⟩ : ByteArray), .int .i64 0] 30 (0, 0))) ∧ Aside0 (Below w.heap.size w wc))
   case first =>
    have H := HC13.out
    clear HC13
    replace H := Option.bind_eq_some_iff.mp H
    obtain ⟨t149, A160, H⟩ := H
    (try dsimp -simprocs only at H)
    have A16 := zA_ A160
    clear A160
    by_cases c17 : t149 = true
    · subst c17
      have H1 : (spec_FlashWrite.j0 k a1 a2 (decide ((a2.size : Int) > 96)) l0_0 l0_1) = some (r1, r2, r3, r4) := by rw [if_pos rfl] at H; exact H
      clear H
      have H := H1
      clear H1
      have H' := zA_ H
      clear H
      have hnb18 := NB139_140.out
      have hnc18 := NB140_139.out
      have hcz19_0 := cz_ BK139.out 0 (.slice A0_0 l0_0.length c0_0) rfl
      have hcz19_1 := cz_ BK139.out 1 (.slice A0_1 l0_1.length c0_1) rfl
      have hfz19_0 := blk_frozen BK139.out 0
      have hfz19_1 := blk_frozen BK139.out 1
      go_wp2_with (first | ((with_reducible refine gate_callee (f := 25) rfl ?_); refine goesL_ (some 12) rfl rfl Try.func25 βPb rfl #[.agg #[.slice A0_0 l0_0.length c0_0, .slice A0_1 l0_1.length c0_1]] rfl zs_ ?_; (with_reducible refine (spec_FlashRight.calls k _ _ l0_0 _ _ l0_1 true _ ?side1 ?side2 ?side3 ?side4 A16.out).mono ?_); (case side1 => exact zc_ (Kd.C_below HR0_0.out HB.out)); (case side2 => exact HC0_0.out); (case side3 => exact zc_ (Kd.C_below HR0_1.out HB.out)); (case side4 => exact HC0_1.out); rintro e w20 ⟨rfl, hb⟩; refine ⟨_, rfl, ?_⟩; replace BK139 := zB_ BK139.out hb; replace BK140 := zB_ BK140.out hb; replace HB := zA_ (below_step (zg2_ HB.out GE139.out GE140.out) hb); (try clear hb); (try clear hb2); (try clear hk); (try clear hi)))
      go_meet
      case rel => exact ⟨_, (decide ((a2.size : Int) > 96)), βLb, H', ⟨βNb⟩, ⟨zb_ BK139.out⟩, ⟨zb_ BK140.out⟩, ⟨zg2_ HB.out GE139.out GE140.out⟩⟩
    · replace c17 := Bool.eq_false_iff.mpr c17
      subst c17
      have H1 : (spec_FlashWrite.j0 k a1 a2 true l0_0 l0_1) = some (r1, r2, r3, r4) := by rw [if_neg (show ¬ (false = true) by decide)] at H; exact H
      clear H
      have H := H1
      clear H1
      have H' := zA_ H
      clear H
      have hnb21 := NB139_140.out
      have hnc21 := NB140_139.out
      have hcz22_0 := cz_ BK139.out 0 (.slice A0_0 l0_0.length c0_0) rfl
      have hcz22_1 := cz_ BK139.out 1 (.slice A0_1 l0_1.length c0_1) rfl
      have hfz22_0 := blk_frozen BK139.out 0
      have hfz22_1 := blk_frozen BK139.out 1
      go_wp2_with (first | ((with_reducible refine gate_callee (f := 25) rfl ?_); refine goesL_ (some 12) rfl rfl Try.func25 βPb rfl #[.agg #[.slice A0_0 l0_0.length c0_0, .slice A0_1 l0_1.length c0_1]] rfl zs_ ?_; (with_reducible refine (spec_FlashRight.calls k _ _ l0_0 _ _ l0_1 false _ ?side1 ?side2 ?side3 ?side4 A16.out).mono ?_); (case side1 => exact zc_ (Kd.C_below HR0_0.out HB.out)); (case side2 => exact HC0_0.out); (case side3 => exact zc_ (Kd.C_below HR0_1.out HB.out)); (case side4 => exact HC0_1.out); rintro e w23 ⟨rfl, hb⟩; refine ⟨_, rfl, ?_⟩; replace BK139 := zB_ BK139.out hb; replace BK140 := zB_ BK140.out hb; replace HB := zA_ (below_step (zg2_ HB.out GE139.out GE140.out) hb); (try clear hb); (try clear hb2); (try clear hk); (try clear hi)))
      go_meet
      case rel => exact ⟨_, (true), βLb, H', ⟨βNb⟩, ⟨zb_ BK139.out⟩, ⟨zb_ BK140.out⟩, ⟨zg2_ HB.out GE139.out GE140.out⟩⟩
   case rest =>
    clear HC13
    try clear c1
    try clear c2
    try clear p2
    try clear c4
    try clear c4b0
    try clear c4b1
    try clear c5
    try clear c10
    try clear c14
    try clear c17
    try clear c18
    try clear c21
    try clear hcz11_0
    try clear hcz11_1
    try clear hcz11_2
    try clear hcz11_3
    try clear hcz19_0
    try clear hcz19_1
    try clear hcz22_0
    try clear hcz22_1
    try clear hfz11_0
    try clear hfz11_1
    try clear hfz11_2
    try clear hfz11_3
    try clear hfz19_0
    try clear hfz19_1
    try clear hfz22_0
    try clear hfz22_1
    obtain ⟨kq, x18_12, rfl, HA, HJ12, BK139, BK140, HB⟩ := hcut
    cases kq with
    | zero => exact absurd HA.out (by simp [spec_FlashWrite.j0])
    | succ kj12 =>
     have H := HA.out
     clear HA
     simp only [spec_FlashWrite.j0] at H
     by_cases c24 : x18_12 = true
     · subst c24
       have H1 : ((spec_l03Ill.f 1).bind fun bt150 => (some (bt150.1, bt150.2.1, bt150.2.2.1, bt150.2.2.2))) = some (r1, r2, r3, r4) := by rw [if_pos rfl] at H; exact H
       clear H
       have H := H1
       clear H1
       replace H := Option.bind_eq_some_iff.mp H
       obtain ⟨⟨t150, t153, t156, t157⟩, A250, H⟩ := H
       (try dsimp -simprocs only at H)
       have A25 := zA_ A250
       clear A250
       simp only [Option.some.injEq, Prod.mk.injEq] at H
       obtain ⟨rfl, rfl, rfl, rfl⟩ := H
       go_wp2_with (first | ((with_reducible refine gate_callee (f := 56) rfl ?_); refine goesL_ (some 19) rfl rfl Try.func56 βPb rfl #[.int .i64 1] rfl zs_ ?_; (with_reducible refine (spec_l03Ill.calls 1 t150 t153 t156 t157 _ A25.out).mono ?_); rintro e w26 ⟨v151, v154, rfl, ho0, ho1, hb⟩; refine ⟨_, rfl, ?_⟩; have HO152 := zA_ (Kd.R_lower ho0 (below_size (zg2_ HB.out GE139.out GE140.out))); have HO155 := zA_ (Kd.R_lower ho1 (below_size (zg2_ HB.out GE139.out GE140.out))); replace BK139 := zB_ BK139.out hb; replace BK140 := zB_ BK140.out hb; replace HB := zA_ (below_step (zg2_ HB.out GE139.out GE140.out) hb); (try clear hb); (try clear hb2); (try clear hk); (try clear hi); (try clear ho0); (try clear ho1); obtain ⟨Ao27, co27, eo27⟩ := Kd.R_slice HO152.out; subst eo27; have hnb28 := NB140_139.out; have hnc28 := NB139_140.out; have hcz29_0 := cz_ BK140.out 0 (.slice none 0 0) rfl; have hcz29_1 := cz_ BK140.out 1 (.slice none 0 0) rfl; have hcz29_2 := cz_ BK140.out 2 (.string (⟨#[]⟩ : ByteArray)) rfl; have hcz29_3 := cz_ BK140.out 3 (.int .i64 0) rfl; have hfz29_0 := blk_frozen BK140.out 0; have hfz29_1 := blk_frozen BK140.out 1; have hfz29_2 := blk_frozen BK140.out 2; have hfz29_3 := blk_frozen BK140.out 3; obtain ⟨Ao30, co30, eo30⟩ := Kd.R_slice HO155.out; subst eo30))
       refine bodyPost_ret (results_cell_row rfl _ _ gb140 30 #[.slice Ao27 t150.length co27, .slice Ao30 t153.length co30, .string t156, .int .i64 t157] (0, 0) _ rfl (by (with_reducible repeat (first | refine blk_drewN ?_ _ | refine blk_drew ?_ | refine blk_alloc ?_ _)); refine blk_put (cs := #[.slice Ao27 t150.length co27, .slice Ao30 t153.length co30, .string t156, .int .i64 0]) ?_ 3 _ rfl; (with_reducible repeat (first | refine blk_drewN ?_ _ | refine blk_drew ?_ | refine blk_alloc ?_ _)); refine blk_put (cs := #[.slice Ao27 t150.length co27, .slice Ao30 t153.length co30, .string (⟨#[]⟩ : ByteArray), .int .i64 0]) ?_ 2 _ rfl; (with_reducible repeat (first | refine blk_drewN ?_ _ | refine blk_drew ?_ | refine blk_alloc ?_ _)); refine blk_put (cs := #[.slice Ao27 t150.length co27, .slice none 0 0, .string (⟨#[]⟩ : ByteArray), .int .i64 0]) ?_ 1 _ rfl; (with_reducible repeat (first | refine blk_drewN ?_ _ | refine blk_drew ?_ | refine blk_alloc ?_ _)); refine blk_put (cs := #[.slice none 0 0, .slice none 0 0, .string (⟨#[]⟩ : ByteArray), .int .i64 0]) ?_ 0 _ rfl; (with_reducible repeat (first | refine blk_drewN ?_ _ | refine blk_drew ?_ | refine blk_alloc ?_ _)); exact BK140.out) Try.underlying30 rfl βPb) rfl ?_
       exact ⟨_, _, βFb, (by (with_reducible repeat (first | apply Kd.R_alloc | apply Kd.R_drewN | apply Kd.R_drew)); exact Kd.R_mono (Kd.R_far (p := ⟨gb140, 3, none⟩) (Kd.R_far (p := ⟨gb140, 2, none⟩) (Kd.R_far (p := ⟨gb140, 1, none⟩) (Kd.R_far (p := ⟨gb140, 0, none⟩) (Kd.R_types HO152.out BK140.out (by decide)) (fun _ hk => hk.2) (.slice Ao27 t150.length co27)) (fun _ hk => hk.2) (.slice Ao30 t153.length co30)) (fun _ hk => hk.2) (.string t156)) (fun _ hk => hk.2) (.int .i64 t157)) (fun _ hk => trivial)), (by (with_reducible repeat (first | apply Kd.R_alloc | apply Kd.R_drewN | apply Kd.R_drew)); exact Kd.R_mono (Kd.R_far (p := ⟨gb140, 3, none⟩) (Kd.R_far (p := ⟨gb140, 2, none⟩) (Kd.R_far (p := ⟨gb140, 1, none⟩) (Kd.R_far (p := ⟨gb140, 0, none⟩) (Kd.R_types HO155.out BK140.out (by decide)) (fun _ hk => hk.2) (.slice Ao27 t150.length co27)) (fun _ hk => hk.2) (.slice Ao30 t153.length co30)) (fun _ hk => hk.2) (.string t156)) (fun _ hk => hk.2) (.int .i64 t157)) (fun _ hk => trivial)), βbb⟩
     · replace c24 := Bool.eq_false_iff.mpr c24
       subst c24
       have H1 : ((spec_l03Is.f a1 0 (wrap64 ((l0_0.length : Int) - 1))).bind fun t158 => (if t158 = true then ((spec_l03Put.f kj12 l0_0 l0_1 a1 a2).bind fun bt159 => (some (bt159.1, bt159.2, (⟨#[]⟩ : ByteArray), 0))) else ((spec_l03Ill.f 8).bind fun bt165 => (some (bt165.1, bt165.2.1, bt165.2.2.1, bt165.2.2.2))))) = some (r1, r2, r3, r4) := by rw [if_neg (show ¬ (false = true) by decide)] at H; exact H
       clear H
       have H := H1
       clear H1
       replace H := Option.bind_eq_some_iff.mp H
       obtain ⟨t158, A310, H⟩ := H
       (try dsimp -simprocs only at H)
       have A31 := zA_ A310
       clear A310
       by_cases c32 : t158 = true
       · subst c32
         have H1 : ((spec_l03Put.f kj12 l0_0 l0_1 a1 a2).bind fun bt159 => (some (bt159.1, bt159.2, (⟨#[]⟩ : ByteArray), 0))) = some (r1, r2, r3, r4) := by rw [if_pos rfl] at H; exact H
         clear H
         have H := H1
         clear H1
         replace H := Option.bind_eq_some_iff.mp H
         obtain ⟨⟨t159, t162⟩, A330, H⟩ := H
         (try dsimp -simprocs only at H)
         have A33 := zA_ A330
         clear A330
         simp only [Option.some.injEq, Prod.mk.injEq] at H
         obtain ⟨rfl, rfl, rfl, rfl⟩ := H
         have hnb34 := NB139_140.out
         have hnc34 := NB140_139.out
         have hcz35_0 := cz_ BK139.out 0 (.slice A0_0 l0_0.length c0_0) rfl
         have hcz35_1 := cz_ BK139.out 1 (.slice A0_1 l0_1.length c0_1) rfl
         have hfz35_0 := blk_frozen BK139.out 0
         have hfz35_1 := blk_frozen BK139.out 1
         go_wp2_with (first | ((with_reducible refine gate_callee (f := 57) rfl ?_); refine goesL_ (some 25) rfl rfl Try.func57 βPb rfl #[.int .i64 a1, .int .i64 0, .int .i64 (wrap64 ((l0_0.length : Int) - 1))] rfl zs_ ?_; (with_reducible refine (spec_l03Is.calls a1 0 (wrap64 ((l0_0.length : Int) - 1)) true _ A31.out).mono ?_); rintro e w' ⟨rfl, ⟨nd, rfl⟩⟩; refine ⟨_, rfl, ?_⟩; (try (rw [drewN_self wc]; generalize hq_ : World.drewN wc _ = wc; replace BK139 : Aside0 (wc.heap[gb139]? = some (.cells #[.slice A0_0 l0_0.length c0_0, .slice A0_1 l0_1.length c0_1] 26 (0, 0))) := ⟨(by rw [← hq_]; exact (zb_ BK139.out))⟩; replace BK140 : Aside0 (wc.heap[gb140]? = some (.cells #[.slice none 0 0, .slice none 0 0, .string (⟨#[]⟩ : ByteArray), .int .i64 0] 30 (0, 0))) := ⟨(by rw [← hq_]; exact (zb_ BK140.out))⟩; replace HB : Aside0 (Below w.heap.size w wc) := ⟨(by rw [← hq_]; exact (zg2_ HB.out GE139.out GE140.out))⟩; clear hq_; have hqz_gb139_0 := cz_ BK139.out 0 (.slice A0_0 l0_0.length c0_0) rfl; have hqf_gb139_0 := blk_frozen BK139.out 0; have hqz_gb139_1 := cz_ BK139.out 1 (.slice A0_1 l0_1.length c0_1) rfl; have hqf_gb139_1 := blk_frozen BK139.out 1; have hqz_gb140_0 := cz_ BK140.out 0 (.slice none 0 0) rfl; have hqf_gb140_0 := blk_frozen BK140.out 0; have hqz_gb140_1 := cz_ BK140.out 1 (.slice none 0 0) rfl; have hqf_gb140_1 := blk_frozen BK140.out 1; have hqz_gb140_2 := cz_ BK140.out 2 (.string (⟨#[]⟩ : ByteArray)) rfl; have hqf_gb140_2 := blk_frozen BK140.out 2; have hqz_gb140_3 := cz_ BK140.out 3 (.int .i64 0) rfl; have hqf_gb140_3 := blk_frozen BK140.out 3))) | ((with_reducible refine gate_callee (f := 58) rfl ?_); refine goesL_ (some 31) rfl rfl Try.func58 βPb rfl #[.agg #[.slice A0_0 l0_0.length c0_0, .slice A0_1 l0_1.length c0_1], .int .i64 a1, .string a2] rfl zs_ ?_; (with_reducible refine (spec_l03Put.calls kj12 _ _ l0_0 _ _ l0_1 a1 a2 t159 t162 _ ?side1 ?side2 ?side3 ?side4 A33.out).mono ?_); (case side1 => exact zc_ (Kd.C_below HR0_0.out HB.out)); (case side2 => exact HC0_0.out); (case side3 => exact zc_ (Kd.C_below HR0_1.out HB.out)); (case side4 => exact HC0_1.out); rintro e w36 ⟨v160, v163, rfl, ho0, ho1, hb⟩; refine ⟨_, rfl, ?_⟩; have HO161 := zA_ (Kd.R_lower ho0 (below_size (zg2_ HB.out GE139.out GE140.out))); have HO164 := zA_ (Kd.R_lower ho1 (below_size (zg2_ HB.out GE139.out GE140.out))); replace BK139 := zB_ BK139.out hb; replace BK140 := zB_ BK140.out hb; replace HB := zA_ (below_step (zg2_ HB.out GE139.out GE140.out) hb); (try clear hb); (try clear hb2); (try clear hk); (try clear hi); (try clear ho0); (try clear ho1); obtain ⟨Ao37, co37, eo37⟩ := Kd.R_slice HO164.out; subst eo37; obtain ⟨Ao38, co38, eo38⟩ := Kd.R_slice HO161.out; subst eo38; have hcz39_0 := cz_ BK140.out 0 (.slice none 0 0) rfl; have hcz39_1 := cz_ BK140.out 1 (.slice none 0 0) rfl; have hcz39_2 := cz_ BK140.out 2 (.string (⟨#[]⟩ : ByteArray)) rfl; have hcz39_3 := cz_ BK140.out 3 (.int .i64 0) rfl; have hfz39_0 := blk_frozen BK140.out 0; have hfz39_1 := blk_frozen BK140.out 1; have hfz39_2 := blk_frozen BK140.out 2; have hfz39_3 := blk_frozen BK140.out 3))
         refine bodyPost_ret (results_cell_row rfl _ _ gb140 30 #[.slice Ao38 t159.length co38, .slice Ao37 t162.length co37, .string (⟨#[]⟩ : ByteArray), .int .i64 0] (0, 0) _ rfl (by (with_reducible repeat (first | refine blk_drewN ?_ _ | refine blk_drew ?_ | refine blk_alloc ?_ _)); refine blk_put (cs := #[.slice Ao38 t159.length co38, .slice Ao37 t162.length co37, .string (⟨#[]⟩ : ByteArray), .int .i64 0]) ?_ 3 _ rfl; (with_reducible repeat (first | refine blk_drewN ?_ _ | refine blk_drew ?_ | refine blk_alloc ?_ _)); refine blk_put (cs := #[.slice Ao38 t159.length co38, .slice Ao37 t162.length co37, .string (⟨#[]⟩ : ByteArray), .int .i64 0]) ?_ 2 _ rfl; (with_reducible repeat (first | refine blk_drewN ?_ _ | refine blk_drew ?_ | refine blk_alloc ?_ _)); refine blk_put (cs := #[.slice Ao38 t159.length co38, .slice none 0 0, .string (⟨#[]⟩ : ByteArray), .int .i64 0]) ?_ 1 _ rfl; (with_reducible repeat (first | refine blk_drewN ?_ _ | refine blk_drew ?_ | refine blk_alloc ?_ _)); refine blk_put (cs := #[.slice none 0 0, .slice none 0 0, .string (⟨#[]⟩ : ByteArray), .int .i64 0]) ?_ 0 _ rfl; (with_reducible repeat (first | refine blk_drewN ?_ _ | refine blk_drew ?_ | refine blk_alloc ?_ _)); exact BK140.out) Try.underlying30 rfl βPb) rfl ?_
         exact ⟨_, _, βFb, (by (with_reducible repeat (first | apply Kd.R_alloc | apply Kd.R_drewN | apply Kd.R_drew)); exact Kd.R_mono (Kd.R_far (p := ⟨gb140, 3, none⟩) (Kd.R_far (p := ⟨gb140, 2, none⟩) (Kd.R_far (p := ⟨gb140, 1, none⟩) (Kd.R_far (p := ⟨gb140, 0, none⟩) (Kd.R_types HO161.out BK140.out (by decide)) (fun _ hk => hk.2) (.slice Ao38 t159.length co38)) (fun _ hk => hk.2) (.slice Ao37 t162.length co37)) (fun _ hk => hk.2) (.string (⟨#[]⟩ : ByteArray))) (fun _ hk => hk.2) (.int .i64 0)) (fun _ hk => trivial)), (by (with_reducible repeat (first | apply Kd.R_alloc | apply Kd.R_drewN | apply Kd.R_drew)); exact Kd.R_mono (Kd.R_far (p := ⟨gb140, 3, none⟩) (Kd.R_far (p := ⟨gb140, 2, none⟩) (Kd.R_far (p := ⟨gb140, 1, none⟩) (Kd.R_far (p := ⟨gb140, 0, none⟩) (Kd.R_types HO164.out BK140.out (by decide)) (fun _ hk => hk.2) (.slice Ao38 t159.length co38)) (fun _ hk => hk.2) (.slice Ao37 t162.length co37)) (fun _ hk => hk.2) (.string (⟨#[]⟩ : ByteArray))) (fun _ hk => hk.2) (.int .i64 0)) (fun _ hk => trivial)), βbb⟩
       · replace c32 := Bool.eq_false_iff.mpr c32
         subst c32
         have H1 : ((spec_l03Ill.f 8).bind fun bt165 => (some (bt165.1, bt165.2.1, bt165.2.2.1, bt165.2.2.2))) = some (r1, r2, r3, r4) := by rw [if_neg (show ¬ (false = true) by decide)] at H; exact H
         clear H
         have H := H1
         clear H1
         replace H := Option.bind_eq_some_iff.mp H
         obtain ⟨⟨t165, t168, t171, t172⟩, A400, H⟩ := H
         (try dsimp -simprocs only at H)
         have A40 := zA_ A400
         clear A400
         simp only [Option.some.injEq, Prod.mk.injEq] at H
         obtain ⟨rfl, rfl, rfl, rfl⟩ := H
         have hnb41 := NB139_140.out
         have hnc41 := NB140_139.out
         have hcz42_0 := cz_ BK139.out 0 (.slice A0_0 l0_0.length c0_0) rfl
         have hcz42_1 := cz_ BK139.out 1 (.slice A0_1 l0_1.length c0_1) rfl
         have hfz42_0 := blk_frozen BK139.out 0
         have hfz42_1 := blk_frozen BK139.out 1
         go_wp2_with (first | ((with_reducible refine gate_callee (f := 57) rfl ?_); refine goesL_ (some 25) rfl rfl Try.func57 βPb rfl #[.int .i64 a1, .int .i64 0, .int .i64 (wrap64 ((l0_0.length : Int) - 1))] rfl zs_ ?_; (with_reducible refine (spec_l03Is.calls a1 0 (wrap64 ((l0_0.length : Int) - 1)) false _ A31.out).mono ?_); rintro e w' ⟨rfl, ⟨nd, rfl⟩⟩; refine ⟨_, rfl, ?_⟩; (try (rw [drewN_self wc]; generalize hq_ : World.drewN wc _ = wc; replace BK139 : Aside0 (wc.heap[gb139]? = some (.cells #[.slice A0_0 l0_0.length c0_0, .slice A0_1 l0_1.length c0_1] 26 (0, 0))) := ⟨(by rw [← hq_]; exact (zb_ BK139.out))⟩; replace BK140 : Aside0 (wc.heap[gb140]? = some (.cells #[.slice none 0 0, .slice none 0 0, .string (⟨#[]⟩ : ByteArray), .int .i64 0] 30 (0, 0))) := ⟨(by rw [← hq_]; exact (zb_ BK140.out))⟩; replace HB : Aside0 (Below w.heap.size w wc) := ⟨(by rw [← hq_]; exact (zg2_ HB.out GE139.out GE140.out))⟩; clear hq_; have hqz_gb139_0 := cz_ BK139.out 0 (.slice A0_0 l0_0.length c0_0) rfl; have hqf_gb139_0 := blk_frozen BK139.out 0; have hqz_gb139_1 := cz_ BK139.out 1 (.slice A0_1 l0_1.length c0_1) rfl; have hqf_gb139_1 := blk_frozen BK139.out 1; have hqz_gb140_0 := cz_ BK140.out 0 (.slice none 0 0) rfl; have hqf_gb140_0 := blk_frozen BK140.out 0; have hqz_gb140_1 := cz_ BK140.out 1 (.slice none 0 0) rfl; have hqf_gb140_1 := blk_frozen BK140.out 1; have hqz_gb140_2 := cz_ BK140.out 2 (.string (⟨#[]⟩ : ByteArray)) rfl; have hqf_gb140_2 := blk_frozen BK140.out 2; have hqz_gb140_3 := cz_ BK140.out 3 (.int .i64 0) rfl; have hqf_gb140_3 := blk_frozen BK140.out 3))) | ((with_reducible refine gate_callee (f := 56) rfl ?_); refine goesL_ (some 27) rfl rfl Try.func56 βPb rfl #[.int .i64 8] rfl zs_ ?_; (with_reducible refine (spec_l03Ill.calls 8 t165 t168 t171 t172 _ A40.out).mono ?_); rintro e w43 ⟨v166, v169, rfl, ho0, ho1, hb⟩; refine ⟨_, rfl, ?_⟩; have HO167 := zA_ (Kd.R_lower ho0 (below_size (zg2_ HB.out GE139.out GE140.out))); have HO170 := zA_ (Kd.R_lower ho1 (below_size (zg2_ HB.out GE139.out GE140.out))); replace BK139 := zB_ BK139.out hb; replace BK140 := zB_ BK140.out hb; replace HB := zA_ (below_step (zg2_ HB.out GE139.out GE140.out) hb); (try clear hb); (try clear hb2); (try clear hk); (try clear hi); (try clear ho0); (try clear ho1); obtain ⟨Ao44, co44, eo44⟩ := Kd.R_slice HO167.out; subst eo44; have hcz45_0 := cz_ BK140.out 0 (.slice none 0 0) rfl; have hcz45_1 := cz_ BK140.out 1 (.slice none 0 0) rfl; have hcz45_2 := cz_ BK140.out 2 (.string (⟨#[]⟩ : ByteArray)) rfl; have hcz45_3 := cz_ BK140.out 3 (.int .i64 0) rfl; have hfz45_0 := blk_frozen BK140.out 0; have hfz45_1 := blk_frozen BK140.out 1; have hfz45_2 := blk_frozen BK140.out 2; have hfz45_3 := blk_frozen BK140.out 3; obtain ⟨Ao46, co46, eo46⟩ := Kd.R_slice HO170.out; subst eo46))
         refine bodyPost_ret (results_cell_row rfl _ _ gb140 30 #[.slice Ao44 t165.length co44, .slice Ao46 t168.length co46, .string t171, .int .i64 t172] (0, 0) _ rfl (by (with_reducible repeat (first | refine blk_drewN ?_ _ | refine blk_drew ?_ | refine blk_alloc ?_ _)); refine blk_put (cs := #[.slice Ao44 t165.length co44, .slice Ao46 t168.length co46, .string t171, .int .i64 0]) ?_ 3 _ rfl; (with_reducible repeat (first | refine blk_drewN ?_ _ | refine blk_drew ?_ | refine blk_alloc ?_ _)); refine blk_put (cs := #[.slice Ao44 t165.length co44, .slice Ao46 t168.length co46, .string (⟨#[]⟩ : ByteArray), .int .i64 0]) ?_ 2 _ rfl; (with_reducible repeat (first | refine blk_drewN ?_ _ | refine blk_drew ?_ | refine blk_alloc ?_ _)); refine blk_put (cs := #[.slice Ao44 t165.length co44, .slice none 0 0, .string (⟨#[]⟩ : ByteArray), .int .i64 0]) ?_ 1 _ rfl; (with_reducible repeat (first | refine blk_drewN ?_ _ | refine blk_drew ?_ | refine blk_alloc ?_ _)); refine blk_put (cs := #[.slice none 0 0, .slice none 0 0, .string (⟨#[]⟩ : ByteArray), .int .i64 0]) ?_ 0 _ rfl; (with_reducible repeat (first | refine blk_drewN ?_ _ | refine blk_drew ?_ | refine blk_alloc ?_ _)); exact BK140.out) Try.underlying30 rfl βPb) rfl ?_
         exact ⟨_, _, βFb, (by (with_reducible repeat (first | apply Kd.R_alloc | apply Kd.R_drewN | apply Kd.R_drew)); exact Kd.R_mono (Kd.R_far (p := ⟨gb140, 3, none⟩) (Kd.R_far (p := ⟨gb140, 2, none⟩) (Kd.R_far (p := ⟨gb140, 1, none⟩) (Kd.R_far (p := ⟨gb140, 0, none⟩) (Kd.R_types HO167.out BK140.out (by decide)) (fun _ hk => hk.2) (.slice Ao44 t165.length co44)) (fun _ hk => hk.2) (.slice Ao46 t168.length co46)) (fun _ hk => hk.2) (.string t171)) (fun _ hk => hk.2) (.int .i64 t172)) (fun _ hk => trivial)), (by (with_reducible repeat (first | apply Kd.R_alloc | apply Kd.R_drewN | apply Kd.R_drew)); exact Kd.R_mono (Kd.R_far (p := ⟨gb140, 3, none⟩) (Kd.R_far (p := ⟨gb140, 2, none⟩) (Kd.R_far (p := ⟨gb140, 1, none⟩) (Kd.R_far (p := ⟨gb140, 0, none⟩) (Kd.R_types HO170.out BK140.out (by decide)) (fun _ hk => hk.2) (.slice Ao44 t165.length co44)) (fun _ hk => hk.2) (.slice Ao46 t168.length co46)) (fun _ hk => hk.2) (.string t171)) (fun _ hk => hk.2) (.int .i64 t172)) (fun _ hk => trivial)), βbb⟩
def spec_l03Sync.l0 : Nat → Int → List ByteArray → List (S83) → List ByteArray → Option (List ByteArray × (List (S83)))
 | 0, _, _, _, _ => none
 | k + 1, x4, x174000, x174001, x182000 => if x4 < (x174001.length : Int) then (if 0 ≤ x4 then (if 0 ≤ ((rd_T83 x174001 x4).f0) then (if ((rd_T83 x174001 x4).f0) < (x182000.length : Int) then (spec_l03Sync.l0 k (wrap64 (x4 + 1)) x174000 x174001 (x182000.set (((rd_T83 x174001 x4).f0) : Int).toNat ((rd_T83 x174001 x4).f1))) else (none)) else (none)) else (none)) else (some (x182000, ([] : List (S83))))
def spec_l03Sync.f (k : Nat) (l0_0 : List ByteArray) (l0_1 : List (S83)) : Option (List ByteArray × (List (S83))) := (some (([] : List ByteArray) : List ByteArray)).bind fun y175 => (if y175.length + l0_0.length < 8796093022208 then (spec_l03Sync.l0 k 0 l0_0 l0_1 (y175 ++ l0_0)) else (none))
def spec_l03Sync.T5 : Bool × List (List Nat × List Nat) := (true, [([], []), ([0], [0]), ([], []), ([2], [2]), ([], []), ([3, 4], [3, 4]), ([5], [5]), ([6], [6]), ([], []), ([8], [8]), ([], []), ([9, 10], [9, 10]), ([11], [11]), ([12], [12]), ([1, 7, 0, 1, 2, 3, 4, 5, 6, 7, 8, 9, 10, 11, 12, 13], [1, 7]), ([14, 13, 0, 1, 2, 3, 4, 5, 6, 7, 8, 9, 10, 11, 12, 13], [13, 14])])
def spec_l03Sync.B5 : List Nat := [0, 1, 0, 4, 0, 28, 60, 124, 0, 256, 0, 1792, 3840, 7936, 16383, 32767]
theorem spec_l03Sync.tab5 : rtab .any (opsOf Try.f61 5) = spec_l03Sync.T5 := by kernel_rfl
theorem spec_l03Sync.bits5 : waitsOk spec_l03Sync.T5.2 spec_l03Sync.B5 = true := by kernel_rfl
theorem spec_l03Sync.calls (k : Nat) (A0_0 : Option Addr) (c0_0 : Nat) (l0_0 : List ByteArray) (A0_1 : Option Addr) (c0_1 : Nat) (l0_1 : List (S83)) (r1 : List ByteArray) (r2 : List (S83)) (w : World) (hr0_0 : Kd.C Kd.string w A0_0 l0_0.length l0_0) (hc0_0 : l0_0.length ≤ c0_0) (hr0_1 : Kd.C k83 w A0_1 l0_1.length l0_1) (hc0_1 : l0_1.length ≤ c0_1) (h : spec_l03Sync.f k l0_0 l0_1 = some (r1, r2)) :
 Calls Try.prog 61 #[.agg #[.slice A0_0 l0_0.length c0_0, .slice A0_1 l0_1.length c0_1]] w fun e w' => ∃ v0_ v1_ : Value, e = .returned (.agg #[v0_, v1_]) ∧ Kd.R Kd.string 9 w' w.heap.size (fun _ => True) v0_ r1 ∧ Kd.R k83 83 w' w.heap.size (fun _ => True) v1_ r2 ∧ Below w.heap.size w w' := by
 have hu26 := Try.underlying26
 have HR0_0 := zA_ hr0_0
 have HC0_0 := zA_ hc0_0
 clear hr0_0 hc0_0
 have HR0_1 := zA_ hr0_1
 have HC0_1 := zA_ hc0_1
 clear hr0_1 hc0_1
 have HB := zA_ (Below.refl w.heap.size w)
 have H : ((some (([] : List ByteArray) : List ByteArray)).bind fun y175 => (if y175.length + l0_0.length < 8796093022208 then (spec_l03Sync.l0 k 0 l0_0 l0_1 (y175 ++ l0_0)) else (none))) = some (r1, r2) := h
 clear h
 obtain ⟨y175, hy175⟩ : ∃ y_ : List ByteArray, y_ = (([] : List ByteArray)) := ⟨_, rfl⟩
 replace H : (if y175.length + l0_0.length < 8796093022208 then (spec_l03Sync.l0 k 0 l0_0 l0_1 (y175 ++ l0_0)) else (none)) = some (r1, r2) := by first | (rw [hy175]; with_reducible exact H) | (have H2_ := (Option.bind_some _ _).symm.trans H; rw [hy175]; with_reducible exact H2_) | (have H2_ := (Option.bind_some _ _).symm.trans H; with_reducible exact H2_) | with_reducible exact H | (rw [hy175]; exact H) | exact H
 have Ny175 := zA_ hy175
 clear hy175
 by_cases c2 : y175.length + l0_0.length < 8796093022208
 · rw [if_pos c2] at H
   have LMc2 := zA_ c2
   clear c2
   obtain ⟨y178, hy178⟩ : ∃ y_ : List ByteArray, y_ = (y175 ++ l0_0) := ⟨_, rfl⟩
   replace H : (spec_l03Sync.l0 k 0 l0_0 l0_1 y178) = some (r1, r2) := by first | (rw [hy178]; with_reducible exact H) | (have H2_ := (Option.bind_some _ _).symm.trans H; rw [hy178]; with_reducible exact H2_) | (have H2_ := (Option.bind_some _ _).symm.trans H; with_reducible exact H2_) | with_reducible exact H | (rw [hy178]; exact H) | exact H
   have Ny178 := zA_ hy178
   clear hy178
   have H' := zA_ H
   clear H
   go_enter Try.func61, Try.ntmps61
   go_wp2_with (first | ((with_reducible refine gate_dst (N := 1) rfl ?_); refine box_event ?hg (N := 1) ?hd (cs := #[.slice A0_0 l0_0.length c0_0, .slice A0_1 l0_1.length c0_1]) (t := 26) ?hr ?_; (case hd => exact (by rfl)); (case hg => exact (by rfl)); (case hr => exact βMb); intro gb173 hg w3 hbox hb; have BK173 := zA_ (hbox); have GW173 := zA_ ((by rw [hg]; exact (below_size (zh_ HB.out)) : w.heap.size ≤ gb173)); have GE173 := zA_ ((by rw [hg]; exact (below_size (zh_ HB.out)) : w.heap.size ≤ gb173)); replace HB := zA_ (below_step (zh_ HB.out) hb); clear hb hbox hg) | ((with_reducible refine gate_dst (N := 2) rfl ?_); refine box_event ?hg (N := 2) ?hd (cs := #[.slice none 0 0, .slice none 0 0]) (t := 26) ?hr ?_; (case hd => exact (by rfl)); (case hg => exact (by rfl)); (case hr => exact βMb); intro gb174 hg w4 hbox hb; have BK174 := zA_ (hbox); have GW174 := zA_ ((by rw [hg]; exact (below_size (zg1_ HB.out GE173.out)) : w.heap.size ≤ gb174)); have GE174 := zA_ ((by rw [hg]; exact (below_size (zg1_ HB.out GE173.out)) : w.heap.size ≤ gb174)); replace HB := zA_ (below_step (zg1_ HB.out GE173.out) hb); have NB173_174 := zA_ ((by rw [hg]; exact Nat.ne_of_lt (blk_lt (g := gb173) (o := .cells #[.slice A0_0 l0_0.length c0_0, .slice A0_1 l0_1.length c0_1] 26 (0, 0)) (zb_ BK173.out)) : gb173 ≠ gb174)); have NB174_173 := zA_ ((by rw [hg]; exact Nat.ne_of_gt (blk_lt (g := gb173) (o := .cells #[.slice A0_0 l0_0.length c0_0, .slice A0_1 l0_1.length c0_1] 26 (0, 0)) (zb_ BK173.out)) : gb174 ≠ gb173)); replace BK173 := zB_ BK173.out hb; clear hb hbox hg) | ((with_reducible refine gate_dst (N := 5) rfl ?_); refine Kd.R_lit Kd.string _ 9 ?hg (N := 5) ?hd (xs := ([] : List ByteArray)) (inner := []) (ok := fun _ => True) (okp := fun _ => True) ?hr ?hp (fun _ hk => hk) trivial (Below.refl _ _) (Nat.le_refl _) (by simp) ?_; (case hd => exact (by rfl)); (case hg => exact (by rfl)); (case hr => exact βMb); (case hp => exact (Reps.none _ _)); intro v176 w5 ho6 hb hg_ hnew_; clear hg_ hnew_; (first | rw [← Ny175.out] at ho6 | (simp only [Int.reduceToNat] at ho6; rw [← Ny175.out] at ho6)); have HO177 := zA_ (Kd.R_lower ho6 (below_size (zg2_ HB.out GE173.out GE174.out))); replace BK173 := zB_ BK173.out hb; replace BK174 := zB_ BK174.out hb; replace HB := zA_ (below_step (zg2_ HB.out GE173.out GE174.out) hb); clear hb ho6; have hnb7 := NB173_174.out; have hnc7 := NB174_173.out; have hcz8_0 := cz_ BK173.out 0 (.slice A0_0 l0_0.length c0_0) rfl; have hcz8_1 := cz_ BK173.out 1 (.slice A0_1 l0_1.length c0_1) rfl; have hfz8_0 := blk_frozen BK173.out 0; have hfz8_1 := blk_frozen BK173.out 1) | ((with_reducible refine gate_builtin (b := .append) (xs := #[.tmp 5, .tmp 7]) rfl ?_); at_builtin; refine Kd.R_append_rows Kd.string (w0 := w) w.heap.size rfl (.tmp 5) (.tmp 7) 23 9 (.string ⟨#[]⟩) 16 rfl Try.underlying23 info9 rfl (by decide) (by omega) v176 y175 l0_0 _ _ _ (fun _ => True) (fun _ => False) rfl rfl ?aO ?aR (fun _ _ h => h) (fun _ h => h.elim) ?aF ?aB ?aS ?aL ?_; (case aR => exact βmb); (case aB => exact (zg2_ HB.out GE173.out GE174.out)); (case aF => exact (fun _ _ => trivial)); (case aO => exact (zr_ HO177.out)); (case aS => exact (below_size (zg2_ HB.out GE173.out GE174.out))); (case aL => exact (by have := LMc2.out; omega)); intro v179 w9 ho hb hg hat; rw [← Ny178.out] at ho; replace BK173 := zA_ (blk_grown (g := gb173) (o := .cells #[.slice A0_0 l0_0.length c0_0, .slice A0_1 l0_1.length c0_1] 26 (0, 0)) (zb_ BK173.out) hg (Kd.R_ne HO177.out BK173.out (by decide))); replace BK174 := zA_ (blk_grown (g := gb174) (o := .cells #[.slice none 0 0, .slice none 0 0] 26 (0, 0)) (zb_ BK174.out) hg (Kd.R_ne HO177.out BK174.out (by decide))); replace HB := zA_ (hb); have HO180 := zA_ (ho); clear HO177; clear ho hb hg hat; obtain ⟨Ao10, co10, eo10⟩ := Kd.R_slice HO180.out; subst eo10) | ((with_reducible refine gate_dst (N := 3) rfl ?_); refine box_event ?hg (N := 3) ?hd (cs := #[.slice none 0 0, .slice none 0 0]) (t := 26) ?hr ?_; (case hd => exact (by rfl)); (case hg => exact (by rfl)); (case hr => exact βMb); intro gb181 hg w11 hbox hb; replace HO180 := zR_ HO180.out hb; have BK181 := zA_ (hbox); have GW181 := zA_ ((by rw [hg]; exact (below_size (zg2_ HB.out GE173.out GE174.out)) : w.heap.size ≤ gb181)); have GE181 := zA_ ((by rw [hg]; exact (below_size (zg2_ HB.out GE173.out GE174.out)) : w.heap.size ≤ gb181)); replace HB := zA_ (below_step (zg2_ HB.out GE173.out GE174.out) hb); have NB173_181 := zA_ ((by rw [hg]; exact Nat.ne_of_lt (blk_lt (g := gb173) (o := .cells #[.slice A0_0 l0_0.length c0_0, .slice A0_1 l0_1.length c0_1] 26 (0, 0)) (zb_ BK173.out)) : gb173 ≠ gb181)); have NB181_173 := zA_ ((by rw [hg]; exact Nat.ne_of_gt (blk_lt (g := gb173) (o := .cells #[.slice A0_0 l0_0.length c0_0, .slice A0_1 l0_1.length c0_1] 26 (0, 0)) (zb_ BK173.out)) : gb181 ≠ gb173)); replace BK173 := zB_ BK173.out hb; have NB174_181 := zA_ ((by rw [hg]; exact Nat.ne_of_lt (blk_lt (g := gb174) (o := .cells #[.slice none 0 0, .slice none 0 0] 26 (0, 0)) (zb_ BK174.out)) : gb174 ≠ gb181)); have NB181_174 := zA_ ((by rw [hg]; exact Nat.ne_of_gt (blk_lt (g := gb174) (o := .cells #[.slice none 0 0, .slice none 0 0] 26 (0, 0)) (zb_ BK174.out)) : gb181 ≠ gb174)); replace BK174 := zB_ BK174.out hb; clear hb hbox hg; have hnb12 := NB181_173.out; have hnc12 := NB173_181.out; have hnb13 := NB181_174.out; have hnc13 := NB174_181.out; have hcz14_0 := cz_ BK181.out 0 (.slice none 0 0) rfl; have hcz14_1 := cz_ BK181.out 1 (.slice none 0 0) rfl; have hfz14_0 := blk_frozen BK181.out 0; have hfz14_1 := blk_frozen BK181.out 1))
   go_loopg [4] k (fun kq v4 w' => ∃ (x4_1 : Int) (x182000_1 : List ByteArray) (u182000 : Value), v4 = .int .i64 x4_1 ∧ Aside0 (spec_l03Sync.l0 kq x4_1 l0_0 l0_1 x182000_1 = some (r1, r2)) ∧ Aside0 (kq ≤ k) ∧ Aside0 (Kd.R Kd.string 9 w' w.heap.size (fun _ => True) u182000 x182000_1) ∧ Aside0 (w'.heap[gb173]? = some (.cells #[(.slice A0_0 l0_0.length c0_0), (.slice A0_1 l0_1.length c0_1)] 26 (0, 0))) ∧ Aside0 (w'.heap[gb174]? = some (.cells #[(.slice none 0 0), (.slice none 0 0)] 26 (0, 0))) ∧ Aside0 (w'.heap[gb181]? = some (.cells #[u182000, (.slice none 0 0)] 26 (0, 0))) ∧ Aside0 (Below w.heap.size w w'))
   case atStart => exact ⟨(0), (y178), (.slice Ao10 y178.length co10), βLb, H', ⟨Nat.le_refl _⟩, ⟨(by (with_reducible repeat (first | apply Kd.R_alloc | apply Kd.R_drewN | apply Kd.R_drew)); exact Kd.R_mono (Kd.R_far (p := ⟨gb181, 1, none⟩) (Kd.R_far (p := ⟨gb181, 0, none⟩) (Kd.R_types HO180.out BK181.out (by decide)) (fun _ hk => hk.2) (.slice Ao10 y178.length co10)) (fun _ hk => hk.2) (.slice none 0 0)) (fun _ hk => trivial))⟩, ⟨zf2_ NB173_181.out NB173_181.out BK173.out⟩, ⟨zf2_ NB174_181.out NB174_181.out BK174.out⟩, ⟨(by (with_reducible repeat (first | refine blk_drewN ?_ _ | refine blk_drew ?_ | refine blk_alloc ?_ _)); refine blk_put (cs := #[.slice Ao10 y178.length co10, .slice none 0 0]) ?_ 1 _ rfl; (with_reducible repeat (first | refine blk_drewN ?_ _ | refine blk_drew ?_ | refine blk_alloc ?_ _)); refine blk_put (cs := #[.slice none 0 0, .slice none 0 0]) ?_ 0 _ rfl; (with_reducible repeat (first | refine blk_drewN ?_ _ | refine blk_drew ?_ | refine blk_alloc ?_ _)); exact BK181.out)⟩, ⟨zg3_ HB.out GE173.out GE174.out GE181.out⟩⟩
   case round =>
    clear H'
    try clear c1
    try clear c2
    try clear p2
    try clear c6
    try clear c7
    try clear c12
    try clear c13
    try clear hcz14_0
    try clear hcz14_1
    try clear hcz8_0
    try clear hcz8_1
    try clear hfz14_0
    try clear hfz14_1
    try clear hfz8_0
    try clear hfz8_1
    obtain ⟨x4_1, x182000_1, u182000, rfl, HA, HK1, HO_182000, BK173, BK174, BK181, HB⟩ := hrel
    cases gk with
    | zero => exact absurd HA.out (by simp [spec_l03Sync.l0])
    | succ k1 =>
     have H := HA.out
     clear HA
     simp only [spec_l03Sync.l0] at H
     by_cases c15 : x4_1 < (l0_1.length : Int)
     · rw [if_pos c15] at H
       have c15b0 : decide (x4_1 < (l0_1.length : Int)) = true := decide_eq_true c15
       clear c15
       by_cases c16 : 0 ≤ x4_1
       · rw [if_pos c16] at H
         have c16b0 : decide (0 ≤ x4_1) = true := decide_eq_true c16
         clear c16
         by_cases c17 : 0 ≤ ((rd_T83 l0_1 x4_1).f0)
         · rw [if_pos c17] at H
           have c17b0 : decide (0 ≤ ((rd_T83 l0_1 x4_1).f0)) = true := decide_eq_true c17
           clear c17
           by_cases c18 : ((rd_T83 l0_1 x4_1).f0) < (x182000_1.length : Int)
           · rw [if_pos c18] at H
             have c18b0 : decide (((rd_T83 l0_1 x4_1).f0) < (x182000_1.length : Int)) = true := decide_eq_true c18
             clear c18
             obtain ⟨y184, hy184⟩ : ∃ y_ : List ByteArray, y_ = (x182000_1.set (((rd_T83 l0_1 x4_1).f0) : Int).toNat ((rd_T83 l0_1 x4_1).f1)) := ⟨_, rfl⟩
             replace H : (spec_l03Sync.l0 k1 (wrap64 (x4_1 + 1)) l0_0 l0_1 y184) = some (r1, r2) := by first | (rw [hy184]; with_reducible exact H) | (have H2_ := (Option.bind_some _ _).symm.trans H; rw [hy184]; with_reducible exact H2_) | (have H2_ := (Option.bind_some _ _).symm.trans H; with_reducible exact H2_) | with_reducible exact H | (rw [hy184]; exact H) | exact H
             have Ny184 := zA_ hy184
             clear hy184
             have H' := zA_ H
             clear H
             have hnb20 := NB173_174.out
             have hnc20 := NB174_173.out
             have hnb21 := NB173_181.out
             have hnc21 := NB181_173.out
             have hcz22_0 := cz_ BK173.out 0 (.slice A0_0 l0_0.length c0_0) rfl
             have hcz22_1 := cz_ BK173.out 1 (.slice A0_1 l0_1.length c0_1) rfl
             have hfz22_0 := blk_frozen BK173.out 0
             have hfz22_1 := blk_frozen BK173.out 1
             try go_wp2
             replace HO_182000 := zA_ (Kd.R_drew HO_182000.out)
             replace BK173 := zA_ (blk_drew BK173.out)
             replace BK174 := zA_ (blk_drew BK174.out)
             replace BK181 := zA_ (blk_drew BK181.out)
             replace HB := zA_ (below_drew1 HB.out)
             have p182 : 0 ≤ (x4_1 : Int) := of_decide_eq_true βKb
             have q182 : x4_1 < (l0_1.length : Int) := of_decide_eq_true βKb
             obtain ⟨ad182, e182, hx182_0, hx182_1⟩ := at_T83 HR0_1.out x4_1 p182 q182
             have hw182_1 := hx182_1
             have hw182_0 := hx182_0
             cases e182
             replace hx182_0 := bc_ HB.out hx182_0
             replace hx182_1 := bc_ HB.out hx182_1
             replace p182 := eq_true p182
             replace q182 := eq_true q182
             have p183 : 0 ≤ (x4_1 : Int) := of_decide_eq_true βKb
             have q183 : x4_1 < (l0_1.length : Int) := of_decide_eq_true βKb
             obtain ⟨ad183, e183, hx183_0, hx183_1⟩ := at_T83 HR0_1.out x4_1 p183 q183
             have hw183_1 := hx183_1
             have hw183_0 := hx183_0
             obtain rfl : ad182 = ad183 := (by injection e183)
             replace hx183_0 := bc_ HB.out hx183_0
             replace hx183_1 := bc_ HB.out hx183_1
             replace p183 := eq_true p183
             replace q183 := eq_true q183
             have p19 : 0 ≤ (((rd_T83 l0_1 x4_1).f0) : Int) := of_decide_eq_true βKb
             have q19 : (((rd_T83 l0_1 x4_1).f0) : Int) < ((x182000_1.length : Int) : Int) := of_decide_eq_true βKb
             obtain ⟨go19, co19, eo19, gb19, gl19, cl19, HG19⟩ := Kd.R_form HO_182000.out (by omega)
             (first | cases eo19 | (injection eo19 with ea_ en_ ec_; (first | subst ea_ | (injection ea_ with ea_; subst ea_)); subst ec_; clear en_))
             have GB19 := zA_ gb19
             have GG19 := zA_ HG19
             clear gb19 gl19 HG19
             obtain ⟨hx19_0, hf19_0⟩ := Kd.R_celln (⟨#[]⟩ : ByteArray) HO_182000.out (((rd_T83 l0_1 x4_1).f0) : Int) p19 q19
             replace p19 := eq_true p19
             replace q19 := eq_true q19
             have HP24 := Kd.R_putn HO_182000.out (((rd_T83 l0_1 x4_1).f0) : Int) ((rd_T83 l0_1 x4_1).f1)
             rw [← Ny184.out] at HP24
             have HQ24 := zA_ HP24
             clear HP24
             refine start_ (n := 16) (S := fun w' => w'.cell? ⟨gb181, 0, none⟩ = some (.slice (some ⟨go19, 0, none⟩) x182000_1.length co19) ∧ w'.cell? ⟨gb181, 1, none⟩ = some (.slice none 0 0) ∧ w'.cell? ⟨gb173, 0, none⟩ = some (.slice A0_0 l0_0.length c0_0) ∧ w'.cell? ⟨gb173, 1, none⟩ = some (.slice (some ad182) l0_1.length c0_1) ∧ w'.cell? (ad182.add ((x4_1).toNat * 2)) = some (.int .i64 ((rd_T83 l0_1 x4_1).f0)) ∧ w'.cell? ⟨(ad182.add ((x4_1).toNat * 2)).block, (ad182.add ((x4_1).toNat * 2)).off + 1, none⟩ = some (.string ((rd_T83 l0_1 x4_1).f1)) ∧ w'.cell? (ad182.add ((x4_1).toNat * 2)) = some (.int .i64 ((rd_T83 l0_1 x4_1).f0)) ∧ w'.cell? ⟨(ad182.add ((x4_1).toNat * 2)).block, (ad182.add ((x4_1).toNat * 2)).off + 1, none⟩ = some (.string ((rd_T83 l0_1 x4_1).f1))) (ds := [15]) (mr_ [0, 16]) βPb rfl rfl ⟨cy_ BK181.out 0, cy_ BK181.out 1, cy_ BK173.out 0, cy_ BK173.out 1, ((HB.out.cell (World.block_lt_of_cell? _ _ hw182_0)).trans hw182_0), ((HB.out.cell (World.block_lt_of_cell? _ _ hw182_1)).trans hw182_1), ((HB.out.cell (World.block_lt_of_cell? _ _ hw183_0)).trans hw183_0), ((HB.out.cell (World.block_lt_of_cell? _ _ hw183_1)).trans hw183_1)⟩ (fun hHeld => ?_); refine with_tabW spec_l03Sync.tab5 spec_l03Sync.bits5 (fun HT_ HW_ => ?_)
             generalize wr.drew = w23 at HO_182000 BK173 BK174 BK181 HB GG19 HQ24 hf19_0 hx182_0 hx182_1 hx183_0 hx183_1 hx19_0 hHeld ⊢
             refine pure_ (i := 0) (N := some 17) (v := ?_) (a' := ?_) (mr_ [1, 15]) rfl rfl (any_of HT_.out βPb) (fun _ _ _ h => h) (Or.inl ⟨(by rfl), ?_⟩) ?_ ?_
             rotate_left; exact pv_; rotate_left; exact pp_
             refine pure_ (i := 2) (N := some 19) (v := ?_) (a' := ?_) (mr_ [1, 1, 1, 13]) rfl rfl (any_of HT_.out βPb) (fun _ _ _ h => h) (Or.inl ⟨(by rfl), ?_⟩) ?_ ?_
             rotate_left; exact pv_; rotate_left; exact pp_
             refine pure_ (i := 4) (N := some 21) (v := ?_) (a' := ?_) (mr_ [1, 1, 1, 1, 1, 11]) rfl rfl (any_of HT_.out βPb) (fun _ _ _ h => h) (Or.inl ⟨(by rfl), ?_⟩) ?_ ?_
             rotate_left; exact pv_; rotate_left; exact pp_
             refine pure_ (i := 8) (N := some 25) (v := ?_) (a' := ?_) (mr_ [1, 1, 1, 1, 1, 3, 1, 7]) rfl rfl (any_of HT_.out βPb) (fun _ _ _ h => h) (Or.inl ⟨(by rfl), ?_⟩) ?_ ?_
             rotate_left; exact pv_; rotate_left; exact pp_
             refine pure_ (i := 10) (N := some 27) (v := ?_) (a' := ?_) (mr_ [1, 1, 1, 1, 1, 3, 1, 1, 1, 5]) rfl rfl (any_of HT_.out βPb) (fun _ _ _ h => h) (Or.inl ⟨(by rfl), ?_⟩) ?_ ?_
             rotate_left; exact pv_; rotate_left; exact pp_
             refine take_ (i := 1) (N := some 18) (v := ?_) (a' := ?_) (mr_ [3, 1, 1, 3, 1, 1, 1, 5]) rfl rfl (take_ofW HT_.out HW_.out βPb) (fun _ _ _ h => h) (Or.inl ⟨(by rfl), ?_⟩) hHeld ?_ ?_
             rotate_left
             · rintro w' ⟨s0, s1, s2, s3, s4, s5, s6, s7⟩
               go_simp
               with_reducible rfl
             rotate_left
             exact pp_
             refine take_ (i := 3) (N := some 20) (v := ?_) (a' := ?_) (mr_ [5, 3, 1, 1, 1, 5]) rfl rfl (take_ofW HT_.out HW_.out βPb) (fun _ _ _ h => h) (Or.inl ⟨(by rfl), ?_⟩) hHeld ?_ ?_
             rotate_left
             · rintro w' ⟨s0, s1, s2, s3, s4, s5, s6, s7⟩
               go_simp
               with_reducible rfl
             rotate_left
             exact pp_
             refine pure_ (i := 5) (N := some 22) (v := ?_) (a' := ?_) (mr_ [6, 2, 1, 1, 1, 5]) rfl rfl (any_of HT_.out βPb) (fun _ _ _ h => h) (Or.inl ⟨(by rfl), ?_⟩) ?_ ?_
             rotate_left; exact pv_; rotate_left; exact pp_
             refine pure_ (i := 6) (N := some 23) (v := ?_) (a' := ?_) (mr_ [7, 1, 1, 1, 1, 5]) rfl rfl (any_of HT_.out βPb) (fun _ _ _ h => h) (Or.inl ⟨(by rfl), ?_⟩) ?_ ?_
             rotate_left; exact pv_; rotate_left; exact pp_
             refine take_ (i := 7) (N := some 24) (v := ?_) (a' := ?_) (mr_ [9, 1, 1, 5]) rfl rfl (take_ofW HT_.out HW_.out βPb) (fun _ _ _ h => h) (Or.inl ⟨(by rfl), ?_⟩) hHeld ?_ ?_
             rotate_left
             · rintro w' ⟨s0, s1, s2, s3, s4, s5, s6, s7⟩
               go_simp
               with_reducible rfl
             rotate_left
             exact pp_
             refine take_ (i := 9) (N := some 26) (v := ?_) (a' := ?_) (mr_ [11, 5]) rfl rfl (take_ofW HT_.out HW_.out βPb) (fun _ _ _ h => h) (Or.inl ⟨(by rfl), ?_⟩) hHeld ?_ ?_
             rotate_left
             · rintro w' ⟨s0, s1, s2, s3, s4, s5, s6, s7⟩
               go_simp
               with_reducible rfl
             rotate_left
             exact pp_
             refine pure_ (i := 11) (N := some 28) (v := ?_) (a' := ?_) (mr_ [12, 4]) rfl rfl (any_of HT_.out βPb) (fun _ _ _ h => h) (Or.inl ⟨(by rfl), ?_⟩) ?_ ?_
             rotate_left; exact pv_; rotate_left; exact pp_
             refine pure_ (i := 12) (N := some 29) (v := ?_) (a' := ?_) (mr_ [13, 3]) rfl rfl (any_of HT_.out βPb) (fun _ _ _ h => h) (Or.inl ⟨(by rfl), ?_⟩) ?_ ?_
             rotate_left; exact pv_; rotate_left; exact pp_
             refine take_ (i := 13) (N := some 30) (v := ?_) (a' := ?_) (mr_ [14, 2]) rfl rfl (take_ofW HT_.out HW_.out βPb) (fun _ _ _ h => h) (Or.inl ⟨(by rfl), ?_⟩) hHeld ?_ ?_
             rotate_left
             · rintro w' ⟨s0, s1, s2, s3, s4, s5, s6, s7⟩
               go_simp
               with_reducible rfl
             rotate_left
             exact pp_
             refine pure_ (i := 14) (N := some 31) (v := ?_) (a' := ?_) (mr_ [15, 1]) rfl rfl (any_of HT_.out βPb) (fun _ _ _ h => h) (Or.inl ⟨(by rfl), ?_⟩) ?_ ?_
             rotate_left; exact pv_; rotate_left; exact pp_
             refine last_ (i := 15) (N := none) (mr_ [16]) rfl rfl (one_of HT_.out βPb) (by decide) (fun K hK => ?_)
             refine skip_ (w1 := ?_) (by rfl) rfl ?_ ?_
             rotate_left
             · go_simp
               rfl
             refine hK.out _ _ ?_
             clear hK K
             refine done_ (done_of HT_.out βPb) ?_
             try go_wp2
             go_roundg k1
             case measure => have := HK1.out; omega
             case rel => exact ⟨(wrap64 (x4_1 + 1)), (y184), (.slice (some ⟨go19, 0, none⟩) x182000_1.length co19), βLb, H', ⟨βOb⟩, ⟨zr_ HQ24.out⟩, ⟨(by (with_reducible repeat (first | refine blk_drewN ?_ _ | refine blk_drew ?_ | refine blk_alloc ?_ _)); refine blk_far ?_ (by have h_ := Kd.R_ne HO_182000.out BK173.out (by decide); intro e_; exact h_ (by rw [e_]; rfl)) _; (with_reducible repeat (first | refine blk_drewN ?_ _ | refine blk_drew ?_ | refine blk_alloc ?_ _)); exact BK173.out)⟩, ⟨(by (with_reducible repeat (first | refine blk_drewN ?_ _ | refine blk_drew ?_ | refine blk_alloc ?_ _)); refine blk_far ?_ (by have h_ := Kd.R_ne HO_182000.out BK174.out (by decide); intro e_; exact h_ (by rw [e_]; rfl)) _; (with_reducible repeat (first | refine blk_drewN ?_ _ | refine blk_drew ?_ | refine blk_alloc ?_ _)); exact BK174.out)⟩, ⟨(by (with_reducible repeat (first | refine blk_drewN ?_ _ | refine blk_drew ?_ | refine blk_alloc ?_ _)); refine blk_far ?_ (by have h_ := Kd.R_ne HO_182000.out BK181.out (by decide); intro e_; exact h_ (by rw [e_]; rfl)) _; (with_reducible repeat (first | refine blk_drewN ?_ _ | refine blk_drew ?_ | refine blk_alloc ?_ _)); exact BK181.out)⟩, ⟨zg4_ HB.out GB19.out GE173.out GE174.out GE181.out⟩⟩
           · rw [if_neg c18] at H
             exact absurd H (by simp)
         · rw [if_neg c17] at H
           exact absurd H (by simp)
       · rw [if_neg c16] at H
         exact absurd H (by simp)
     · rw [if_neg c15] at H
       have c15b0 : decide (x4_1 < (l0_1.length : Int)) = false := decide_eq_false c15
       clear c15
       simp only [Option.some.injEq, Prod.mk.injEq] at H
       obtain ⟨rfl, rfl⟩ := H
       have hnb25 := NB173_174.out
       have hnc25 := NB174_173.out
       have hnb26 := NB173_181.out
       have hnc26 := NB181_173.out
       have hcz27_0 := cz_ BK173.out 0 (.slice A0_0 l0_0.length c0_0) rfl
       have hcz27_1 := cz_ BK173.out 1 (.slice A0_1 l0_1.length c0_1) rfl
       have hfz27_0 := blk_frozen BK173.out 0
       have hfz27_1 := blk_frozen BK173.out 1
       have hnb28 := NB181_174.out
       have hnc28 := NB174_181.out
       have hcz29_0 : wr.cell? ⟨gb181, 0, none⟩ = some (u182000) := (blk_cell BK181.out 0).trans rfl
       have hcz29_1 := cz_ BK181.out 1 (.slice none 0 0) rfl
       have hfz29_0 := blk_frozen BK181.out 0
       have hfz29_1 := blk_frozen BK181.out 1
       obtain ⟨Ao30, co30, eo30⟩ := Kd.R_slice HO_182000.out
       subst eo30
       have hcz31_0 := cz_ BK174.out 0 (.slice none 0 0) rfl
       have hcz31_1 := cz_ BK174.out 1 (.slice none 0 0) rfl
       have hfz31_0 := blk_frozen BK174.out 0
       have hfz31_1 := blk_frozen BK174.out 1
       go_wp2
       refine bodyPost_ret (results_cell_row rfl _ _ gb174 26 #[.slice Ao30 x182000_1.length co30, .slice none 0 0] (0, 0) _ rfl (by (with_reducible repeat (first | refine blk_drewN ?_ _ | refine blk_drew ?_ | refine blk_alloc ?_ _)); refine blk_put (cs := #[.slice Ao30 x182000_1.length co30, .slice none 0 0]) ?_ 1 _ rfl; (with_reducible repeat (first | refine blk_drewN ?_ _ | refine blk_drew ?_ | refine blk_alloc ?_ _)); refine blk_put (cs := #[.slice none 0 0, .slice none 0 0]) ?_ 0 _ rfl; (with_reducible repeat (first | refine blk_drewN ?_ _ | refine blk_drew ?_ | refine blk_alloc ?_ _)); exact BK174.out) Try.underlying26 rfl βPb) rfl ?_
       exact ⟨_, _, βFb, (by (with_reducible repeat (first | apply Kd.R_alloc | apply Kd.R_drewN | apply Kd.R_drew)); exact Kd.R_mono (Kd.R_far (p := ⟨gb174, 1, none⟩) (Kd.R_far (p := ⟨gb174, 0, none⟩) (Kd.R_types HO_182000.out BK174.out (by decide)) (fun _ hk => hk.2) (.slice Ao30 x182000_1.length co30)) (fun _ hk => hk.2) (.slice none 0 0)) (fun _ hk => trivial)), βBb, (by repeat (first | (with_reducible first | exact HB.out | apply below_alloc | apply pw_below_drewN | apply below_drew1 | refine below_set ?_ GE173.out | refine below_set ?_ GE174.out | refine below_set ?_ GE181.out) | exact HB.out))⟩
 · rw [if_neg c2] at H
   exact absurd H (by simp)
def spec_FlashSync.f (k : Nat) (l0_0 : List ByteArray) (l0_1 : List (S83)) : Option (List ByteArray × (List (S83)) × ByteArray × Int) := (spec_FlashRight.f k l0_0 l0_1).bind fun t187 => (if t187 = true then ((spec_l03Sync.f k l0_0 l0_1).bind fun bt188 => (some (bt188.1, bt188.2, (⟨#[]⟩ : ByteArray), 0))) else ((spec_l03Ill.f 1).bind fun bt194 => (some (bt194.1, bt194.2.1, bt194.2.2.1, bt194.2.2.2))))
theorem spec_FlashSync.calls (k : Nat) (A0_0 : Option Addr) (c0_0 : Nat) (l0_0 : List ByteArray) (A0_1 : Option Addr) (c0_1 : Nat) (l0_1 : List (S83)) (r1 : List ByteArray) (r2 : List (S83)) (r3 : ByteArray) (r4 : Int) (w : World) (hr0_0 : Kd.C Kd.string w A0_0 l0_0.length l0_0) (hc0_0 : l0_0.length ≤ c0_0) (hr0_1 : Kd.C k83 w A0_1 l0_1.length l0_1) (hc0_1 : l0_1.length ≤ c0_1) (h : spec_FlashSync.f k l0_0 l0_1 = some (r1, r2, r3, r4)) :
 Calls Try.prog 17 #[.agg #[.slice A0_0 l0_0.length c0_0, .slice A0_1 l0_1.length c0_1]] w fun e w' => ∃ v0_ v1_ : Value, e = .returned (.agg #[v0_, v1_, .string r3, .int .i64 r4]) ∧ Kd.R Kd.string 9 w' w.heap.size (fun _ => True) v0_ r1 ∧ Kd.R k83 83 w' w.heap.size (fun _ => True) v1_ r2 ∧ Below w.heap.size w w' := by
 have hu26 := Try.underlying26
 have hu30 := Try.underlying30
 have HR0_0 := zA_ hr0_0
 have HC0_0 := zA_ hc0_0
 clear hr0_0 hc0_0
 have HR0_1 := zA_ hr0_1
 have HC0_1 := zA_ hc0_1
 clear hr0_1 hc0_1
 have HB := zA_ (Below.refl w.heap.size w)
 have H : ((spec_FlashRight.f k l0_0 l0_1).bind fun t187 => (if t187 = true then ((spec_l03Sync.f k l0_0 l0_1).bind fun bt188 => (some (bt188.1, bt188.2, (⟨#[]⟩ : ByteArray), 0))) else ((spec_l03Ill.f 1).bind fun bt194 => (some (bt194.1, bt194.2.1, bt194.2.2.1, bt194.2.2.2))))) = some (r1, r2, r3, r4) := h
 clear h
 replace H := Option.bind_eq_some_iff.mp H
 obtain ⟨t187, A20, H⟩ := H
 (try dsimp -simprocs only at H)
 have A2 := zA_ A20
 clear A20
 by_cases c3 : t187 = true
 · subst c3
   have H1 : ((spec_l03Sync.f k l0_0 l0_1).bind fun bt188 => (some (bt188.1, bt188.2, (⟨#[]⟩ : ByteArray), 0))) = some (r1, r2, r3, r4) := by rw [if_pos rfl] at H; exact H
   clear H
   have H := H1
   clear H1
   replace H := Option.bind_eq_some_iff.mp H
   obtain ⟨⟨t188, t191⟩, A40, H⟩ := H
   (try dsimp -simprocs only at H)
   have A4 := zA_ A40
   clear A40
   simp only [Option.some.injEq, Prod.mk.injEq] at H
   obtain ⟨rfl, rfl, rfl, rfl⟩ := H
   go_enter Try.func17, Try.ntmps17
   go_wp2_with (first | ((with_reducible refine gate_dst (N := 1) rfl ?_); refine box_event ?hg (N := 1) ?hd (cs := #[.slice A0_0 l0_0.length c0_0, .slice A0_1 l0_1.length c0_1]) (t := 26) ?hr ?_; (case hd => exact (by rfl)); (case hg => exact (by rfl)); (case hr => exact βMb); intro gb185 hg w5 hbox hb; have BK185 := zA_ (hbox); have GW185 := zA_ ((by rw [hg]; exact (below_size (zh_ HB.out)) : w.heap.size ≤ gb185)); have GE185 := zA_ ((by rw [hg]; exact (below_size (zh_ HB.out)) : w.heap.size ≤ gb185)); replace HB := zA_ (below_step (zh_ HB.out) hb); clear hb hbox hg) | ((with_reducible refine gate_dst (N := 2) rfl ?_); refine box_event ?hg (N := 2) ?hd (cs := #[.slice none 0 0, .slice none 0 0, .string (⟨#[]⟩ : ByteArray), .int .i64 0]) (t := 30) ?hr ?_; (case hd => exact (by rfl)); (case hg => exact (by rfl)); (case hr => exact βMb); intro gb186 hg w6 hbox hb; have BK186 := zA_ (hbox); have GW186 := zA_ ((by rw [hg]; exact (below_size (zg1_ HB.out GE185.out)) : w.heap.size ≤ gb186)); have GE186 := zA_ ((by rw [hg]; exact (below_size (zg1_ HB.out GE185.out)) : w.heap.size ≤ gb186)); replace HB := zA_ (below_step (zg1_ HB.out GE185.out) hb); have NB185_186 := zA_ ((by rw [hg]; exact Nat.ne_of_lt (blk_lt (g := gb185) (o := .cells #[.slice A0_0 l0_0.length c0_0, .slice A0_1 l0_1.length c0_1] 26 (0, 0)) (zb_ BK185.out)) : gb185 ≠ gb186)); have NB186_185 := zA_ ((by rw [hg]; exact Nat.ne_of_gt (blk_lt (g := gb185) (o := .cells #[.slice A0_0 l0_0.length c0_0, .slice A0_1 l0_1.length c0_1] 26 (0, 0)) (zb_ BK185.out)) : gb186 ≠ gb185)); replace BK185 := zB_ BK185.out hb; clear hb hbox hg; have hnb7 := NB185_186.out; have hnc7 := NB186_185.out; have hcz8_0 := cz_ BK185.out 0 (.slice A0_0 l0_0.length c0_0) rfl; have hcz8_1 := cz_ BK185.out 1 (.slice A0_1 l0_1.length c0_1) rfl; have hfz8_0 := blk_frozen BK185.out 0; have hfz8_1 := blk_frozen BK185.out 1) | ((with_reducible refine gate_callee (f := 25) rfl ?_); refine goesL_ (some 4) rfl rfl Try.func25 βPb rfl #[.agg #[.slice A0_0 l0_0.length c0_0, .slice A0_1 l0_1.length c0_1]] rfl zs_ ?_; (with_reducible refine (spec_FlashRight.calls k _ _ l0_0 _ _ l0_1 true _ ?side1 ?side2 ?side3 ?side4 A2.out).mono ?_); (case side1 => exact zc_ (Kd.C_below HR0_0.out HB.out)); (case side2 => exact HC0_0.out); (case side3 => exact zc_ (Kd.C_below HR0_1.out HB.out)); (case side4 => exact HC0_1.out); rintro e w9 ⟨rfl, hb⟩; refine ⟨_, rfl, ?_⟩; replace BK185 := zB_ BK185.out hb; replace BK186 := zB_ BK186.out hb; replace HB := zA_ (below_step (zg2_ HB.out GE185.out GE186.out) hb); (try clear hb); (try clear hb2); (try clear hk); (try clear hi); have hcz10_0 := cz_ BK185.out 0 (.slice A0_0 l0_0.length c0_0) rfl; have hcz10_1 := cz_ BK185.out 1 (.slice A0_1 l0_1.length c0_1) rfl; have hfz10_0 := blk_frozen BK185.out 0; have hfz10_1 := blk_frozen BK185.out 1) | ((with_reducible refine gate_callee (f := 61) rfl ?_); refine goesL_ (some 8) rfl rfl Try.func61 βPb rfl #[.agg #[.slice A0_0 l0_0.length c0_0, .slice A0_1 l0_1.length c0_1]] rfl zs_ ?_; (with_reducible refine (spec_l03Sync.calls k _ _ l0_0 _ _ l0_1 t188 t191 _ ?side1 ?side2 ?side3 ?side4 A4.out).mono ?_); (case side1 => exact zc_ (Kd.C_below HR0_0.out HB.out)); (case side2 => exact HC0_0.out); (case side3 => exact zc_ (Kd.C_below HR0_1.out HB.out)); (case side4 => exact HC0_1.out); rintro e w11 ⟨v189, v192, rfl, ho0, ho1, hb⟩; refine ⟨_, rfl, ?_⟩; have HO190 := zA_ (Kd.R_lower ho0 (below_size (zg2_ HB.out GE185.out GE186.out))); have HO193 := zA_ (Kd.R_lower ho1 (below_size (zg2_ HB.out GE185.out GE186.out))); replace BK185 := zB_ BK185.out hb; replace BK186 := zB_ BK186.out hb; replace HB := zA_ (below_step (zg2_ HB.out GE185.out GE186.out) hb); (try clear hb); (try clear hb2); (try clear hk); (try clear hi); (try clear ho0); (try clear ho1); obtain ⟨Ao12, co12, eo12⟩ := Kd.R_slice HO193.out; subst eo12; obtain ⟨Ao13, co13, eo13⟩ := Kd.R_slice HO190.out; subst eo13; have hcz14_0 := cz_ BK186.out 0 (.slice none 0 0) rfl; have hcz14_1 := cz_ BK186.out 1 (.slice none 0 0) rfl; have hcz14_2 := cz_ BK186.out 2 (.string (⟨#[]⟩ : ByteArray)) rfl; have hcz14_3 := cz_ BK186.out 3 (.int .i64 0) rfl; have hfz14_0 := blk_frozen BK186.out 0; have hfz14_1 := blk_frozen BK186.out 1; have hfz14_2 := blk_frozen BK186.out 2; have hfz14_3 := blk_frozen BK186.out 3))
   refine bodyPost_ret (results_cell_row rfl _ _ gb186 30 #[.slice Ao13 t188.length co13, .slice Ao12 t191.length co12, .string (⟨#[]⟩ : ByteArray), .int .i64 0] (0, 0) _ rfl (by (with_reducible repeat (first | refine blk_drewN ?_ _ | refine blk_drew ?_ | refine blk_alloc ?_ _)); refine blk_put (cs := #[.slice Ao13 t188.length co13, .slice Ao12 t191.length co12, .string (⟨#[]⟩ : ByteArray), .int .i64 0]) ?_ 3 _ rfl; (with_reducible repeat (first | refine blk_drewN ?_ _ | refine blk_drew ?_ | refine blk_alloc ?_ _)); refine blk_put (cs := #[.slice Ao13 t188.length co13, .slice Ao12 t191.length co12, .string (⟨#[]⟩ : ByteArray), .int .i64 0]) ?_ 2 _ rfl; (with_reducible repeat (first | refine blk_drewN ?_ _ | refine blk_drew ?_ | refine blk_alloc ?_ _)); refine blk_put (cs := #[.slice Ao13 t188.length co13, .slice none 0 0, .string (⟨#[]⟩ : ByteArray), .int .i64 0]) ?_ 1 _ rfl; (with_reducible repeat (first | refine blk_drewN ?_ _ | refine blk_drew ?_ | refine blk_alloc ?_ _)); refine blk_put (cs := #[.slice none 0 0, .slice none 0 0, .string (⟨#[]⟩ : ByteArray), .int .i64 0]) ?_ 0 _ rfl; (with_reducible repeat (first | refine blk_drewN ?_ _ | refine blk_drew ?_ | refine blk_alloc ?_ _)); exact BK186.out) Try.underlying30 rfl βPb) rfl ?_
   exact ⟨_, _, βFb, (by (with_reducible repeat (first | apply Kd.R_alloc | apply Kd.R_drewN | apply Kd.R_drew)); exact Kd.R_mono (Kd.R_far (p := ⟨gb186, 3, none⟩) (Kd.R_far (p := ⟨gb186, 2, none⟩) (Kd.R_far (p := ⟨gb186, 1, none⟩) (Kd.R_far (p := ⟨gb186, 0, none⟩) (Kd.R_types HO190.out BK186.out (by decide)) (fun _ hk => hk.2) (.slice Ao13 t188.length co13)) (fun _ hk => hk.2) (.slice Ao12 t191.length co12)) (fun _ hk => hk.2) (.string (⟨#[]⟩ : ByteArray))) (fun _ hk => hk.2) (.int .i64 0)) (fun _ hk => trivial)), (by (with_reducible repeat (first | apply Kd.R_alloc | apply Kd.R_drewN | apply Kd.R_drew)); exact Kd.R_mono (Kd.R_far (p := ⟨gb186, 3, none⟩) (Kd.R_far (p := ⟨gb186, 2, none⟩) (Kd.R_far (p := ⟨gb186, 1, none⟩) (Kd.R_far (p := ⟨gb186, 0, none⟩) (Kd.R_types HO193.out BK186.out (by decide)) (fun _ hk => hk.2) (.slice Ao13 t188.length co13)) (fun _ hk => hk.2) (.slice Ao12 t191.length co12)) (fun _ hk => hk.2) (.string (⟨#[]⟩ : ByteArray))) (fun _ hk => hk.2) (.int .i64 0)) (fun _ hk => trivial)), βcb⟩
 · replace c3 := Bool.eq_false_iff.mpr c3
   subst c3
   have H1 : ((spec_l03Ill.f 1).bind fun bt194 => (some (bt194.1, bt194.2.1, bt194.2.2.1, bt194.2.2.2))) = some (r1, r2, r3, r4) := by rw [if_neg (show ¬ (false = true) by decide)] at H; exact H
   clear H
   have H := H1
   clear H1
   replace H := Option.bind_eq_some_iff.mp H
   obtain ⟨⟨t194, t197, t200, t201⟩, A150, H⟩ := H
   (try dsimp -simprocs only at H)
   have A15 := zA_ A150
   clear A150
   simp only [Option.some.injEq, Prod.mk.injEq] at H
   obtain ⟨rfl, rfl, rfl, rfl⟩ := H
   go_enter Try.func17, Try.ntmps17
   go_wp2_with (first | ((with_reducible refine gate_dst (N := 1) rfl ?_); refine box_event ?hg (N := 1) ?hd (cs := #[.slice A0_0 l0_0.length c0_0, .slice A0_1 l0_1.length c0_1]) (t := 26) ?hr ?_; (case hd => exact (by rfl)); (case hg => exact (by rfl)); (case hr => exact βMb); intro gb185 hg w16 hbox hb; have BK185 := zA_ (hbox); have GW185 := zA_ ((by rw [hg]; exact (below_size (zh_ HB.out)) : w.heap.size ≤ gb185)); have GE185 := zA_ ((by rw [hg]; exact (below_size (zh_ HB.out)) : w.heap.size ≤ gb185)); replace HB := zA_ (below_step (zh_ HB.out) hb); clear hb hbox hg) | ((with_reducible refine gate_dst (N := 2) rfl ?_); refine box_event ?hg (N := 2) ?hd (cs := #[.slice none 0 0, .slice none 0 0, .string (⟨#[]⟩ : ByteArray), .int .i64 0]) (t := 30) ?hr ?_; (case hd => exact (by rfl)); (case hg => exact (by rfl)); (case hr => exact βMb); intro gb186 hg w17 hbox hb; have BK186 := zA_ (hbox); have GW186 := zA_ ((by rw [hg]; exact (below_size (zg1_ HB.out GE185.out)) : w.heap.size ≤ gb186)); have GE186 := zA_ ((by rw [hg]; exact (below_size (zg1_ HB.out GE185.out)) : w.heap.size ≤ gb186)); replace HB := zA_ (below_step (zg1_ HB.out GE185.out) hb); have NB185_186 := zA_ ((by rw [hg]; exact Nat.ne_of_lt (blk_lt (g := gb185) (o := .cells #[.slice A0_0 l0_0.length c0_0, .slice A0_1 l0_1.length c0_1] 26 (0, 0)) (zb_ BK185.out)) : gb185 ≠ gb186)); have NB186_185 := zA_ ((by rw [hg]; exact Nat.ne_of_gt (blk_lt (g := gb185) (o := .cells #[.slice A0_0 l0_0.length c0_0, .slice A0_1 l0_1.length c0_1] 26 (0, 0)) (zb_ BK185.out)) : gb186 ≠ gb185)); replace BK185 := zB_ BK185.out hb; clear hb hbox hg; have hnb18 := NB185_186.out; have hnc18 := NB186_185.out; have hcz19_0 := cz_ BK185.out 0 (.slice A0_0 l0_0.length c0_0) rfl; have hcz19_1 := cz_ BK185.out 1 (.slice A0_1 l0_1.length c0_1) rfl; have hfz19_0 := blk_frozen BK185.out 0; have hfz19_1 := blk_frozen BK185.out 1) | ((with_reducible refine gate_callee (f := 25) rfl ?_); refine goesL_ (some 4) rfl rfl Try.func25 βPb rfl #[.agg #[.slice A0_0 l0_0.length c0_0, .slice A0_1 l0_1.length c0_1]] rfl zs_ ?_; (with_reducible refine (spec_FlashRight.calls k _ _ l0_0 _ _ l0_1 false _ ?side1 ?side2 ?side3 ?side4 A2.out).mono ?_); (case side1 => exact zc_ (Kd.C_below HR0_0.out HB.out)); (case side2 => exact HC0_0.out); (case side3 => exact zc_ (Kd.C_below HR0_1.out HB.out)); (case side4 => exact HC0_1.out); rintro e w20 ⟨rfl, hb⟩; refine ⟨_, rfl, ?_⟩; replace BK185 := zB_ BK185.out hb; replace BK186 := zB_ BK186.out hb; replace HB := zA_ (below_step (zg2_ HB.out GE185.out GE186.out) hb); (try clear hb); (try clear hb2); (try clear hk); (try clear hi)) | ((with_reducible refine gate_callee (f := 56) rfl ?_); refine goesL_ (some 6) rfl rfl Try.func56 βPb rfl #[.int .i64 1] rfl zs_ ?_; (with_reducible refine (spec_l03Ill.calls 1 t194 t197 t200 t201 _ A15.out).mono ?_); rintro e w21 ⟨v195, v198, rfl, ho0, ho1, hb⟩; refine ⟨_, rfl, ?_⟩; have HO196 := zA_ (Kd.R_lower ho0 (below_size (zg2_ HB.out GE185.out GE186.out))); have HO199 := zA_ (Kd.R_lower ho1 (below_size (zg2_ HB.out GE185.out GE186.out))); replace BK185 := zB_ BK185.out hb; replace BK186 := zB_ BK186.out hb; replace HB := zA_ (below_step (zg2_ HB.out GE185.out GE186.out) hb); (try clear hb); (try clear hb2); (try clear hk); (try clear hi); (try clear ho0); (try clear ho1); obtain ⟨Ao22, co22, eo22⟩ := Kd.R_slice HO196.out; subst eo22; have hcz23_0 := cz_ BK186.out 0 (.slice none 0 0) rfl; have hcz23_1 := cz_ BK186.out 1 (.slice none 0 0) rfl; have hcz23_2 := cz_ BK186.out 2 (.string (⟨#[]⟩ : ByteArray)) rfl; have hcz23_3 := cz_ BK186.out 3 (.int .i64 0) rfl; have hfz23_0 := blk_frozen BK186.out 0; have hfz23_1 := blk_frozen BK186.out 1; have hfz23_2 := blk_frozen BK186.out 2; have hfz23_3 := blk_frozen BK186.out 3; obtain ⟨Ao24, co24, eo24⟩ := Kd.R_slice HO199.out; subst eo24))
   refine bodyPost_ret (results_cell_row rfl _ _ gb186 30 #[.slice Ao22 t194.length co22, .slice Ao24 t197.length co24, .string t200, .int .i64 t201] (0, 0) _ rfl (by (with_reducible repeat (first | refine blk_drewN ?_ _ | refine blk_drew ?_ | refine blk_alloc ?_ _)); refine blk_put (cs := #[.slice Ao22 t194.length co22, .slice Ao24 t197.length co24, .string t200, .int .i64 0]) ?_ 3 _ rfl; (with_reducible repeat (first | refine blk_drewN ?_ _ | refine blk_drew ?_ | refine blk_alloc ?_ _)); refine blk_put (cs := #[.slice Ao22 t194.length co22, .slice Ao24 t197.length co24, .string (⟨#[]⟩ : ByteArray), .int .i64 0]) ?_ 2 _ rfl; (with_reducible repeat (first | refine blk_drewN ?_ _ | refine blk_drew ?_ | refine blk_alloc ?_ _)); refine blk_put (cs := #[.slice Ao22 t194.length co22, .slice none 0 0, .string (⟨#[]⟩ : ByteArray), .int .i64 0]) ?_ 1 _ rfl; (with_reducible repeat (first | refine blk_drewN ?_ _ | refine blk_drew ?_ | refine blk_alloc ?_ _)); refine blk_put (cs := #[.slice none 0 0, .slice none 0 0, .string (⟨#[]⟩ : ByteArray), .int .i64 0]) ?_ 0 _ rfl; (with_reducible repeat (first | refine blk_drewN ?_ _ | refine blk_drew ?_ | refine blk_alloc ?_ _)); exact BK186.out) Try.underlying30 rfl βPb) rfl ?_
   exact ⟨_, _, βFb, (by (with_reducible repeat (first | apply Kd.R_alloc | apply Kd.R_drewN | apply Kd.R_drew)); exact Kd.R_mono (Kd.R_far (p := ⟨gb186, 3, none⟩) (Kd.R_far (p := ⟨gb186, 2, none⟩) (Kd.R_far (p := ⟨gb186, 1, none⟩) (Kd.R_far (p := ⟨gb186, 0, none⟩) (Kd.R_types HO196.out BK186.out (by decide)) (fun _ hk => hk.2) (.slice Ao22 t194.length co22)) (fun _ hk => hk.2) (.slice Ao24 t197.length co24)) (fun _ hk => hk.2) (.string t200)) (fun _ hk => hk.2) (.int .i64 t201)) (fun _ hk => trivial)), (by (with_reducible repeat (first | apply Kd.R_alloc | apply Kd.R_drewN | apply Kd.R_drew)); exact Kd.R_mono (Kd.R_far (p := ⟨gb186, 3, none⟩) (Kd.R_far (p := ⟨gb186, 2, none⟩) (Kd.R_far (p := ⟨gb186, 1, none⟩) (Kd.R_far (p := ⟨gb186, 0, none⟩) (Kd.R_types HO199.out BK186.out (by decide)) (fun _ hk => hk.2) (.slice Ao22 t194.length co22)) (fun _ hk => hk.2) (.slice Ao24 t197.length co24)) (fun _ hk => hk.2) (.string t200)) (fun _ hk => hk.2) (.int .i64 t201)) (fun _ hk => trivial)), βcb⟩
def spec_FlashNew.f (a0 : Int) : Option (List ByteArray × (List (S83))) := (spec_l03Is.f a0 1 40).bind fun t203 => (if t203 = true then (if 0 ≤ a0 then (if (a0 : Int).toNat ≤ 17592186044416 then (some ((List.replicate (a0 : Int).toNat (⟨#[]⟩ : ByteArray)), ([] : List (S83)))) else (none)) else (none)) else (some (([] : List ByteArray), ([] : List (S83)))))
theorem spec_FlashNew.calls (a0 : Int) (r1 : List ByteArray) (r2 : List (S83)) (w : World) (h : spec_FlashNew.f a0 = some (r1, r2)) :
 Calls Try.prog 21 #[.int .i64 a0] w fun e w' => ∃ v0_ v1_ : Value, e = .returned (.agg #[v0_, v1_]) ∧ Kd.R Kd.string 9 w' w.heap.size (fun _ => True) v0_ r1 ∧ Kd.R k83 83 w' w.heap.size (fun _ => True) v1_ r2 ∧ Below w.heap.size w w' := by
 have hu26 := Try.underlying26
 have HB := zA_ (Below.refl w.heap.size w)
 have H : ((spec_l03Is.f a0 1 40).bind fun t203 => (if t203 = true then (if 0 ≤ a0 then (if (a0 : Int).toNat ≤ 17592186044416 then (some ((List.replicate (a0 : Int).toNat (⟨#[]⟩ : ByteArray)), ([] : List (S83)))) else (none)) else (none)) else (some (([] : List ByteArray), ([] : List (S83)))))) = some (r1, r2) := h
 clear h
 replace H := Option.bind_eq_some_iff.mp H
 obtain ⟨t203, A20, H⟩ := H
 (try dsimp -simprocs only at H)
 have A2 := zA_ A20
 clear A20
 by_cases c3 : t203 = true
 · subst c3
   have H1 : (if 0 ≤ a0 then (if (a0 : Int).toNat ≤ 17592186044416 then (some ((List.replicate (a0 : Int).toNat (⟨#[]⟩ : ByteArray)), ([] : List (S83)))) else (none)) else (none)) = some (r1, r2) := by rw [if_pos rfl] at H; exact H
   clear H
   have H := H1
   clear H1
   by_cases c4 : 0 ≤ a0
   · rw [if_pos c4] at H
     have c4b0 := eq_true c4
     have c4b1 : decide (0 ≤ a0) = true := decide_eq_true c4
     clear c4
     by_cases c5 : (a0 : Int).toNat ≤ 17592186044416
     · rw [if_pos c5] at H
       have c5b0 := eq_true c5
       have c5b1 : decide ((a0 : Int).toNat ≤ 17592186044416) = true := decide_eq_true c5
       clear c5
       obtain ⟨y204, hy204⟩ : ∃ y_ : List ByteArray, y_ = (List.replicate (a0 : Int).toNat (⟨#[]⟩ : ByteArray)) := ⟨_, rfl⟩
       replace H : (some (y204, ([] : List (S83)))) = some (r1, r2) := by first | (rw [hy204]; with_reducible exact H) | (have H2_ := (Option.bind_some _ _).symm.trans H; rw [hy204]; with_reducible exact H2_) | (have H2_ := (Option.bind_some _ _).symm.trans H; with_reducible exact H2_) | with_reducible exact H | (rw [hy204]; exact H) | exact H
       have Ny204 := zA_ hy204
       clear hy204
       simp only [Option.some.injEq, Prod.mk.injEq] at H
       obtain ⟨rfl, rfl⟩ := H
       go_enter Try.func21, Try.ntmps21
       go_wp2_with (first | ((with_reducible refine gate_dst (N := 2) rfl ?_); refine box_event ?hg (N := 2) ?hd (cs := #[.slice none 0 0, .slice none 0 0]) (t := 26) ?hr ?_; (case hd => exact (by rfl)); (case hg => exact (by rfl)); (case hr => exact βMb); intro gb202 hg w6 hbox hb; have BK202 := zA_ (hbox); have GW202 := zA_ ((by rw [hg]; exact (below_size (zh_ HB.out)) : w.heap.size ≤ gb202)); have GE202 := zA_ ((by rw [hg]; exact (below_size (zh_ HB.out)) : w.heap.size ≤ gb202)); replace HB := zA_ (below_step (zh_ HB.out) hb); clear hb hbox hg) | ((with_reducible refine gate_callee (f := 57) rfl ?_); refine goesL_ (some 4) rfl rfl Try.func57 βPb rfl #[.int .i64 a0, .int .i64 1, .int .i64 40] rfl zs_ ?_; (with_reducible refine (spec_l03Is.calls a0 1 40 true _ A2.out).mono ?_); rintro e w' ⟨rfl, ⟨nd, rfl⟩⟩; refine ⟨_, rfl, ?_⟩; (try (rw [drewN_self w6]; generalize hq_ : World.drewN w6 _ = w6; replace BK202 : Aside0 (w6.heap[gb202]? = some (.cells #[.slice none 0 0, .slice none 0 0] 26 (0, 0))) := ⟨(by rw [← hq_]; exact (zb_ BK202.out))⟩; replace HB : Aside0 (Below w.heap.size w w6) := ⟨(by rw [← hq_]; exact (zg1_ HB.out GE202.out))⟩; clear hq_))) | ((with_reducible refine gate_dst (N := 8) rfl ?_); refine Kd.R_make Kd.string _ 9 rfl (N := 8) rfl 23 _ _ rfl a0 rfl rfl Try.underlying23 (.string ⟨#[]⟩) 16 info9 rfl (by decide) (by omega) (⟨#[]⟩ : ByteArray) (ok := fun _ => True) (okp := fun _ => True) rfl (fun _ hk => hk) trivial (of_decide_eq_true βKb) (Nat.le_trans (Nat.mul_le_mul_right _ (of_decide_eq_true βKb : a0.toNat ≤ 17592186044416)) (by omega)) (Below.refl _ _) (Nat.le_refl _) ?_; intro v205 w7 ho8 hb hg_ hnew_; clear hg_ hnew_; (first | rw [← Ny204.out] at ho8 | (simp only [Int.reduceToNat] at ho8; rw [← Ny204.out] at ho8)); have HO206 := zA_ (Kd.R_lower ho8 (below_size (zg1_ HB.out GE202.out))); replace BK202 := zB_ BK202.out hb; replace HB := zA_ (below_step (zg1_ HB.out GE202.out) hb); clear hb ho8; obtain ⟨Ao9, co9, eo9⟩ := Kd.R_slice HO206.out; subst eo9; have hcz10_0 := cz_ BK202.out 0 (.slice none 0 0) rfl; have hcz10_1 := cz_ BK202.out 1 (.slice none 0 0) rfl; have hfz10_0 := blk_frozen BK202.out 0; have hfz10_1 := blk_frozen BK202.out 1))
       refine bodyPost_ret (results_cell_row rfl _ _ gb202 26 #[.slice Ao9 y204.length co9, .slice none 0 0] (0, 0) _ rfl (by (with_reducible repeat (first | refine blk_drewN ?_ _ | refine blk_drew ?_ | refine blk_alloc ?_ _)); refine blk_put (cs := #[.slice Ao9 y204.length co9, .slice none 0 0]) ?_ 1 _ rfl; (with_reducible repeat (first | refine blk_drewN ?_ _ | refine blk_drew ?_ | refine blk_alloc ?_ _)); refine blk_put (cs := #[.slice none 0 0, .slice none 0 0]) ?_ 0 _ rfl; (with_reducible repeat (first | refine blk_drewN ?_ _ | refine blk_drew ?_ | refine blk_alloc ?_ _)); exact BK202.out) Try.underlying26 rfl βPb) rfl ?_
       exact ⟨_, _, βFb, (by (with_reducible repeat (first | apply Kd.R_alloc | apply Kd.R_drewN | apply Kd.R_drew)); exact Kd.R_mono (Kd.R_far (p := ⟨gb202, 1, none⟩) (Kd.R_far (p := ⟨gb202, 0, none⟩) (Kd.R_types HO206.out BK202.out (by decide)) (fun _ hk => hk.2) (.slice Ao9 y204.length co9)) (fun _ hk => hk.2) (.slice none 0 0)) (fun _ hk => trivial)), βBb, βsb⟩
     · rw [if_neg c5] at H
       exact absurd H (by simp)
   · rw [if_neg c4] at H
     exact absurd H (by simp)
 · replace c3 := Bool.eq_false_iff.mpr c3
   subst c3
   have H1 : (some (([] : List ByteArray), ([] : List (S83)))) = some (r1, r2) := by rw [if_neg (show ¬ (false = true) by decide)] at H; exact H
   clear H
   have H := H1
   clear H1
   simp only [Option.some.injEq, Prod.mk.injEq] at H
   obtain ⟨rfl, rfl⟩ := H
   go_enter Try.func21, Try.ntmps21
   go_wp2_with (first | ((with_reducible refine gate_dst (N := 2) rfl ?_); refine box_event ?hg (N := 2) ?hd (cs := #[.slice none 0 0, .slice none 0 0]) (t := 26) ?hr ?_; (case hd => exact (by rfl)); (case hg => exact (by rfl)); (case hr => exact βMb); intro gb202 hg w11 hbox hb; have BK202 := zA_ (hbox); have GW202 := zA_ ((by rw [hg]; exact (below_size (zh_ HB.out)) : w.heap.size ≤ gb202)); have GE202 := zA_ ((by rw [hg]; exact (below_size (zh_ HB.out)) : w.heap.size ≤ gb202)); replace HB := zA_ (below_step (zh_ HB.out) hb); clear hb hbox hg) | ((with_reducible refine gate_callee (f := 57) rfl ?_); refine goesL_ (some 4) rfl rfl Try.func57 βPb rfl #[.int .i64 a0, .int .i64 1, .int .i64 40] rfl zs_ ?_; (with_reducible refine (spec_l03Is.calls a0 1 40 false _ A2.out).mono ?_); rintro e w' ⟨rfl, ⟨nd, rfl⟩⟩; refine ⟨_, rfl, ?_⟩; (try (rw [drewN_self w11]; generalize hq_ : World.drewN w11 _ = w11; replace BK202 : Aside0 (w11.heap[gb202]? = some (.cells #[.slice none 0 0, .slice none 0 0] 26 (0, 0))) := ⟨(by rw [← hq_]; exact (zb_ BK202.out))⟩; replace HB : Aside0 (Below w.heap.size w w11) := ⟨(by rw [← hq_]; exact (zg1_ HB.out GE202.out))⟩; clear hq_)); have hcz12_0 := cz_ BK202.out 0 (.slice none 0 0) rfl; have hcz12_1 := cz_ BK202.out 1 (.slice none 0 0) rfl; have hfz12_0 := blk_frozen BK202.out 0; have hfz12_1 := blk_frozen BK202.out 1))
   refine bodyPost_ret (results_cell_row rfl _ _ gb202 26 #[.slice none 0 0, .slice none 0 0] (0, 0) _ rfl (by (with_reducible repeat (first | refine blk_drewN ?_ _ | refine blk_drew ?_ | refine blk_alloc ?_ _)); refine blk_put (cs := #[.slice none 0 0, .slice none 0 0]) ?_ 1 _ rfl; (with_reducible repeat (first | refine blk_drewN ?_ _ | refine blk_drew ?_ | refine blk_alloc ?_ _)); refine blk_put (cs := #[.slice none 0 0, .slice none 0 0]) ?_ 0 _ rfl; (with_reducible repeat (first | refine blk_drewN ?_ _ | refine blk_drew ?_ | refine blk_alloc ?_ _)); exact BK202.out) Try.underlying26 rfl βPb) rfl ?_
   exact ⟨_, _, βFb, βBb, βBb, βsb⟩
theorem spec_l01Src_n.still {P : Program} {id : Nat} {Q : Exit → Act → World → Prop} {a : Act} {w : World} {l : List Oper} (n : Nat) (hm : P.follows .mixedOrders = true) (hB : Region.lexTailB .any l.toArray n = true)
 (h : wpStill P l.toArray w.drew (fun a' => wpList P l.toArray Q (l.drop n) a' w.drew) (l.take n) a) : (Code.region id l.toArray true).wp P Q a w := wp_region_still_tail n hm hB h
theorem spec_l01Src_n.at_ {P : Program} {c : Code} {Q : Exit → Act → World → Prop} {a : Act} {W : World} (h : ∀ W1, W = W1 → Code.wp P c Q a W1) : Code.wp P c Q a W := h W rfl
def spec_l01Src_n.m1 (m : Int) : Int := Go.bits .xor .u64 m (IntKind.u64.wrap (m * 8192))
def spec_l01Src_n.m2 (m : Int) : Int := Go.bits .xor .u64 m (m / 128)
def spec_l01Src_n.m3 (m : Int) : Int := Go.bits .xor .u64 m (IntKind.u64.wrap (m * 131072))
def spec_l01Src_n.mix (m : Int) : Int := spec_l01Src_n.m3 (spec_l01Src_n.m2 (spec_l01Src_n.m1 m))
def spec_l01Src_n.out (v m a : Int) : Int := wrap64 (Int.tmod (IntKind.u64.wrap (v + m / 1048576)) (IntKind.u64.wrap a))
def spec_l01Src_n.f (s0_0 : List Int) (s0_1 : Int) (s0_2 : Int) (s0_3 : Int) (a1 : Int) : Option (Int × Int × Int × Int) :=
 if a1 ≤ 1 then some (0, s0_1, s0_2, s0_3) else if IntKind.u64.wrap a1 = 0 then none else
 if s0_1 < (s0_0.length : Int) then (if 0 ≤ s0_1 then some (spec_l01Src_n.out (IntKind.u64.wrap (rd s0_0 s0_1)) (spec_l01Src_n.mix s0_2) a1, wrap64 (s0_1 + 1), spec_l01Src_n.mix s0_2, s0_3) else none)
 else some (spec_l01Src_n.out 0 (spec_l01Src_n.mix s0_2) a1, s0_1, spec_l01Src_n.mix s0_2, s0_3)
def spec_l01Src_n.Post (w0 w : World) (g : Nat) (s0_0 : List Int) (r1 r2 r3 r4 : Int) (e : Ending) (w' : World) : Prop := e = .returned (.int .i64 r1) ∧ IsS101 w0 w' g s0_0 r2 r3 r4 ∧ Below w0.heap.size w0 w' ∧ KeepBut w w' g none
def spec_l01Src_n.At (w0 w W : World) (g : Nat) (s0_0 : List Int) (s0_1 s0_2 s0_3 : Int) : Prop := IsS101 w0 W g s0_0 s0_1 s0_2 s0_3 ∧ Below w0.heap.size w0 W ∧ KeepBut w W g none
theorem spec_l01Src_n.At.drewN {w0 w W : World} {g : Nat} {s0_0 : List Int} {s0_1 s0_2 s0_3 : Int} (h : spec_l01Src_n.At w0 w W g s0_0 s0_1 s0_2 s0_3) (n : Nat) : spec_l01Src_n.At w0 w (W.drewN n) g s0_0 s0_1 s0_2 s0_3 := ⟨IsS101.drewN h.1 n, pw_below_drewN h.2.1 n, keep_drewN h.2.2 n⟩
theorem spec_l01Src_n.At.drew {w0 w W : World} {g : Nat} {s0_0 : List Int} {s0_1 s0_2 s0_3 : Int} (h : spec_l01Src_n.At w0 w W g s0_0 s0_1 s0_2 s0_3) : spec_l01Src_n.At w0 w W.drew g s0_0 s0_1 s0_2 s0_3 := ⟨IsS101.drew h.1, below_drew1 h.2.1, keep_drew h.2.2⟩
theorem spec_l01Src_n.At.set_1 {w0 w W : World} {g : Nat} {s0_0 : List Int} {s0_1 s0_2 s0_3 : Int} (h : spec_l01Src_n.At w0 w W g s0_0 s0_1 s0_2 s0_3) (x : Int) : spec_l01Src_n.At w0 w (W.setCell ⟨g, 1, none⟩ (.int .i64 x)) g s0_0 x s0_2 s0_3 := ⟨IsS101.set_1 h.1 x, below_set h.2.1 (IsS101.ge h.1), KeepBut.set_ h.2.2 _ _⟩
theorem spec_l01Src_n.At.set_2 {w0 w W : World} {g : Nat} {s0_0 : List Int} {s0_1 s0_2 s0_3 : Int} (h : spec_l01Src_n.At w0 w W g s0_0 s0_1 s0_2 s0_3) (x : Int) : spec_l01Src_n.At w0 w (W.setCell ⟨g, 2, none⟩ (.int .u64 x)) g s0_0 s0_1 x s0_3 := ⟨IsS101.set_2 h.1 x, below_set h.2.1 (IsS101.ge h.1), KeepBut.set_ h.2.2 _ _⟩
theorem spec_l01Src_n.far (g : Nat) (s0_0 : List Int) (s0_1 : Int) (s0_2 : Int) (s0_3 : Int) (a1 : Int) (w0 w : World) (hI : IsS101 w0 w g s0_0 s0_1 s0_2 s0_3) (hB : Below w0.heap.size w0 w) (h1 : decide (a1 ≤ 1) = false) (hz : ¬ (IntKind.u64.wrap a1 = 0)) (h2 : decide (s0_1 < (s0_0.length : Int)) = false) :
 Calls Try.prog 45 #[.pointer (some ⟨g, 0, none⟩), .int .i64 a1] w (spec_l01Src_n.Post w0 w g s0_0 (spec_l01Src_n.out 0 (spec_l01Src_n.mix s0_2) a1) s0_1 (spec_l01Src_n.mix s0_2) s0_3) := by
 have hu101 := Try.underlying101
 have HA := zA_ (show spec_l01Src_n.At w0 w w g s0_0 s0_1 s0_2 s0_3 from ⟨hI, hB, KeepBut.refl w g none⟩)
 obtain ⟨A0, c0, hblk, hge, hrd⟩ := hI
 have hc0 : w.cell? ⟨g, 0, none⟩ = some (.slice A0 s0_0.length c0) := (blk_cell hblk 0).trans rfl
 have hc1 : w.cell? ⟨g, 1, none⟩ = some (.int .i64 s0_1) := (blk_cell hblk 1).trans rfl
 have hc2 : w.cell? ⟨g, 2, none⟩ = some (.int .u64 s0_2) := (blk_cell hblk 2).trans rfl
 have hf1 := blk_frozen hblk 1
 have hf2 := blk_frozen hblk 2
 clear hblk hge hrd hB
 go_enter Try.func45, Try.ntmps45
 go_wp2
 go_quiet (fail)
 go_wp2
 refine spec_l01Src_n.still 11 βPb βPb ?_
 simp only [List.take_succ_cons, List.take_zero, List.drop_succ_cons, List.drop_zero]
 repeat still_step
 refine wpStill_nil ?_
 go_wp2
 obtain ⟨x1, hm1⟩ : ∃ x : Int, Go.bits .xor .u64 s0_2 (IntKind.u64.wrap (s0_2 * 8192)) = x := ⟨_, rfl⟩
 simp only [hm1]
 refine spec_l01Src_n.at_ (fun W1 hW1 => ?_)
 have HA1 : Aside0 (spec_l01Src_n.At w0 w W1 g s0_0 s0_1 x1 s0_3) := ⟨(by rw [← hW1]; repeat (first | exact HA.out | apply spec_l01Src_n.At.drewN | apply spec_l01Src_n.At.drew | apply spec_l01Src_n.At.set_2))⟩
 clear hW1 HA
 (try clear hc0); (try clear hc1); (try clear hc2); (try clear hf1); (try clear hf2); (try clear hx)
 obtain ⟨A1, c1, hblk1, _⟩ := HA1.out.1
 have hc2 : W1.cell? ⟨g, 2, none⟩ = some (.int .u64 x1) := (blk_cell hblk1 2).trans rfl
 have hf2 := blk_frozen hblk1 2
 have Hm1 := zA_ hm1
 clear hblk1 hm1
 refine spec_l01Src_n.still 11 βPb βPb ?_
 simp only [List.take_succ_cons, List.take_zero, List.drop_succ_cons, List.drop_zero]
 repeat still_step
 refine wpStill_nil ?_
 go_wp2
 obtain ⟨x2, hm2⟩ : ∃ x : Int, Go.bits .xor .u64 x1 (x1 / 128) = x := ⟨_, rfl⟩
 simp only [hm2]
 refine spec_l01Src_n.at_ (fun W2 hW2 => ?_)
 have HA2 : Aside0 (spec_l01Src_n.At w0 w W2 g s0_0 s0_1 x2 s0_3) := ⟨(by rw [← hW2]; repeat (first | exact HA1.out | apply spec_l01Src_n.At.drewN | apply spec_l01Src_n.At.drew | apply spec_l01Src_n.At.set_2))⟩
 clear hW2 HA1
 (try clear hc0); (try clear hc1); (try clear hc2); (try clear hf1); (try clear hf2); (try clear hx)
 obtain ⟨A2, c2, hblk2, _⟩ := HA2.out.1
 have hc2 : W2.cell? ⟨g, 2, none⟩ = some (.int .u64 x2) := (blk_cell hblk2 2).trans rfl
 have hf2 := blk_frozen hblk2 2
 have Hm2 := zA_ hm2
 clear hblk2 hm2
 refine spec_l01Src_n.still 11 βPb βPb ?_
 simp only [List.take_succ_cons, List.take_zero, List.drop_succ_cons, List.drop_zero]
 repeat still_step
 refine wpStill_nil ?_
 go_wp2
 go_ret
 have e3 : Go.bits .xor .u64 x2 (IntKind.u64.wrap (x2 * 131072)) = spec_l01Src_n.mix s0_2 := by rw [spec_l01Src_n.mix, spec_l01Src_n.m1, Hm1.out, spec_l01Src_n.m2, Hm2.out, spec_l01Src_n.m3]
 simp only [e3]
 have hfin : ∀ W, spec_l01Src_n.At w0 w W g s0_0 s0_1 (spec_l01Src_n.mix s0_2) s0_3 → IsS101 w0 W g s0_0 s0_1 (spec_l01Src_n.mix s0_2) s0_3 ∧ Below w0.heap.size w0 W ∧ KeepBut w W g none := fun W h => h
 refine ⟨?_, hfin _ ?_⟩
 · simp only [spec_l01Src_n.out]; first | done | rfl | (simp; done)
 · repeat (first | exact HA2.out | apply spec_l01Src_n.At.drewN | apply spec_l01Src_n.At.drew | apply spec_l01Src_n.At.set_2)
theorem spec_l01Src_n.near (g : Nat) (s0_0 : List Int) (s0_1 : Int) (s0_2 : Int) (s0_3 : Int) (a1 : Int) (w0 w : World) (hI : IsS101 w0 w g s0_0 s0_1 s0_2 s0_3) (hB : Below w0.heap.size w0 w) (h1 : decide (a1 ≤ 1) = false) (hz : ¬ (IntKind.u64.wrap a1 = 0)) (h2 : decide (s0_1 < (s0_0.length : Int)) = true) (h3 : 0 ≤ s0_1) :
 Calls Try.prog 45 #[.pointer (some ⟨g, 0, none⟩), .int .i64 a1] w (spec_l01Src_n.Post w0 w g s0_0 (spec_l01Src_n.out (IntKind.u64.wrap (rd s0_0 s0_1)) (spec_l01Src_n.mix s0_2) a1) (wrap64 (s0_1 + 1)) (spec_l01Src_n.mix s0_2) s0_3) := by
 have hu101 := Try.underlying101
 have HA := zA_ (show spec_l01Src_n.At w0 w w g s0_0 s0_1 s0_2 s0_3 from ⟨hI, hB, KeepBut.refl w g none⟩)
 obtain ⟨A0, c0, hblk, hge, hrd⟩ := hI
 have hc0 : w.cell? ⟨g, 0, none⟩ = some (.slice A0 s0_0.length c0) := (blk_cell hblk 0).trans rfl
 have hc1 : w.cell? ⟨g, 1, none⟩ = some (.int .i64 s0_1) := (blk_cell hblk 1).trans rfl
 have hc2 : w.cell? ⟨g, 2, none⟩ = some (.int .u64 s0_2) := (blk_cell hblk 2).trans rfl
 have hf1 := blk_frozen hblk 1
 have hf2 := blk_frozen hblk 2
 have q0 : s0_1 < (s0_0.length : Int) := of_decide_eq_true h2
 obtain ⟨ad, ea, hx⟩ := Kd.at_int hrd s0_1 h3 q0
 cases ea
 replace hx := (hB.cell (World.block_lt_of_cell? _ _ hx)).trans hx
 clear hblk hge hrd hB
 have h3' : decide (0 ≤ s0_1) = true := decide_eq_true h3
 go_enter Try.func45, Try.ntmps45
 go_wp2
 go_quiet (fail)
 go_wp2
 go_quiet (fail)
 go_wp2
 refine spec_l01Src_n.at_ (fun wa hW0 => ?_)
 have HA0 : Aside0 (spec_l01Src_n.At w0 w wa g s0_0 (wrap64 (s0_1 + 1)) s0_2 s0_3) := ⟨(by rw [← hW0]; repeat (first | exact HA.out | apply spec_l01Src_n.At.drewN | apply spec_l01Src_n.At.drew | apply spec_l01Src_n.At.set_1))⟩
 clear hW0 HA hc0 hc1 hc2 hf1 hf2 hx
 have HA := HA0
 clear HA0
 obtain ⟨A0, c0, hblk, _⟩ := HA.out.1
 have hc2 : wa.cell? ⟨g, 2, none⟩ = some (.int .u64 s0_2) := (blk_cell hblk 2).trans rfl
 have hf2 := blk_frozen hblk 2
 clear hblk
 refine spec_l01Src_n.still 11 βPb βPb ?_
 simp only [List.take_succ_cons, List.take_zero, List.drop_succ_cons, List.drop_zero]
 repeat still_step
 refine wpStill_nil ?_
 go_wp2
 obtain ⟨x1, hm1⟩ : ∃ x : Int, Go.bits .xor .u64 s0_2 (IntKind.u64.wrap (s0_2 * 8192)) = x := ⟨_, rfl⟩
 simp only [hm1]
 refine spec_l01Src_n.at_ (fun W1 hW1 => ?_)
 have HA1 : Aside0 (spec_l01Src_n.At w0 w W1 g s0_0 (wrap64 (s0_1 + 1)) x1 s0_3) := ⟨(by rw [← hW1]; repeat (first | exact HA.out | apply spec_l01Src_n.At.drewN | apply spec_l01Src_n.At.drew | apply spec_l01Src_n.At.set_2))⟩
 clear hW1 HA
 (try clear hc0); (try clear hc1); (try clear hc2); (try clear hf1); (try clear hf2); (try clear hx)
 obtain ⟨A1, c1, hblk1, _⟩ := HA1.out.1
 have hc2 : W1.cell? ⟨g, 2, none⟩ = some (.int .u64 x1) := (blk_cell hblk1 2).trans rfl
 have hf2 := blk_frozen hblk1 2
 have Hm1 := zA_ hm1
 clear hblk1 hm1
 refine spec_l01Src_n.still 11 βPb βPb ?_
 simp only [List.take_succ_cons, List.take_zero, List.drop_succ_cons, List.drop_zero]
 repeat still_step
 refine wpStill_nil ?_
 go_wp2
 obtain ⟨x2, hm2⟩ : ∃ x : Int, Go.bits .xor .u64 x1 (x1 / 128) = x := ⟨_, rfl⟩
 simp only [hm2]
 refine spec_l01Src_n.at_ (fun W2 hW2 => ?_)
 have HA2 : Aside0 (spec_l01Src_n.At w0 w W2 g s0_0 (wrap64 (s0_1 + 1)) x2 s0_3) := ⟨(by rw [← hW2]; repeat (first | exact HA1.out | apply spec_l01Src_n.At.drewN | apply spec_l01Src_n.At.drew | apply spec_l01Src_n.At.set_2))⟩
 clear hW2 HA1
 (try clear hc0); (try clear hc1); (try clear hc2); (try clear hf1); (try clear hf2); (try clear hx)
 obtain ⟨A2, c2, hblk2, _⟩ := HA2.out.1
 have hc2 : W2.cell? ⟨g, 2, none⟩ = some (.int .u64 x2) := (blk_cell hblk2 2).trans rfl
 have hf2 := blk_frozen hblk2 2
 have Hm2 := zA_ hm2
 clear hblk2 hm2
 refine spec_l01Src_n.still 11 βPb βPb ?_
 simp only [List.take_succ_cons, List.take_zero, List.drop_succ_cons, List.drop_zero]
 repeat still_step
 refine wpStill_nil ?_
 go_wp2
 go_ret
 have e3 : Go.bits .xor .u64 x2 (IntKind.u64.wrap (x2 * 131072)) = spec_l01Src_n.mix s0_2 := by rw [spec_l01Src_n.mix, spec_l01Src_n.m1, Hm1.out, spec_l01Src_n.m2, Hm2.out, spec_l01Src_n.m3]
 simp only [e3]
 have hfin : ∀ W, spec_l01Src_n.At w0 w W g s0_0 (wrap64 (s0_1 + 1)) (spec_l01Src_n.mix s0_2) s0_3 → IsS101 w0 W g s0_0 (wrap64 (s0_1 + 1)) (spec_l01Src_n.mix s0_2) s0_3 ∧ Below w0.heap.size w0 W ∧ KeepBut w W g none := fun W h => h
 refine ⟨?_, hfin _ ?_⟩
 · simp only [spec_l01Src_n.out]; first | done | rfl | (simp; done)
 · repeat (first | exact HA2.out | apply spec_l01Src_n.At.drewN | apply spec_l01Src_n.At.drew | apply spec_l01Src_n.At.set_2)
theorem spec_l01Src_n.calls (g : Nat) (s0_0 : List Int) (s0_1 : Int) (s0_2 : Int) (s0_3 : Int) (a1 : Int) (r1 : Int) (r2 : Int) (r3 : Int) (r4 : Int) (w0 w : World) (hI : IsS101 w0 w g s0_0 s0_1 s0_2 s0_3) (hB : Below w0.heap.size w0 w) (h : spec_l01Src_n.f s0_0 s0_1 s0_2 s0_3 a1 = some (r1, r2, r3, r4)) :
 Calls Try.prog 45 #[.pointer (some ⟨g, 0, none⟩), .int .i64 a1] w fun e w' => e = .returned (.int .i64 r1) ∧ IsS101 w0 w' g s0_0 r2 r3 r4 ∧ Below w0.heap.size w0 w' ∧ KeepBut w w' g none := by
 unfold spec_l01Src_n.f at h
 by_cases h1 : a1 ≤ 1
 · rw [if_pos h1] at h
   simp only [Option.some.injEq, Prod.mk.injEq] at h
   obtain ⟨rfl, rfl, rfl, rfl⟩ := h
   have HI := zA_ hI
   have HB := zA_ hB
   clear hI hB
   have h1' : decide (a1 ≤ 1) = true := decide_eq_true h1
   clear h1
   go_enter Try.func45, Try.ntmps45
   go_wp2
   go_ret
   exact ⟨rfl, HI.out, HB.out, KeepBut.refl w g none⟩
 · rw [if_neg h1] at h
   by_cases hz : IntKind.u64.wrap a1 = 0
   · rw [if_pos hz] at h; cases h
   · rw [if_neg hz] at h
     by_cases h2 : s0_1 < (s0_0.length : Int)
     · rw [if_pos h2] at h
       by_cases h3 : 0 ≤ s0_1
       · rw [if_pos h3] at h
         simp only [Option.some.injEq, Prod.mk.injEq] at h
         obtain ⟨rfl, rfl, rfl, rfl⟩ := h
         exact spec_l01Src_n.near g s0_0 s0_1 s0_2 s0_3 a1 w0 w hI hB (decide_eq_false h1) hz (decide_eq_true h2) h3
       · rw [if_neg h3] at h; cases h
     · rw [if_neg h2] at h
       simp only [Option.some.injEq, Prod.mk.injEq] at h
       obtain ⟨rfl, rfl, rfl, rfl⟩ := h
       exact spec_l01Src_n.far g s0_0 s0_1 s0_2 s0_3 a1 w0 w hI hB (decide_eq_false h1) hz (decide_eq_false h2)
def spec_l01Src_one.f (s0_0 : List Int) (s0_1 : Int) (s0_2 : Int) (s0_3 : Int) (a1 : Int) : Option (Bool × Int × Int × Int) := (spec_l01Src_n.f s0_0 s0_1 s0_2 s0_3 a1).bind fun bt207 => (some ((bt207.1 == 0), bt207.2.1, bt207.2.2.1, bt207.2.2.2))
theorem spec_l01Src_one.calls (g : Nat) (s0_0 : List Int) (s0_1 : Int) (s0_2 : Int) (s0_3 : Int) (a1 : Int) (r1 : Bool) (r2 : Int) (r3 : Int) (r4 : Int) (w0 w : World) (hI : IsS101 w0 w g s0_0 s0_1 s0_2 s0_3) (hB : Below w0.heap.size w0 w) (h : spec_l01Src_one.f s0_0 s0_1 s0_2 s0_3 a1 = some (r1, r2, r3, r4)) :
 Calls Try.prog 46 #[.pointer (some ⟨g, 0, none⟩), .int .i64 a1] w fun e w' => e = .returned (.bool r1) ∧ IsS101 w0 w' g s0_0 r2 r3 r4 ∧ Below w0.heap.size w0 w' ∧ KeepBut w w' g none := by
 have HI0 := zA_ hI
 have HK := zA_ (KeepBut.refl w g none)
 have HL := zA_ hB.size
 clear hI
 have HW0 := zA_ hB.size
 have HB := zA_ hB
 clear hB
 have H : ((spec_l01Src_n.f s0_0 s0_1 s0_2 s0_3 a1).bind fun bt207 => (some ((bt207.1 == 0), bt207.2.1, bt207.2.2.1, bt207.2.2.2))) = some (r1, r2, r3, r4) := h
 clear h
 replace H := Option.bind_eq_some_iff.mp H
 obtain ⟨⟨t207, t208, t209, t210⟩, A30, H⟩ := H
 (try dsimp -simprocs only at H)
 have A3 := zA_ A30
 clear A30
 simp only [Option.some.injEq, Prod.mk.injEq] at H
 obtain ⟨rfl, rfl, rfl, rfl⟩ := H
 go_enter Try.func46, Try.ntmps46
 go_wp2_with (first | ((with_reducible refine gate_callee (f := 45) rfl ?_); refine goesL_ (some 7) rfl rfl Try.func45 βPb rfl #[.pointer (some ⟨g, 0, none⟩), .int .i64 a1] rfl zs_ ?_; (with_reducible refine (spec_l01Src_n.calls g s0_0 s0_1 s0_2 s0_3 a1 t207 t208 t209 t210 w0 _ ?side1 ?side2 A3.out).mono ?_); (case side1 => exact βdb); (case side2 => exact βnb); rintro e w4 ⟨rfl, hi, hb, hk⟩; refine ⟨_, rfl, ?_⟩; replace HK := zA_ (KeepBut.trans βAb hk (.inl rfl)); replace HB := zA_ (hb); replace HI0 := zA_ (hi); (try clear hb); (try clear hb2); (try clear hk); (try clear hi)))
 go_ret
 exact ⟨βFb, βdb, βnb, βAb⟩
def spec_l01Src_bytes.l0 : Nat → Int → List Int → Int → List Int → Int → Int → Int → Option (ByteArray × Int × Int × Int)
 | 0, _, _, _, _, _, _, _ => none
 | k + 1, x1, x5, x6, x1000, x1001, x1002, x1003 => if x6 < x1 then ((spec_l01Src_n.f x1000 x1001 x1002 x1003 256).bind fun bt214 => (if x5.length < 140737488355328 then (spec_l01Src_bytes.l0 k x1 (x5 ++ [(bt214.1) % 256]) (wrap64 (x6 + 1)) x1000 bt214.2.1 bt214.2.2.1 bt214.2.2.2) else (none))) else (some (strOfNums x5, x1001, x1002, x1003))
def spec_l01Src_bytes.f (k : Nat) (s0_0 : List Int) (s0_1 : Int) (s0_2 : Int) (s0_3 : Int) (a1 : Int) : Option (ByteArray × Int × Int × Int) := spec_l01Src_bytes.l0 k a1 (([] : List Int)) 0 s0_0 s0_1 s0_2 s0_3
theorem spec_l01Src_bytes.calls (k : Nat) (g : Nat) (s0_0 : List Int) (s0_1 : Int) (s0_2 : Int) (s0_3 : Int) (a1 : Int) (r1 : ByteArray) (r2 : Int) (r3 : Int) (r4 : Int) (w0 w : World) (hI : IsS101 w0 w g s0_0 s0_1 s0_2 s0_3) (hB : Below w0.heap.size w0 w) (h : spec_l01Src_bytes.f k s0_0 s0_1 s0_2 s0_3 a1 = some (r1, r2, r3, r4)) :
 Calls Try.prog 47 #[.pointer (some ⟨g, 0, none⟩), .int .i64 a1] w fun e w' => e = .returned (.string r1) ∧ IsS101 w0 w' g s0_0 r2 r3 r4 ∧ Below w0.heap.size w0 w' ∧ KeepBut w w' g none := by
 have HI0 := zA_ hI
 have HK := zA_ (KeepBut.refl w g none)
 have HL := zA_ hB.size
 clear hI
 have HW0 := zA_ hB.size
 have HB := zA_ hB
 clear hB
 have H : (spec_l01Src_bytes.l0 k a1 (([] : List Int)) 0 s0_0 s0_1 s0_2 s0_3) = some (r1, r2, r3, r4) := h
 clear h
 obtain ⟨y211, hy211⟩ : ∃ y_ : List Int, y_ = (([] : List Int)) := ⟨_, rfl⟩
 replace H : (spec_l01Src_bytes.l0 k a1 y211 0 s0_0 s0_1 s0_2 s0_3) = some (r1, r2, r3, r4) := by first | (rw [hy211]; with_reducible exact H) | (have H2_ := (Option.bind_some _ _).symm.trans H; rw [hy211]; with_reducible exact H2_) | (have H2_ := (Option.bind_some _ _).symm.trans H; with_reducible exact H2_) | with_reducible exact H | (rw [hy211]; exact H) | exact H
 have Ny211 := zA_ hy211
 clear hy211
 have H' := zA_ H
 clear H
 go_enter Try.func47, Try.ntmps47
 go_wp2_with (first | ((with_reducible refine gate_dst (N := 7) rfl ?_); refine Kd.R_lit (Kd.int .u8) _ 5 ?hg (N := 7) ?hd (xs := ([] : List Int)) (inner := []) (ok := fun _ => True) (okp := fun _ => True) ?hr ?hp (fun _ hk => hk) trivial (Below.refl _ _) (Nat.le_refl _) (by simp) ?_; (case hd => exact (by rfl)); (case hg => exact (by rfl)); (case hr => exact βMb); (case hp => exact (Reps.none _ _)); intro v212 w3 ho4 hb hg_ hnew_; clear hg_ hnew_; (first | rw [← Ny211.out] at ho4 | (simp only [Int.reduceToNat] at ho4; rw [← Ny211.out] at ho4)); have HO213 := zA_ (Kd.R_lower ho4 (keep_size (w := w) (g := g) (row := none) βAb)); replace HK := zA_ (KeepBut.trans βAb (KeepBut.of_below hb g none) (.inl rfl)); replace HB := zA_ (below_step βnb hb); replace HI0 := zA_ (IsS101.below βdb hb); clear hb ho4))
 go_loopg [5, 6] k (fun kq v5 v6 w' => ∃ (x5_1 : List Int) (x6_1 : Int) (x1001_1 : Int) (x1002_1 : Int) (x1003_1 : Int), v6 = .int .i64 x6_1 ∧ Aside0 (spec_l01Src_bytes.l0 kq a1 x5_1 x6_1 s0_0 x1001_1 x1002_1 x1003_1 = some (r1, r2, r3, r4)) ∧ Aside0 (kq ≤ k) ∧ Aside0 (Kd.R (Kd.int .u8) 5 w' w.heap.size (fun _ => True) v5 x5_1) ∧ Aside0 (IsS101 w0 w' g s0_0 x1001_1 x1002_1 x1003_1) ∧ Aside0 (KeepBut w w' g none) ∧ Aside0 (Below w0.heap.size w0 w'))
 case atStart => exact ⟨(y211), (0), (s0_1), (s0_2), (s0_3), βLb, H', ⟨Nat.le_refl _⟩, ⟨zr_ HO213.out⟩, ⟨βdb⟩, ⟨βAb⟩, ⟨βnb⟩⟩
 case round =>
  clear H'
  try clear p2
  try clear c4
  obtain ⟨x5_1, x6_1, x1001_1, x1002_1, x1003_1, rfl, HA, HK1, HO_5, HI0, HK, HB⟩ := hrel
  cases gk with
  | zero => exact absurd HA.out (by simp [spec_l01Src_bytes.l0])
  | succ k1 =>
   have H := HA.out
   clear HA
   simp only [spec_l01Src_bytes.l0] at H
   by_cases c5 : x6_1 < a1
   · rw [if_pos c5] at H
     have c5b0 : decide (x6_1 < a1) = true := decide_eq_true c5
     clear c5
     replace H := Option.bind_eq_some_iff.mp H
     obtain ⟨⟨t214, t215, t216, t217⟩, A60, H⟩ := H
     (try dsimp -simprocs only at H)
     have A6 := zA_ A60
     clear A60
     by_cases c7 : x5_1.length < 140737488355328
     · rw [if_pos c7] at H
       have LMc7 := zA_ c7
       clear c7
       obtain ⟨y218, hy218⟩ : ∃ y_ : List Int, y_ = (x5_1 ++ [(t214) % 256]) := ⟨_, rfl⟩
       replace H : (spec_l01Src_bytes.l0 k1 a1 y218 (wrap64 (x6_1 + 1)) s0_0 t215 t216 t217) = some (r1, r2, r3, r4) := by first | (rw [hy218]; with_reducible exact H) | (have H2_ := (Option.bind_some _ _).symm.trans H; rw [hy218]; with_reducible exact H2_) | (have H2_ := (Option.bind_some _ _).symm.trans H; with_reducible exact H2_) | with_reducible exact H | (rw [hy218]; exact H) | exact H
       have Ny218 := zA_ hy218
       clear hy218
       have H' := zA_ H
       clear H
       go_wp2_with (first | ((with_reducible refine gate_callee (f := 45) rfl ?_); refine goesL_ (some 15) rfl rfl Try.func45 βPb rfl #[.pointer (some ⟨g, 0, none⟩), .int .i64 256] rfl zs_ ?_; (with_reducible refine (spec_l01Src_n.calls g s0_0 x1001_1 x1002_1 x1003_1 256 t214 t215 t216 t217 w0 _ ?side1 ?side2 A6.out).mono ?_); (case side1 => exact βdb); (case side2 => exact βnb); rintro e w8 ⟨rfl, hi, hb, hk⟩; refine ⟨_, rfl, ?_⟩; replace HO_5 := zA_ (Kd.R_mono (Kd.R_keep (IsS101.apart (show IsS101 w0 _ g s0_0 x1001_1 x1002_1 x1003_1 from by repeat (first | (with_reducible first | exact HI0.out | apply IsS101.alloc | apply IsS101.drewN | apply IsS101.drew | apply IsS101.set_1 | apply IsS101.set_2 | apply IsS101.set_3) | exact HI0.out)) (zr_ HO_5.out) (by decide)) hk (fun _ h => h.2)) (fun _ h => h.1)); replace HK := zA_ (KeepBut.trans βAb hk (.inl rfl)); replace HB := zA_ (hb); replace HI0 := zA_ (hi); (try clear hb); (try clear hb2); (try clear hk); (try clear hi)) | ((with_reducible refine gate_builtin (b := .append) (xs := #[.tmp 13, .tmp 17]) rfl ?_); at_builtin; refine Kd.R_append (Kd.int .u8) w.heap.size rfl (.tmp 13) (.tmp 17) 22 5 (.int .u8 0) 1 rfl Try.underlying22 info5 rfl (by decide) (by omega) u5 x5_1 ((t214) % 256) [.int .u8 ((t214) % 256)] (fun _ => True) (fun _ => False) rfl rfl ?aP (fun _ hk => hk.elim) ?aF ?aO (Below.refl _ _) ?aS ?aL ?_; (case aP => exact rfl); (case aF => exact (fun _ _ => trivial)); (case aO => exact (zr_ HO_5.out)); (case aS => exact (keep_size (w := w) (g := g) (row := none) βAb)); (case aL => exact (by have := LMc7.out; omega)); intro v219 w9 ho hb hg hat; rw [← Ny218.out] at ho; replace HB := zA_ (below_weaken βnb HL.out hb); replace HI0 := zA_ (IsS101.grown βdb hg (IsS101.own_ne HI0.out HO_5.out (by decide))); replace HK := zA_ (KeepBut.trans βAb (KeepBut.of_grown hg g) (Kd.R_base2 HO_5.out)); have HO220 := zA_ (ho); clear HO_5; clear ho hb hg hat))
       go_roundg k1
       case measure => have := HK1.out; omega
       case rel => exact ⟨(y218), (wrap64 (x6_1 + 1)), (t215), (t216), (t217), βLb, H', ⟨βOb⟩, ⟨zr_ HO220.out⟩, ⟨βdb⟩, ⟨βAb⟩, ⟨βnb⟩⟩
     · rw [if_neg c7] at H
       exact absurd H (by simp)
   · rw [if_neg c5] at H
     have c5b0 : decide (x6_1 < a1) = false := decide_eq_false c5
     clear c5
     simp only [Option.some.injEq, Prod.mk.injEq] at H
     obtain ⟨rfl, rfl, rfl, rfl⟩ := H
     have hcv10 := own_string (P := Try.prog) Try.underlying22 Try.underlying5 Try.underlying9 (Kd.own_of_R HO_5.out)
     go_wp2
     go_ret
     exact ⟨βFb, βdb, βnb, βAb⟩
end Go.Proofs.Ytboobfpmmaaogaa.Q
