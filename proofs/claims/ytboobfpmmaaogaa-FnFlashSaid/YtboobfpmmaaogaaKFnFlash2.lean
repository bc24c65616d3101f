/- What is written is read, no other sector is turned; what is synced stays when the power goes; an unsynced sector is then what it was, what was written, or a beginning of it; for every draw. Part 2. -/
import Derived.Test.YtboobfpmmaaogaaKFnFlash1
namespace Go.Proofs.Ytboobfpmmaaogaa.Q
open Go.RowKit Go.Proofs.YtboobfpmmaaogaaW.PrintWords Go.Proofs.YtboobfpmmaaogaaW.PrintLast Go.Proofs.YtboobfpmmaaogaaW.PrintMore
attribute [local go_sem] max2_int min2_int max_two min_two max_three min_three max_four min_four Instr.field asAgg
set_option linter.unusedVariables false
set_option linter.unusedSimpArgs false
set_option maxHeartbeats 8000000
set_option maxRecDepth 100000
mutual
def spec_l01Src_l03Flash.l0 : Nat → Int → List Int → Int → Int → Int → List ByteArray → List (S83) → Option (List ByteArray × (List (S83)) × Int × Int × Int)
 | 0, _, _, _, _, _, _, _ => none
 | k + 1, x4, x1000, x1001, x1002, x1003, x233000, x233001 => if x4 > 0 then ((spec_l01Src_n.f x1000 x1001 x1002 x1003 7).bind fun bt237 => ((spec_l01Src_n.f x1000 bt237.2.1 bt237.2.2.1 bt237.2.2.2 5).bind fun bt241 => ((spec_l01Src_bytes.f k x1000 bt241.2.1 bt241.2.2.1 bt241.2.2.2 bt241.1).bind fun bt245 => ((spec_FlashWrite.f k x233000 x233001 bt237.1 bt245.1).bind fun bt249 => ((spec_l01Src_one.f x1000 bt245.2.1 bt245.2.2.1 bt245.2.2.2 4).bind fun bt258 => (if bt258.1 = true then ((spec_FlashSync.f k x233000 x233001).bind fun bt262 => (spec_l01Src_l03Flash.j1 k x4 x1000 bt258.2.1 bt258.2.2.1 bt258.2.2.2 x233000 x233001 bt262.1 bt262.2.1 bt262.2.2.1 bt262.2.2.2)) else (spec_l01Src_l03Flash.j1 k x4 x1000 bt258.2.1 bt258.2.2.1 bt258.2.2.2 x233000 x233001 bt249.1 bt249.2.1 bt249.2.2.1 bt249.2.2.2))))))) else ((spec_l01Src_one.f x1000 x1001 x1002 x1003 15).bind fun bt270 => (if bt270.1 = true then ((spec_l01Src_n.f x1000 bt270.2.1 bt270.2.2.1 bt270.2.2.2 4).bind fun bt274 => (if bt274.1 = 0 then (spec_l01Src_l03Flash.j4 k x1000 bt274.2.1 bt274.2.2.1 bt274.2.2.2 ([] : List ByteArray) x233001) else (if bt274.1 = 1 then ((spec_l01Src_n.f x1000 bt274.2.1 bt274.2.2.1 bt274.2.2.2 8).bind fun bt278 => (if x233001.length < 5864062014805 then (spec_l01Src_l03Flash.j4 k x1000 bt278.2.1 bt278.2.2.1 bt278.2.2.2 x233000 (x233001 ++ [(⟨bt278.1, (⟨#[]⟩ : ByteArray)⟩ : S83)])) else (none))) else (if bt274.1 = 2 then ((spec_l01Src_n.f x1000 bt274.2.1 bt274.2.2.1 bt274.2.2.2 2).bind fun bt285 => (if 0 ≤ (wrap64 (96 + bt285.1)) then (if (wrap64 (96 + bt285.1) : Int).toNat ≤ 281474976710656 then (if 0 < (x233000.length : Int) then (spec_l01Src_l03Flash.j4 k x1000 bt285.2.1 bt285.2.2.1 bt285.2.2.2 (x233000.set (0 : Int).toNat (strOfNums (List.replicate (wrap64 (96 + bt285.1) : Int).toNat 0))) x233001) else (none)) else (none)) else (none))) else (spec_l01Src_l03Flash.l1 k x1000 bt274.2.1 bt274.2.2.1 bt274.2.2.2 x233000 x233001))))) else (spec_l01Src_l03Flash.j4 k x1000 bt270.2.1 bt270.2.2.1 bt270.2.2.2 x233000 x233001)))
def spec_l01Src_l03Flash.j2 : Nat → Int → List Int → Int → Int → Int → List ByteArray → List (S83) → Option (List ByteArray × (List (S83)) × Int × Int × Int)
 | 0, _, _, _, _, _, _, _ => none
 | k + 1, x4, x1000, x1001, x1002, x1003, x233000, x233001 => spec_l01Src_l03Flash.l0 k (wrap64 (x4 - 1)) x1000 x1001 x1002 x1003 x233000 x233001
def spec_l01Src_l03Flash.j1 : Nat → Int → List Int → Int → Int → Int → List ByteArray → List (S83) → List ByteArray → List (S83) → ByteArray → Int → Option (List ByteArray × (List (S83)) × Int × Int × Int)
 | 0, _, _, _, _, _, _, _, _, _, _, _ => none
 | k + 1, x4, x1000, x1001, x1002, x1003, x233000, x233001, x258000, x258001, x258002, x258003 => if x258003 = 0 then (spec_l01Src_l03Flash.j2 k x4 x1000 x1001 x1002 x1003 x258000 x258001) else (spec_l01Src_l03Flash.j2 k x4 x1000 x1001 x1002 x1003 x233000 x233001)
def spec_l01Src_l03Flash.j4 : Nat → List Int → Int → Int → Int → List ByteArray → List (S83) → Option (List ByteArray × (List (S83)) × Int × Int × Int)
 | 0, _, _, _, _, _, _ => none
 | k + 1, x1000, x1001, x1002, x1003, x233000, x233001 => some (x233000, x233001, x1001, x1002, x1003)
def spec_l01Src_l03Flash.l1 : Nat → List Int → Int → Int → Int → List ByteArray → List (S83) → Option (List ByteArray × (List (S83)) × Int × Int × Int)
 | 0, _, _, _, _, _, _ => none
 | k + 1, x1000, x1001, x1002, x1003, x233000, x233001 => (spec_l01Src_n.f x1000 x1001 x1002 x1003 2).bind fun bt293 => (if (x233000.length : Int) < (wrap64 (40 + bt293.1)) then (if x233000.length < 8796093022208 then (spec_l01Src_l03Flash.l1 k x1000 bt293.2.1 bt293.2.2.1 bt293.2.2.2 (x233000 ++ [(⟨#[]⟩ : ByteArray)]) x233001) else (none)) else (spec_l01Src_l03Flash.j4 k x1000 bt293.2.1 bt293.2.2.1 bt293.2.2.2 x233000 x233001))
end
def spec_l01Src_l03Flash.f (k : Nat) (s0_0 : List Int) (s0_1 : Int) (s0_2 : Int) (s0_3 : Int) : Option (List ByteArray × (List (S83)) × Int × Int × Int) := (spec_l01Src_n.f s0_0 s0_1 s0_2 s0_3 7).bind fun bt222 => ((spec_FlashNew.f (wrap64 (1 + bt222.1))).bind fun bt226 => ((spec_l01Src_n.f s0_0 bt222.2.1 bt222.2.2.1 bt222.2.2.2 9).bind fun bt233 => (spec_l01Src_l03Flash.l0 k bt233.1 s0_0 bt233.2.1 bt233.2.2.1 bt233.2.2.2 bt226.1 bt226.2)))
def spec_l01Src_l03Flash.T5 : Bool × List (List Nat × List Nat) := (true, [([], []), ([], []), ([1], [1]), ([], []), ([], []), ([4, 2], [4]), ([3, 5, 5], [3, 5]), ([0, 2, 6, 6], [0, 2, 6]), ([], []), ([8, 7, 7, 0, 1, 2, 3, 4, 5, 6, 7, 8], [7, 8])])
def spec_l01Src_l03Flash.B5 : List Nat := [0, 0, 2, 0, 0, 22, 62, 127, 0, 511]
theorem spec_l01Src_l03Flash.tab5 : rtab .any (opsOf Try.f44 5) = spec_l01Src_l03Flash.T5 := by kernel_rfl
theorem spec_l01Src_l03Flash.bits5 : waitsOk spec_l01Src_l03Flash.T5.2 spec_l01Src_l03Flash.B5 = true := by kernel_rfl
def spec_l01Src_l03Flash.T17 : Bool × List (List Nat × List Nat) := (true, [([], []), ([0], [0]), ([], []), ([2], [2]), ([3], [3]), ([4], [4]), ([1, 5, 3], [1, 5]), ([0, 1, 2, 3, 4, 5, 6], []), ([7, 6, 6, 0, 1, 2, 3, 4, 5, 6], [6, 7])])
def spec_l01Src_l03Flash.B17 : List Nat := [0, 1, 0, 4, 12, 28, 63, 127, 255]
theorem spec_l01Src_l03Flash.tab17 : rtab .any (opsOf Try.f44 17) = spec_l01Src_l03Flash.T17 := by kernel_rfl
theorem spec_l01Src_l03Flash.bits17 : waitsOk spec_l01Src_l03Flash.T17.2 spec_l01Src_l03Flash.B17 = true := by kernel_rfl
def spec_l01Src_l03Flash.T19 : Bool × List (List Nat × List Nat) := (true, [([], []), ([0], [0]), ([], []), ([2], [2]), ([3], [3]), ([4, 4], [4]), ([5], [5]), ([1, 0, 1, 2, 3, 4, 5, 6], [1]), ([7, 6, 3, 0, 1, 2, 3, 4, 5, 6], [6, 7])])
def spec_l01Src_l03Flash.B19 : List Nat := [0, 1, 0, 4, 12, 28, 60, 127, 255]
theorem spec_l01Src_l03Flash.tab19 : rtab .any (opsOf Try.f44 19) = spec_l01Src_l03Flash.T19 := by kernel_rfl
theorem spec_l01Src_l03Flash.bits19 : waitsOk spec_l01Src_l03Flash.T19.2 spec_l01Src_l03Flash.B19 = true := by kernel_rfl
theorem spec_l01Src_l03Flash.calls (k : Nat) (g : Nat) (s0_0 : List Int) (s0_1 : Int) (s0_2 : Int) (s0_3 : Int) (r1 : List ByteArray) (r2 : List (S83)) (r3 : Int) (r4 : Int) (r5 : Int) (w0 w : World) (hI : IsS101 w0 w g s0_0 s0_1 s0_2 s0_3) (hB : Below w0.heap.size w0 w) (h : spec_l01Src_l03Flash.f k s0_0 s0_1 s0_2 s0_3 = some (r1, r2, r3, r4, r5)) :
 Calls Try.prog 44 #[.pointer (some ⟨g, 0, none⟩)] w fun e w' => ∃ v0_ v1_ : Value, e = .returned (.agg #[v0_, v1_]) ∧ Kd.R Kd.string 9 w' w.heap.size (fun _ => True) v0_ r1 ∧ Kd.R k83 83 w' w.heap.size (fun _ => True) v1_ r2 ∧ IsS101 w0 w' g s0_0 r3 r4 r5 ∧ Below w0.heap.size w0 w' ∧ KeepBut w w' g none := by
 have hu26 := Try.underlying26
 have hu30 := Try.underlying30
 have hu83 := Try.underlying83
 have HI0 := zA_ hI
 have HK := zA_ (KeepBut.refl w g none)
 have HL := zA_ hB.size
 clear hI
 have HW0 := zA_ hB.size
 have HB := zA_ hB
 clear hB
 have H : ((spec_l01Src_n.f s0_0 s0_1 s0_2 s0_3 7).bind fun bt222 => ((spec_FlashNew.f (wrap64 (1 + bt222.1))).bind fun bt226 => ((spec_l01Src_n.f s0_0 bt222.2.1 bt222.2.2.1 bt222.2.2.2 9).bind fun bt233 => (spec_l01Src_l03Flash.l0 k bt233.1 s0_0 bt233.2.1 bt233.2.2.1 bt233.2.2.2 bt226.1 bt226.2)))) = some (r1, r2, r3, r4, r5) := h
 clear h
 replace H := Option.bind_eq_some_iff.mp H
 obtain ⟨⟨t222, t223, t224, t225⟩, A20, H⟩ := H
 (try dsimp -simprocs only at H)
 have A2 := zA_ A20
 clear A20
 replace H := Option.bind_eq_some_iff.mp H
 obtain ⟨⟨t226, t229⟩, A30, H⟩ := H
 (try dsimp -simprocs only at H)
 have A3 := zA_ A30
 clear A30
 replace H := Option.bind_eq_some_iff.mp H
 obtain ⟨⟨t233, t234, t235, t236⟩, A40, H⟩ := H
 (try dsimp -simprocs only at H)
 have A4 := zA_ A40
 clear A40
 have H' := zA_ H
 clear H
 go_enter Try.func44, Try.ntmps44
 go_wp2_with (first | ((with_reducible refine gate_dst (N := 2) rfl ?_); refine box_event ?hg (N := 2) ?hd (cs := #[.slice none 0 0, .slice none 0 0]) (t := 26) ?hr ?_; (case hd => exact (by rfl)); (case hg => exact (by rfl)); (case hr => exact βMb); intro gb221 hg w5 hbox hb; replace HB := zA_ (below_step βnb hb); have BK221 := zA_ (hbox); have GW221 := zA_ ((by rw [hg]; exact (keep_size (w := w) (g := g) (row := none) βAb) : w.heap.size ≤ gb221)); have GE221 := zA_ ((Nat.le_trans HW0.out (by rw [hg]; exact (keep_size (w := w) (g := g) (row := none) βAb) : w.heap.size ≤ gb221) : w0.heap.size ≤ gb221)); replace HK := zA_ (KeepBut.trans βAb (KeepBut.of_below hb g none) (.inl rfl)); have NB0_221 := zA_ ((by rw [hg]; exact Nat.ne_of_lt (IsS101.lt (show IsS101 w0 _ g s0_0 s0_1 s0_2 s0_3 from by repeat (first | (with_reducible first | exact HI0.out | apply IsS101.alloc | apply IsS101.drewN | apply IsS101.drew | apply IsS101.set_1 | apply IsS101.set_2 | apply IsS101.set_3) | exact HI0.out))) : g ≠ gb221)); have NB221_0 := zA_ ((by rw [hg]; exact Nat.ne_of_gt (IsS101.lt (show IsS101 w0 _ g s0_0 s0_1 s0_2 s0_3 from by repeat (first | (with_reducible first | exact HI0.out | apply IsS101.alloc | apply IsS101.drewN | apply IsS101.drew | apply IsS101.set_1 | apply IsS101.set_2 | apply IsS101.set_3) | exact HI0.out))) : gb221 ≠ g)); replace HI0 := zA_ (IsS101.below βdb hb); clear hb hbox hg) | ((with_reducible refine gate_callee (f := 45) rfl ?_); refine goesL_ (some 7) rfl rfl Try.func45 βPb rfl #[.pointer (some ⟨g, 0, none⟩), .int .i64 7] rfl zs_ ?_; (with_reducible refine (spec_l01Src_n.calls g s0_0 s0_1 s0_2 s0_3 7 t222 t223 t224 t225 w0 _ ?side1 ?side2 A2.out).mono ?_); (case side1 => exact βra); (case side2 => exact βYa); rintro e w6 ⟨rfl, hi, hb, hk⟩; refine ⟨_, rfl, ?_⟩; replace BK221 := zA_ (KeepBut.blk hk (g' := gb221) (o := .cells #[.slice none 0 0, .slice none 0 0] 26 (0, 0)) (zb_ BK221.out) NB221_0.out (by simp)); replace HK := zA_ (KeepBut.trans βjb hk (.inl rfl)); replace HB := zA_ (hb); replace HI0 := zA_ (hi); (try clear hb); (try clear hb2); (try clear hk); (try clear hi)) | ((with_reducible refine gate_callee (f := 21) rfl ?_); refine goesL_ (some 9) rfl rfl Try.func21 βPb rfl #[.int .i64 (wrap64 (1 + t222))] rfl zs_ ?_; (with_reducible refine (spec_FlashNew.calls (wrap64 (1 + t222)) t226 t229 _ A3.out).mono ?_); rintro e w7 ⟨v227, v230, rfl, ho0, ho1, hb⟩; refine ⟨_, rfl, ?_⟩; have HO228 := zA_ (Kd.R_lower ho0 (keep_size (w := w) (g := g) (row := none) βjb)); have HO231 := zA_ (Kd.R_lower ho1 (keep_size (w := w) (g := g) (row := none) βjb)); replace BK221 := zB_ BK221.out hb; replace HK := zA_ (KeepBut.trans βjb (KeepBut.of_below hb g none) (.inl rfl)); replace HB := zA_ (below_step βYa hb); replace HI0 := zA_ (IsS101.below βra hb); (try clear hb); (try clear hb2); (try clear hk); (try clear hi); (try clear ho0); (try clear ho1)) | ((with_reducible refine gate_dst (N := 3) rfl ?_); refine box_event ?hg (N := 3) ?hd (cs := #[.slice none 0 0, .slice none 0 0]) (t := 26) ?hr ?_; (case hd => exact (by rfl)); (case hg => exact (by rfl)); (case hr => exact βMb); intro gb232 hg w8 hbox hb; replace HO228 := zR_ HO228.out hb; replace HO231 := zR_ HO231.out hb; replace HB := zA_ (below_step βYa hb); have BK232 := zA_ (hbox); have GW232 := zA_ ((by rw [hg]; exact (keep_size (w := w) (g := g) (row := none) βjb) : w.heap.size ≤ gb232)); have GE232 := zA_ ((Nat.le_trans HW0.out (by rw [hg]; exact (keep_size (w := w) (g := g) (row := none) βjb) : w.heap.size ≤ gb232) : w0.heap.size ≤ gb232)); replace HK := zA_ (KeepBut.trans βjb (KeepBut.of_below hb g none) (.inl rfl)); have NB221_232 := zA_ ((by rw [hg]; exact Nat.ne_of_lt (blk_lt (g := gb221) (o := .cells #[.slice none 0 0, .slice none 0 0] 26 (0, 0)) (zb_ BK221.out)) : gb221 ≠ gb232)); have NB232_221 := zA_ ((by rw [hg]; exact Nat.ne_of_gt (blk_lt (g := gb221) (o := .cells #[.slice none 0 0, .slice none 0 0] 26 (0, 0)) (zb_ BK221.out)) : gb232 ≠ gb221)); replace BK221 := zB_ BK221.out hb; have NB0_232 := zA_ ((by rw [hg]; exact Nat.ne_of_lt (IsS101.lt (show IsS101 w0 _ g s0_0 t223 t224 t225 from by repeat (first | (with_reducible first | exact HI0.out | apply IsS101.alloc | apply IsS101.drewN | apply IsS101.drew | apply IsS101.set_1 | apply IsS101.set_2 | apply IsS101.set_3 | refine IsS101.far ?_ NB0_221.out _) | exact HI0.out))) : g ≠ gb232)); have NB232_0 := zA_ ((by rw [hg]; exact Nat.ne_of_gt (IsS101.lt (show IsS101 w0 _ g s0_0 t223 t224 t225 from by repeat (first | (with_reducible first | exact HI0.out | apply IsS101.alloc | apply IsS101.drewN | apply IsS101.drew | apply IsS101.set_1 | apply IsS101.set_2 | apply IsS101.set_3 | refine IsS101.far ?_ NB0_221.out _) | exact HI0.out))) : gb232 ≠ g)); replace HI0 := zA_ (IsS101.below βra hb); clear hb hbox hg; obtain ⟨Ao9, co9, eo9⟩ := Kd.R_slice HO228.out; subst eo9; have hnb10 := NB232_221.out; have hnc10 := NB221_232.out; have hnb11 := NB232_0.out; have hnc11 := NB0_232.out; have hcz12_0 := cz_ BK232.out 0 (.slice none 0 0) rfl; have hcz12_1 := cz_ BK232.out 1 (.slice none 0 0) rfl; have hfz12_0 := blk_frozen BK232.out 0; have hfz12_1 := blk_frozen BK232.out 1; obtain ⟨Ao13, co13, eo13⟩ := Kd.R_slice HO231.out; subst eo13) | ((with_reducible refine gate_callee (f := 45) rfl ?_); refine goesL_ (some 11) rfl rfl Try.func45 βPb rfl #[.pointer (some ⟨g, 0, none⟩), .int .i64 9] rfl zs_ ?_; (with_reducible refine (spec_l01Src_n.calls g s0_0 t223 t224 t225 9 t233 t234 t235 t236 w0 _ ?side1 ?side2 A4.out).mono ?_); (case side1 => exact βV); (case side2 => exact βqa); rintro e w14 ⟨rfl, hi, hb, hk⟩; refine ⟨_, rfl, ?_⟩; replace BK221 := zA_ (KeepBut.blk hk (g' := gb221) (o := .cells #[.slice none 0 0, .slice none 0 0] 26 (0, 0)) (zf2_ NB221_232.out NB221_232.out BK221.out) NB221_0.out (by simp)); replace HO228 := zA_ (Kd.R_mono (Kd.R_keep (IsS101.apart (show IsS101 w0 _ g s0_0 t223 t224 t225 from by repeat (first | (with_reducible first | exact HI0.out | apply IsS101.alloc | apply IsS101.drewN | apply IsS101.drew | apply IsS101.set_1 | apply IsS101.set_2 | apply IsS101.set_3 | refine IsS101.far ?_ NB0_221.out _ | refine IsS101.far ?_ NB0_232.out _) | exact HI0.out)) (by (with_reducible repeat (first | apply Kd.R_alloc | apply Kd.R_drewN | apply Kd.R_drew)); exact (Kd.R_mono (Kd.R_far (p := ⟨gb232, 1, none⟩) (Kd.R_far (p := ⟨gb232, 0, none⟩) (Kd.R_types HO228.out BK232.out (by decide)) (fun _ hk => hk.2) (.slice Ao9 t226.length co9)) (fun _ hk => hk.2) (.slice Ao13 t229.length co13)) (fun _ h_ => h_.1))) (by decide)) hk (fun _ h => h.2)) (fun _ h => h.1)); replace HO231 := zA_ (Kd.R_mono (Kd.R_keep (IsS101.apart (show IsS101 w0 _ g s0_0 t223 t224 t225 from by repeat (first | (with_reducible first | exact HI0.out | apply IsS101.alloc | apply IsS101.drewN | apply IsS101.drew | apply IsS101.set_1 | apply IsS101.set_2 | apply IsS101.set_3 | refine IsS101.far ?_ NB0_221.out _ | refine IsS101.far ?_ NB0_232.out _) | exact HI0.out)) (by (with_reducible repeat (first | apply Kd.R_alloc | apply Kd.R_drewN | apply Kd.R_drew)); exact (Kd.R_mono (Kd.R_far (p := ⟨gb232, 1, none⟩) (Kd.R_far (p := ⟨gb232, 0, none⟩) (Kd.R_types HO231.out BK232.out (by decide)) (fun _ hk => hk.2) (.slice Ao9 t226.length co9)) (fun _ hk => hk.2) (.slice Ao13 t229.length co13)) (fun _ h_ => h_.1))) (by decide)) hk (fun _ h => h.2)) (fun _ h => h.1)); replace BK232 := zA_ (KeepBut.blk hk (g' := gb232) (o := .cells #[.slice Ao9 t226.length co9, .slice Ao13 t229.length co13] 26 (0, 0)) (by (with_reducible repeat (first | refine blk_drewN ?_ _ | refine blk_drew ?_ | refine blk_alloc ?_ _)); refine blk_put (cs := #[.slice Ao9 t226.length co9, .slice none 0 0]) ?_ 1 _ rfl; (with_reducible repeat (first | refine blk_drewN ?_ _ | refine blk_drew ?_ | refine blk_alloc ?_ _)); refine blk_put (cs := #[.slice none 0 0, .slice none 0 0]) ?_ 0 _ rfl; (with_reducible repeat (first | refine blk_drewN ?_ _ | refine blk_drew ?_ | refine blk_alloc ?_ _)); exact BK232.out) NB232_0.out (by simp)); replace HK := zA_ (KeepBut.trans βIa hk (.inl rfl)); replace HB := zA_ (hb); replace HI0 := zA_ (hi); (try clear hb); (try clear hb2); (try clear hk); (try clear hi)))
 go_loopg [4] k (fun kq v4 w' => ∃ (x4_1 : Int) (x1001_1 : Int) (x1002_1 : Int) (x1003_1 : Int) (x233000_1 : List ByteArray) (x233001_1 : List (S83)) (u233000 : Value) (u233001 : Value), v4 = .int .i64 x4_1 ∧ Aside0 (spec_l01Src_l03Flash.l0 kq x4_1 s0_0 x1001_1 x1002_1 x1003_1 x233000_1 x233001_1 = some (r1, r2, r3, r4, r5)) ∧ Aside0 (kq ≤ k) ∧ Aside0 (Kd.R Kd.string 9 w' w.heap.size (fun _ => True) u233000 x233000_1) ∧ Aside0 (Kd.R k83 83 w' w.heap.size (fun _ => True) u233001 x233001_1) ∧ Aside0 (w'.heap[gb221]? = some (.cells #[(.slice none 0 0), (.slice none 0 0)] 26 (0, 0))) ∧ Aside0 (w'.heap[gb232]? = some (.cells #[u233000, u233001] 26 (0, 0))) ∧ Aside0 (IsS101 w0 w' g s0_0 x1001_1 x1002_1 x1003_1) ∧ Aside0 (KeepBut w w' g none) ∧ Aside0 (Below w0.heap.size w0 w'))
 case atStart => exact ⟨(t233), (t234), (t235), (t236), (t226), (t229), (.slice Ao9 t226.length co9), (.slice Ao13 t229.length co13), βLb, H', ⟨Nat.le_refl _⟩, ⟨zr_ HO228.out⟩, ⟨zr_ HO231.out⟩, ⟨zb_ BK221.out⟩, ⟨zb_ BK232.out⟩, ⟨βV⟩, ⟨βIa⟩, ⟨βqa⟩⟩
 case round =>
  clear H'
  try clear c1
  try clear c2
  try clear p2
  try clear c4
  try clear p6
  try clear c10
  try clear c11
  try clear hcz12_0
  try clear hcz12_1
  try clear hfz12_0
  try clear hfz12_1
  obtain ⟨x4_1, x1001_1, x1002_1, x1003_1, x233000_1, x233001_1, u233000, u233001, rfl, HA, HK1, HO_233000, HO_233001, BK221, BK232, HI0, HK, HB⟩ := hrel
  cases gk with
  | zero => exact absurd HA.out (by simp [spec_l01Src_l03Flash.l0])
  | succ k1 =>
   have H := HA.out
   clear HA
   simp only [spec_l01Src_l03Flash.l0] at H
   by_cases c15 : x4_1 > 0
   ·
    rw [if_pos c15] at H
    have c15b0 : decide (0 < x4_1) = true := decide_eq_true c15
    clear c15
    have HC16 := zA_ H
    clear H
    go_upto_block 1 with (fail)
    go_cut [] (fun wc => ∃ (kq : Nat) (x1001_15 : Int) (x1002_15 : Int) (x1003_15 : Int) (x233000_15 : List ByteArray) (x233001_15 : List (S83)) (u233000 : Value) (u233001 : Value), Aside0 (spec_l01Src_l03Flash.j2 kq x4_1 s0_0 x1001_15 x1002_15 x1003_15 x233000_15 x233001_15 = some (r1, r2, r3, r4, r5)) ∧ Aside0 (kq ≤ k1) ∧ Aside0 (Kd.R Kd.string 9 wc w.heap.size (fun _ => True) u233000 x233000_15) ∧ Aside0 (Kd.R k83 83 wc w.heap.size (fun _ => True) u233001 x233001_15) ∧ Aside0 (wc.heap[gb221]? = some (.cells #[(.slice none 0 0), (.slice none 0 0)] 26 (0, 0))) ∧ Aside0 (wc.heap[gb232]? = some (.cells #[u233000, u233001] 26 (0, 0))) ∧ Aside0 (IsS101 w0 wc g s0_0 x1001_15 x1002_15 x1003_15) ∧ Aside0 (KeepBut w wc g none) ∧ Aside0 (Below w0.heap.size w0 wc))
    case first =>
     have H := HC16.out
     clear HC16
     replace H := Option.bind_eq_some_iff.mp H
     obtain ⟨⟨t237, t238, t239, t240⟩, A170, H⟩ := H
     (try dsimp -simprocs only at H)
     have A17 := zA_ A170
     clear A170
     replace H := Option.bind_eq_some_iff.mp H
     obtain ⟨⟨t241, t242, t243, t244⟩, A180, H⟩ := H
     (try dsimp -simprocs only at H)
     have A18 := zA_ A180
     clear A180
     replace H := Option.bind_eq_some_iff.mp H
     obtain ⟨⟨t245, t246, t247, t248⟩, A190, H⟩ := H
     (try dsimp -simprocs only at H)
     have A19 := zA_ A190
     clear A190
     replace H := Option.bind_eq_some_iff.mp H
     obtain ⟨⟨t249, t252, t255, t256⟩, A200, H⟩ := H
     (try dsimp -simprocs only at H)
     have A20 := zA_ A200
     clear A200
     replace H := Option.bind_eq_some_iff.mp H
     obtain ⟨⟨t258, t259, t260, t261⟩, A210, H⟩ := H
     (try dsimp -simprocs only at H)
     have A21 := zA_ A210
     clear A210
     have HC22 := zA_ H
     clear H
     obtain ⟨Ao23, co23, eo23⟩ := Kd.R_slice HO_233000.out
     subst eo23
     obtain ⟨Ao24, co24, eo24⟩ := Kd.R_slice HO_233001.out
     subst eo24
     try go_wp2
     replace HO_233000 := zA_ (Kd.R_drew HO_233000.out)
     replace HO_233001 := zA_ (Kd.R_drew HO_233001.out)
     replace BK221 := zA_ (blk_drew BK221.out)
     replace BK232 := zA_ (blk_drew BK232.out)
     replace HI0 := zA_ (IsS101.drew HI0.out)
     replace HK := zA_ (keep_drew HK.out)
     replace HB := zA_ (below_drew1 HB.out)
     refine start_ (n := 10) (S := fun w' => w'.cell? ⟨gb232, 0, none⟩ = some (.slice Ao23 x233000_1.length co23) ∧ w'.cell? ⟨gb232, 1, none⟩ = some (.slice Ao24 x233001_1.length co24)) (ds := []) (mr_ [0, 10]) βPb rfl rfl ⟨cy_ BK232.out 0, cy_ BK232.out 1⟩ (fun hHeld => ?_); refine with_tabW spec_l01Src_l03Flash.tab5 spec_l01Src_l03Flash.bits5 (fun HT_ HW_ => ?_)
     generalize wr.drew = w25 at HO_233000 HO_233001 BK221 BK232 HI0 HK HB hHeld ⊢
     refine pure_ (i := 1) (N := some 17) (v := ?_) (a' := ?_) (mr_ [0, 1, 1, 8]) rfl rfl (any_of HT_.out βPb) (fun _ _ _ h => h) (Or.inl ⟨(by rfl), ?_⟩) ?_ ?_
     rotate_left; exact pv_; rotate_left; exact pp_
     refine pure_ (i := 3) (N := some 19) (v := ?_) (a' := ?_) (mr_ [0, 1, 1, 1, 1, 6]) rfl rfl (any_of HT_.out βPb) (fun _ _ _ h => h) (Or.inl ⟨(by rfl), ?_⟩) ?_ ?_
     rotate_left; exact pv_; rotate_left; exact pp_
     refine pure_ (i := 4) (N := some 20) (v := ?_) (a' := ?_) (mr_ [0, 1, 1, 1, 2, 5]) rfl rfl (any_of HT_.out βPb) (fun _ _ _ h => h) (Or.inl ⟨(by rfl), ?_⟩) ?_ ?_
     rotate_left; exact pv_; rotate_left; exact pp_
     refine take_ (i := 0) (N := some 16) (v := ?_) (a' := ?_) (mr_ [2, 1, 2, 5]) rfl rfl (take_ofW HT_.out HW_.out βPb) (fun _ _ _ h => h) (Or.inl ⟨(by rfl), ?_⟩) hHeld ?_ ?_
     rotate_left
     ·
      rintro w' ⟨s0, s1⟩
      go_simp
      with_reducible rfl
     rotate_left
     exact pp_
     refine join_ (σ := Value × Value × Nat) 1 (mr_ [9, 1]) (fun s_ => [(18, .int .i64 t237), (21, .int .i64 t241), (22, .string t245), (23, .agg #[s_.1, s_.2.1, .string t255, .int .i64 t256]), (5, .pointer (some ⟨s_.2.2, 0, none⟩))]) (fun s_ w' => (w'.cell? ⟨gb232, 0, none⟩ = some (.slice Ao23 x233000_1.length co23) ∧ w'.cell? ⟨gb232, 1, none⟩ = some (.slice Ao24 x233001_1.length co24)) ∧ (Kd.R Kd.string 9 w' w.heap.size (fun k_ => some k_ ≠ (.slice Ao23 x233000_1.length co23 : Value).ownBlock) s_.1 t249) ∧ (Kd.R k83 83 w' w.heap.size (fun k_ => some k_ ≠ (.slice Ao24 x233001_1.length co24 : Value).ownBlock) s_.2.1 t252) ∧ (Kd.R Kd.string 9 w' w.heap.size (fun k_ => some k_ ≠ (s_.1 : Value).ownBlock) (.slice Ao23 x233000_1.length co23) x233000_1) ∧ (Kd.R k83 83 w' w.heap.size (fun k_ => some k_ ≠ (s_.2.1 : Value).ownBlock) (.slice Ao24 x233001_1.length co24) x233001_1) ∧ (w'.heap[gb221]? = some (.cells #[.slice none 0 0, .slice none 0 0] 26 (0, 0))) ∧ (w'.heap[gb232]? = some (.cells #[.slice Ao23 x233000_1.length co23, .slice Ao24 x233001_1.length co24] 26 (0, 0))) ∧ (w'.heap[s_.2.2]? = some (.cells #[.slice none 0 0, .slice none 0 0, .string (⟨#[]⟩ : ByteArray), .int .i64 0] 30 (0, 0))) ∧ (w.heap.size ≤ s_.2.2) ∧ (w0.heap.size ≤ s_.2.2) ∧ (g ≠ s_.2.2) ∧ (s_.2.2 ≠ g) ∧ (gb221 ≠ s_.2.2) ∧ (s_.2.2 ≠ gb221) ∧ (gb232 ≠ s_.2.2) ∧ (s_.2.2 ≠ gb232) ∧ (IsS101 w0 w' g s0_0 t246 t247 t248) ∧ (KeepBut w w' g none) ∧ (Below w0.heap.size w0 w')) ?_ ?_
     rotate_left
     ·
      intro hJ2_5_6_7_8
      refine join_ (σ := Value × Value) 2 (mr_ [8, 2]) (fun s_ => [(18, .int .i64 t237), (21, .int .i64 t241), (22, .string t245), (23, .agg #[s_.1, s_.2, .string t255, .int .i64 t256])]) (fun s_ w' => (w'.cell? ⟨gb232, 0, none⟩ = some (.slice Ao23 x233000_1.length co23) ∧ w'.cell? ⟨gb232, 1, none⟩ = some (.slice Ao24 x233001_1.length co24)) ∧ (Kd.R Kd.string 9 w' w.heap.size (fun k_ => some k_ ≠ (.slice Ao23 x233000_1.length co23 : Value).ownBlock) s_.1 t249) ∧ (Kd.R k83 83 w' w.heap.size (fun k_ => some k_ ≠ (.slice Ao24 x233001_1.length co24 : Value).ownBlock) s_.2 t252) ∧ (Kd.R Kd.string 9 w' w.heap.size (fun k_ => some k_ ≠ (s_.1 : Value).ownBlock) (.slice Ao23 x233000_1.length co23) x233000_1) ∧ (Kd.R k83 83 w' w.heap.size (fun k_ => some k_ ≠ (s_.2 : Value).ownBlock) (.slice Ao24 x233001_1.length co24) x233001_1) ∧ (w'.heap[gb221]? = some (.cells #[.slice none 0 0, .slice none 0 0] 26 (0, 0))) ∧ (w'.heap[gb232]? = some (.cells #[.slice Ao23 x233000_1.length co23, .slice Ao24 x233001_1.length co24] 26 (0, 0))) ∧ (IsS101 w0 w' g s0_0 t246 t247 t248) ∧ (KeepBut w w' g none) ∧ (Below w0.heap.size w0 w')) ?_ ?_
      rotate_left
      ·
       intro hJ2_5_6_7
       refine join_ (σ := Nat) 2 (mr_ [7, 1, 1, 1]) (fun s_ => [(18, .int .i64 t237), (21, .int .i64 t241), (22, .string t245), (5, .pointer (some ⟨s_, 0, none⟩))]) (fun s_ w' => (w'.cell? ⟨gb232, 0, none⟩ = some (.slice Ao23 x233000_1.length co23) ∧ w'.cell? ⟨gb232, 1, none⟩ = some (.slice Ao24 x233001_1.length co24)) ∧ (Kd.R Kd.string 9 w' w.heap.size (fun _ => True) (.slice Ao23 x233000_1.length co23) x233000_1) ∧ (Kd.R k83 83 w' w.heap.size (fun _ => True) (.slice Ao24 x233001_1.length co24) x233001_1) ∧ (w'.heap[gb221]? = some (.cells #[.slice none 0 0, .slice none 0 0] 26 (0, 0))) ∧ (w'.heap[gb232]? = some (.cells #[.slice Ao23 x233000_1.length co23, .slice Ao24 x233001_1.length co24] 26 (0, 0))) ∧ (w'.heap[s_]? = some (.cells #[.slice none 0 0, .slice none 0 0, .string (⟨#[]⟩ : ByteArray), .int .i64 0] 30 (0, 0))) ∧ (w.heap.size ≤ s_) ∧ (w0.heap.size ≤ s_) ∧ (g ≠ s_) ∧ (s_ ≠ g) ∧ (gb221 ≠ s_) ∧ (s_ ≠ gb221) ∧ (gb232 ≠ s_) ∧ (s_ ≠ gb232) ∧ (IsS101 w0 w' g s0_0 t246 t247 t248) ∧ (KeepBut w w' g none) ∧ (Below w0.heap.size w0 w')) ?_ ?_
       rotate_left
       ·
        intro hJ2_5_6_8
        refine join_ (σ := Unit) 3 (mr_ [7, 3]) (fun s_ => [(18, .int .i64 t237), (21, .int .i64 t241), (22, .string t245)]) (fun s_ w' => (w'.cell? ⟨gb232, 0, none⟩ = some (.slice Ao23 x233000_1.length co23) ∧ w'.cell? ⟨gb232, 1, none⟩ = some (.slice Ao24 x233001_1.length co24)) ∧ (Kd.R Kd.string 9 w' w.heap.size (fun _ => True) (.slice Ao23 x233000_1.length co23) x233000_1) ∧ (Kd.R k83 83 w' w.heap.size (fun _ => True) (.slice Ao24 x233001_1.length co24) x233001_1) ∧ (w'.heap[gb221]? = some (.cells #[.slice none 0 0, .slice none 0 0] 26 (0, 0))) ∧ (w'.heap[gb232]? = some (.cells #[.slice Ao23 x233000_1.length co23, .slice Ao24 x233001_1.length co24] 26 (0, 0))) ∧ (IsS101 w0 w' g s0_0 t246 t247 t248) ∧ (KeepBut w w' g none) ∧ (Below w0.heap.size w0 w')) ?_ ?_
        rotate_left
        ·
         intro hJ2_5_6
         refine join_ (σ := Nat) 3 (mr_ [6, 2, 1, 1]) (fun s_ => [(18, .int .i64 t237), (21, .int .i64 t241), (5, .pointer (some ⟨s_, 0, none⟩))]) (fun s_ w' => (w'.cell? ⟨gb232, 0, none⟩ = some (.slice Ao23 x233000_1.length co23) ∧ w'.cell? ⟨gb232, 1, none⟩ = some (.slice Ao24 x233001_1.length co24)) ∧ (Kd.R Kd.string 9 w' w.heap.size (fun _ => True) (.slice Ao23 x233000_1.length co23) x233000_1) ∧ (Kd.R k83 83 w' w.heap.size (fun _ => True) (.slice Ao24 x233001_1.length co24) x233001_1) ∧ (w'.heap[gb221]? = some (.cells #[.slice none 0 0, .slice none 0 0] 26 (0, 0))) ∧ (w'.heap[gb232]? = some (.cells #[.slice Ao23 x233000_1.length co23, .slice Ao24 x233001_1.length co24] 26 (0, 0))) ∧ (w'.heap[s_]? = some (.cells #[.slice none 0 0, .slice none 0 0, .string (⟨#[]⟩ : ByteArray), .int .i64 0] 30 (0, 0))) ∧ (w.heap.size ≤ s_) ∧ (w0.heap.size ≤ s_) ∧ (g ≠ s_) ∧ (s_ ≠ g) ∧ (gb221 ≠ s_) ∧ (s_ ≠ gb221) ∧ (gb232 ≠ s_) ∧ (s_ ≠ gb232) ∧ (IsS101 w0 w' g s0_0 t242 t243 t244) ∧ (KeepBut w w' g none) ∧ (Below w0.heap.size w0 w')) ?_ ?_
         rotate_left
         ·
          intro hJ2_5_8
          refine join_ (σ := Unit) 4 (mr_ [6, 4]) (fun s_ => [(18, .int .i64 t237), (21, .int .i64 t241)]) (fun s_ w' => (w'.cell? ⟨gb232, 0, none⟩ = some (.slice Ao23 x233000_1.length co23) ∧ w'.cell? ⟨gb232, 1, none⟩ = some (.slice Ao24 x233001_1.length co24)) ∧ (Kd.R Kd.string 9 w' w.heap.size (fun _ => True) (.slice Ao23 x233000_1.length co23) x233000_1) ∧ (Kd.R k83 83 w' w.heap.size (fun _ => True) (.slice Ao24 x233001_1.length co24) x233001_1) ∧ (w'.heap[gb221]? = some (.cells #[.slice none 0 0, .slice none 0 0] 26 (0, 0))) ∧ (w'.heap[gb232]? = some (.cells #[.slice Ao23 x233000_1.length co23, .slice Ao24 x233001_1.length co24] 26 (0, 0))) ∧ (IsS101 w0 w' g s0_0 t242 t243 t244) ∧ (KeepBut w w' g none) ∧ (Below w0.heap.size w0 w')) ?_ ?_
          rotate_left
          ·
           intro hJ2_5
           refine join_ (σ := Nat) 4 (mr_ [5, 3, 1, 1]) (fun s_ => [(18, .int .i64 t237), (5, .pointer (some ⟨s_, 0, none⟩))]) (fun s_ w' => (w'.cell? ⟨gb232, 0, none⟩ = some (.slice Ao23 x233000_1.length co23) ∧ w'.cell? ⟨gb232, 1, none⟩ = some (.slice Ao24 x233001_1.length co24)) ∧ (Kd.R Kd.string 9 w' w.heap.size (fun _ => True) (.slice Ao23 x233000_1.length co23) x233000_1) ∧ (Kd.R k83 83 w' w.heap.size (fun _ => True) (.slice Ao24 x233001_1.length co24) x233001_1) ∧ (w'.heap[gb221]? = some (.cells #[.slice none 0 0, .slice none 0 0] 26 (0, 0))) ∧ (w'.heap[gb232]? = some (.cells #[.slice Ao23 x233000_1.length co23, .slice Ao24 x233001_1.length co24] 26 (0, 0))) ∧ (w'.heap[s_]? = some (.cells #[.slice none 0 0, .slice none 0 0, .string (⟨#[]⟩ : ByteArray), .int .i64 0] 30 (0, 0))) ∧ (w.heap.size ≤ s_) ∧ (w0.heap.size ≤ s_) ∧ (g ≠ s_) ∧ (s_ ≠ g) ∧ (gb221 ≠ s_) ∧ (s_ ≠ gb221) ∧ (gb232 ≠ s_) ∧ (s_ ≠ gb232) ∧ (IsS101 w0 w' g s0_0 t238 t239 t240) ∧ (KeepBut w w' g none) ∧ (Below w0.heap.size w0 w')) ?_ ?_
           rotate_left
           ·
            intro hJ2_8
            refine join_ (σ := Unit) 5 (mr_ [5, 5]) (fun s_ => [(18, .int .i64 t237)]) (fun s_ w' => (w'.cell? ⟨gb232, 0, none⟩ = some (.slice Ao23 x233000_1.length co23) ∧ w'.cell? ⟨gb232, 1, none⟩ = some (.slice Ao24 x233001_1.length co24)) ∧ (Kd.R Kd.string 9 w' w.heap.size (fun _ => True) (.slice Ao23 x233000_1.length co23) x233000_1) ∧ (Kd.R k83 83 w' w.heap.size (fun _ => True) (.slice Ao24 x233001_1.length co24) x233001_1) ∧ (w'.heap[gb221]? = some (.cells #[.slice none 0 0, .slice none 0 0] 26 (0, 0))) ∧ (w'.heap[gb232]? = some (.cells #[.slice Ao23 x233000_1.length co23, .slice Ao24 x233001_1.length co24] 26 (0, 0))) ∧ (IsS101 w0 w' g s0_0 t238 t239 t240) ∧ (KeepBut w w' g none) ∧ (Below w0.heap.size w0 w')) ?_ ?_
            rotate_left
            ·
             intro hJ2
             refine join_ (σ := Nat) 5 (mr_ [2, 1, 2, 3, 1, 1]) (fun s_ => [(5, .pointer (some ⟨s_, 0, none⟩))]) (fun s_ w' => (w'.cell? ⟨gb232, 0, none⟩ = some (.slice Ao23 x233000_1.length co23) ∧ w'.cell? ⟨gb232, 1, none⟩ = some (.slice Ao24 x233001_1.length co24)) ∧ (Kd.R Kd.string 9 w' w.heap.size (fun _ => True) (.slice Ao23 x233000_1.length co23) x233000_1) ∧ (Kd.R k83 83 w' w.heap.size (fun _ => True) (.slice Ao24 x233001_1.length co24) x233001_1) ∧ (w'.heap[gb221]? = some (.cells #[.slice none 0 0, .slice none 0 0] 26 (0, 0))) ∧ (w'.heap[gb232]? = some (.cells #[.slice Ao23 x233000_1.length co23, .slice Ao24 x233001_1.length co24] 26 (0, 0))) ∧ (w'.heap[s_]? = some (.cells #[.slice none 0 0, .slice none 0 0, .string (⟨#[]⟩ : ByteArray), .int .i64 0] 30 (0, 0))) ∧ (w.heap.size ≤ s_) ∧ (w0.heap.size ≤ s_) ∧ (g ≠ s_) ∧ (s_ ≠ g) ∧ (gb221 ≠ s_) ∧ (s_ ≠ gb221) ∧ (gb232 ≠ s_) ∧ (s_ ≠ gb232) ∧ (IsS101 w0 w' g s0_0 x1001_1 x1002_1 x1003_1) ∧ (KeepBut w w' g none) ∧ (Below w0.heap.size w0 w')) ?_ ?_
             rotate_left
             ·
              intro hJ8
              refine two_ (i := 2) (j := 8) (Ni := some 18) (Nj := some 5) (mr_ [5, 5]) (mr_ [2, 1, 2, 3, 1, 1]) rfl rfl rfl rfl (two_of HT_.out βPb) (by decide) (by decide) (fun K hK => ?_) (fun K hK => ?_)
              ·
               skip
               refine goes_ Try.func45 βPb rfl #[.pointer (some ⟨g, 0, none⟩), .int .i64 7] (by rfl) rfl rfl zs_ ?_
               with_reducible refine (spec_l01Src_n.calls g s0_0 x1001_1 x1002_1 x1003_1 7 t237 t238 t239 t240 w0 _ ?side1 ?side2 A17.out).mono ?_
               (case side1 => exact βV)
               (case side2 => exact βqa)
               rintro e w26 ⟨rfl, hi, hb, hk⟩
               refine ⟨_, rfl, ?_⟩
               replace HO_233000 := zA_ (Kd.R_mono (Kd.R_keep (IsS101.apart (show IsS101 w0 _ g s0_0 x1001_1 x1002_1 x1003_1 from by repeat (first | (with_reducible first | exact HI0.out | apply IsS101.alloc | apply IsS101.drewN | apply IsS101.drew | apply IsS101.set_1 | apply IsS101.set_2 | apply IsS101.set_3 | refine IsS101.far ?_ NB0_221.out _ | refine IsS101.far ?_ NB0_232.out _) | exact HI0.out)) (zr_ HO_233000.out) (by decide)) hk (fun _ h => h.2)) (fun _ h => h.1))
               replace HO_233001 := zA_ (Kd.R_mono (Kd.R_keep (IsS101.apart (show IsS101 w0 _ g s0_0 x1001_1 x1002_1 x1003_1 from by repeat (first | (with_reducible first | exact HI0.out | apply IsS101.alloc | apply IsS101.drewN | apply IsS101.drew | apply IsS101.set_1 | apply IsS101.set_2 | apply IsS101.set_3 | refine IsS101.far ?_ NB0_221.out _ | refine IsS101.far ?_ NB0_232.out _) | exact HI0.out)) (zr_ HO_233001.out) (by decide)) hk (fun _ h => h.2)) (fun _ h => h.1))
               replace BK221 := zA_ (KeepBut.blk hk (g' := gb221) (o := .cells #[.slice none 0 0, .slice none 0 0] 26 (0, 0)) (zb_ BK221.out) NB221_0.out (by simp))
               replace BK232 := zA_ (KeepBut.blk hk (g' := gb232) (o := .cells #[.slice Ao23 x233000_1.length co23, .slice Ao24 x233001_1.length co24] 26 (0, 0)) (zb_ BK232.out) NB232_0.out (by simp))
               replace HK := zA_ (KeepBut.trans βIa hk (.inl rfl))
               replace HB := zA_ (hb)
               replace HI0 := zA_ (hi)
               (try clear hb)
               (try clear hb2)
               (try clear hk)
               (try clear hi)
               refine hK.out _ _ ⟨cy_ BK232.out 0, cy_ BK232.out 1⟩ (fun hHeld => ?_)
               clear hK K
               refine norm_ (a' := ?_) ?_ ?_
               rotate_left
               ·
                show Act.put _ (some 18) _ = _
                simp only [Act.put, List.setIfInBounds_toArray, List.set_cons_zero, List.set_cons_succ, i64_w, i32_w]
                rfl
               exact norm_ βHa (hJ2 () _ ⟨hHeld, (zr_ HO_233000.out), (zr_ HO_233001.out), (zb_ BK221.out), (zb_ BK232.out), βV, βIa, βqa⟩)
              ·
               skip
               refine box_step ?hg (N := 5) ?hd (cs := #[.slice none 0 0, .slice none 0 0, .string (⟨#[]⟩ : ByteArray), .int .i64 0]) (t := 30) ?hr ?_; (case hd => exact (by rfl)); (case hg => exact (by rfl)); (case hr => exact βMb)
               intro gb257 hg w26 hbox hb
               replace HO_233000 := zR_ HO_233000.out hb
               replace HO_233001 := zR_ HO_233001.out hb
               replace HB := zA_ (below_step βqa hb)
               have BK257 := zA_ (hbox)
               have GW257 := zA_ ((by rw [hg]; exact (keep_size (w := w) (g := g) (row := none) βIa) : w.heap.size ≤ gb257))
               have GE257 := zA_ ((Nat.le_trans HW0.out (by rw [hg]; exact (keep_size (w := w) (g := g) (row := none) βIa) : w.heap.size ≤ gb257) : w0.heap.size ≤ gb257))
               replace HK := zA_ (KeepBut.trans βIa (KeepBut.of_below hb g none) (.inl rfl))
               have NB221_257 := zA_ ((by rw [hg]; exact Nat.ne_of_lt (blk_lt (g := gb221) (o := .cells #[.slice none 0 0, .slice none 0 0] 26 (0, 0)) (zb_ BK221.out)) : gb221 ≠ gb257))
               have NB257_221 := zA_ ((by rw [hg]; exact Nat.ne_of_gt (blk_lt (g := gb221) (o := .cells #[.slice none 0 0, .slice none 0 0] 26 (0, 0)) (zb_ BK221.out)) : gb257 ≠ gb221))
               replace BK221 := zB_ BK221.out hb
               have NB232_257 := zA_ ((by rw [hg]; exact Nat.ne_of_lt (blk_lt (g := gb232) (o := .cells #[.slice Ao23 x233000_1.length co23, .slice Ao24 x233001_1.length co24] 26 (0, 0)) (zb_ BK232.out)) : gb232 ≠ gb257))
               have NB257_232 := zA_ ((by rw [hg]; exact Nat.ne_of_gt (blk_lt (g := gb232) (o := .cells #[.slice Ao23 x233000_1.length co23, .slice Ao24 x233001_1.length co24] 26 (0, 0)) (zb_ BK232.out)) : gb257 ≠ gb232))
               replace BK232 := zB_ BK232.out hb
               have NB0_257 := zA_ ((by rw [hg]; exact Nat.ne_of_lt (IsS101.lt (show IsS101 w0 _ g s0_0 x1001_1 x1002_1 x1003_1 from by repeat (first | (with_reducible first | exact HI0.out | apply IsS101.alloc | apply IsS101.drewN | apply IsS101.drew | apply IsS101.set_1 | apply IsS101.set_2 | apply IsS101.set_3 | refine IsS101.far ?_ NB0_221.out _ | refine IsS101.far ?_ NB0_232.out _) | exact HI0.out))) : g ≠ gb257))
               have NB257_0 := zA_ ((by rw [hg]; exact Nat.ne_of_gt (IsS101.lt (show IsS101 w0 _ g s0_0 x1001_1 x1002_1 x1003_1 from by repeat (first | (with_reducible first | exact HI0.out | apply IsS101.alloc | apply IsS101.drewN | apply IsS101.drew | apply IsS101.set_1 | apply IsS101.set_2 | apply IsS101.set_3 | refine IsS101.far ?_ NB0_221.out _ | refine IsS101.far ?_ NB0_232.out _) | exact HI0.out))) : gb257 ≠ g))
               replace HI0 := zA_ (IsS101.below βV hb)
               clear hb hbox hg
               refine hK.out _ _ ⟨cy_ BK232.out 0, cy_ BK232.out 1⟩ (fun hHeld => ?_)
               clear hK K
               refine norm_ (a' := ?_) ?_ ?_
               rotate_left
               ·
                show Act.put _ (some 5) _ = _
                simp only [Act.put, List.setIfInBounds_toArray, List.set_cons_zero, List.set_cons_succ, i64_w, i32_w]
                rfl
               exact norm_ βHa (hJ8 (gb257) _ ⟨hHeld, (zr_ HO_233000.out), (zr_ HO_233001.out), (zb_ BK221.out), (zb_ BK232.out), (zb_ BK257.out), GW257.out, GE257.out, NB0_257.out, NB257_0.out, NB221_257.out, NB257_221.out, NB232_257.out, NB257_232.out, βR, βja, βW⟩)
             ·
              skip
              rintro gb257 w27 ⟨hS_, h0_, h1_, h2_, h3_, h4_, h5_, h6_, h7_, h8_, h9_, h10_, h11_, h12_, h13_, h14_, h15_⟩
              replace HO_233000 : Aside0 (Kd.R Kd.string 9 w27 w.heap.size (fun _ => True) (.slice Ao23 x233000_1.length co23) x233000_1) := ⟨h0_⟩
              replace HO_233001 : Aside0 (Kd.R k83 83 w27 w.heap.size (fun _ => True) (.slice Ao24 x233001_1.length co24) x233001_1) := ⟨h1_⟩
              replace BK221 : Aside0 (w27.heap[gb221]? = some (.cells #[.slice none 0 0, .slice none 0 0] 26 (0, 0))) := ⟨h2_⟩
              replace BK232 : Aside0 (w27.heap[gb232]? = some (.cells #[.slice Ao23 x233000_1.length co23, .slice Ao24 x233001_1.length co24] 26 (0, 0))) := ⟨h3_⟩
              have BK257 : Aside0 (w27.heap[gb257]? = some (.cells #[.slice none 0 0, .slice none 0 0, .string (⟨#[]⟩ : ByteArray), .int .i64 0] 30 (0, 0))) := ⟨h4_⟩
              have GW257 : Aside0 (w.heap.size ≤ gb257) := ⟨h5_⟩
              have GE257 : Aside0 (w0.heap.size ≤ gb257) := ⟨h6_⟩
              have NB0_257 : Aside0 (g ≠ gb257) := ⟨h7_⟩
              have NB257_0 : Aside0 (gb257 ≠ g) := ⟨h8_⟩
              have NB221_257 : Aside0 (gb221 ≠ gb257) := ⟨h9_⟩
              have NB257_221 : Aside0 (gb257 ≠ gb221) := ⟨h10_⟩
              have NB232_257 : Aside0 (gb232 ≠ gb257) := ⟨h11_⟩
              have NB257_232 : Aside0 (gb257 ≠ gb232) := ⟨h12_⟩
              replace HI0 : Aside0 (IsS101 w0 w27 g s0_0 x1001_1 x1002_1 x1003_1) := ⟨h13_⟩
              replace HK : Aside0 (KeepBut w w27 g none) := ⟨h14_⟩
              replace HB : Aside0 (Below w0.heap.size w0 w27) := ⟨h15_⟩
              clear h0_ h1_ h2_ h3_ h4_ h5_ h6_ h7_ h8_ h9_ h10_ h11_ h12_ h13_ h14_ h15_
              have hHeld : w27.cell? ⟨gb232, 0, none⟩ = some (.slice Ao23 x233000_1.length co23) ∧ w27.cell? ⟨gb232, 1, none⟩ = some (.slice Ao24 x233001_1.length co24) := hS_
              refine norm_ (a' := ?_) ?_ ?_
              rotate_left
              ·
               simp only [putAll, Act.put, List.setIfInBounds_toArray, List.set_cons_zero, List.set_cons_succ]
               rfl
              refine one_ (i := 2) (N := some 18) (mr_ [5, 3, 1, 1]) rfl rfl (one_of HT_.out βPb) (by decide) (fun K hK => ?_)
              refine goes_ Try.func45 βPb rfl #[.pointer (some ⟨g, 0, none⟩), .int .i64 7] (by rfl) rfl rfl zs_ ?_
              with_reducible refine (spec_l01Src_n.calls g s0_0 x1001_1 x1002_1 x1003_1 7 t237 t238 t239 t240 w0 _ ?side1 ?side2 A17.out).mono ?_
              (case side1 => exact βR)
              (case side2 => exact βW)
              rintro e w28 ⟨rfl, hi, hb, hk⟩
              refine ⟨_, rfl, ?_⟩
              replace HO_233000 := zA_ (Kd.R_mono (Kd.R_keep (IsS101.apart (show IsS101 w0 _ g s0_0 x1001_1 x1002_1 x1003_1 from by repeat (first | (with_reducible first | exact HI0.out | apply IsS101.alloc | apply IsS101.drewN | apply IsS101.drew | apply IsS101.set_1 | apply IsS101.set_2 | apply IsS101.set_3 | refine IsS101.far ?_ NB0_221.out _ | refine IsS101.far ?_ NB0_232.out _ | refine IsS101.far ?_ NB0_257.out _) | exact HI0.out)) (zr_ HO_233000.out) (by decide)) hk (fun _ h => h.2)) (fun _ h => h.1))
              replace HO_233001 := zA_ (Kd.R_mono (Kd.R_keep (IsS101.apart (show IsS101 w0 _ g s0_0 x1001_1 x1002_1 x1003_1 from by repeat (first | (with_reducible first | exact HI0.out | apply IsS101.alloc | apply IsS101.drewN | apply IsS101.drew | apply IsS101.set_1 | apply IsS101.set_2 | apply IsS101.set_3 | refine IsS101.far ?_ NB0_221.out _ | refine IsS101.far ?_ NB0_232.out _ | refine IsS101.far ?_ NB0_257.out _) | exact HI0.out)) (zr_ HO_233001.out) (by decide)) hk (fun _ h => h.2)) (fun _ h => h.1))
              replace BK221 := zA_ (KeepBut.blk hk (g' := gb221) (o := .cells #[.slice none 0 0, .slice none 0 0] 26 (0, 0)) (zb_ BK221.out) NB221_0.out (by simp))
              replace BK232 := zA_ (KeepBut.blk hk (g' := gb232) (o := .cells #[.slice Ao23 x233000_1.length co23, .slice Ao24 x233001_1.length co24] 26 (0, 0)) (zb_ BK232.out) NB232_0.out (by simp))
              replace BK257 := zA_ (KeepBut.blk hk (g' := gb257) (o := .cells #[.slice none 0 0, .slice none 0 0, .string (⟨#[]⟩ : ByteArray), .int .i64 0] 30 (0, 0)) (zb_ BK257.out) NB257_0.out (by simp))
              replace HK := zA_ (KeepBut.trans βja hk (.inl rfl))
              replace HB := zA_ (hb)
              replace HI0 := zA_ (hi)
              (try clear hb)
              (try clear hb2)
              (try clear hk)
              (try clear hi)
              refine hK.out _ _ ⟨cy_ BK232.out 0, cy_ BK232.out 1⟩ (fun hHeld => ?_)
              clear hK K
              refine norm_ (a' := ?_) ?_ ?_
              rotate_left
              ·
               show Act.put _ (some 18) _ = _
               simp only [Act.put, List.setIfInBounds_toArray, List.set_cons_zero, List.set_cons_succ, i64_w, i32_w]
               rfl
              exact norm_ βHa (hJ2_8 (gb257) _ ⟨hHeld, (zr_ HO_233000.out), (zr_ HO_233001.out), (zb_ BK221.out), (zb_ BK232.out), (zb_ BK257.out), GW257.out, GE257.out, NB0_257.out, NB257_0.out, NB221_257.out, NB257_221.out, NB232_257.out, NB257_232.out, βR, βja, βW⟩)
            ·
             skip
             rintro _ w27 ⟨hS_, h0_, h1_, h2_, h3_, h4_, h5_, h6_⟩
             replace HO_233000 : Aside0 (Kd.R Kd.string 9 w27 w.heap.size (fun _ => True) (.slice Ao23 x233000_1.length co23) x233000_1) := ⟨h0_⟩
             replace HO_233001 : Aside0 (Kd.R k83 83 w27 w.heap.size (fun _ => True) (.slice Ao24 x233001_1.length co24) x233001_1) := ⟨h1_⟩
             replace BK221 : Aside0 (w27.heap[gb221]? = some (.cells #[.slice none 0 0, .slice none 0 0] 26 (0, 0))) := ⟨h2_⟩
             replace BK232 : Aside0 (w27.heap[gb232]? = some (.cells #[.slice Ao23 x233000_1.length co23, .slice Ao24 x233001_1.length co24] 26 (0, 0))) := ⟨h3_⟩
             replace HI0 : Aside0 (IsS101 w0 w27 g s0_0 t238 t239 t240) := ⟨h4_⟩
             replace HK : Aside0 (KeepBut w w27 g none) := ⟨h5_⟩
             replace HB : Aside0 (Below w0.heap.size w0 w27) := ⟨h6_⟩
             clear h0_ h1_ h2_ h3_ h4_ h5_ h6_
             have hHeld : w27.cell? ⟨gb232, 0, none⟩ = some (.slice Ao23 x233000_1.length co23) ∧ w27.cell? ⟨gb232, 1, none⟩ = some (.slice Ao24 x233001_1.length co24) := hS_
             refine norm_ (a' := ?_) ?_ ?_
             rotate_left
             ·
              simp only [putAll, Act.put, List.setIfInBounds_toArray, List.set_cons_zero, List.set_cons_succ]
              rfl
             refine two_ (i := 5) (j := 8) (Ni := some 21) (Nj := some 5) (mr_ [6, 4]) (mr_ [5, 3, 1, 1]) rfl rfl rfl rfl (two_of HT_.out βPb) (by decide) (by decide) (fun K hK => ?_) (fun K hK => ?_)
             ·
              skip
              refine goes_ Try.func45 βPb rfl #[.pointer (some ⟨g, 0, none⟩), .int .i64 5] (by rfl) rfl rfl zs_ ?_
              with_reducible refine (spec_l01Src_n.calls g s0_0 t238 t239 t240 5 t241 t242 t243 t244 w0 _ ?side1 ?side2 A18.out).mono ?_
              (case side1 => exact βV)
              (case side2 => exact βqa)
              rintro e w28 ⟨rfl, hi, hb, hk⟩
              refine ⟨_, rfl, ?_⟩
              replace HO_233000 := zA_ (Kd.R_mono (Kd.R_keep (IsS101.apart (show IsS101 w0 _ g s0_0 t238 t239 t240 from by repeat (first | (with_reducible first | exact HI0.out | apply IsS101.alloc | apply IsS101.drewN | apply IsS101.drew | apply IsS101.set_1 | apply IsS101.set_2 | apply IsS101.set_3 | refine IsS101.far ?_ NB0_221.out _ | refine IsS101.far ?_ NB0_232.out _) | exact HI0.out)) (zr_ HO_233000.out) (by decide)) hk (fun _ h => h.2)) (fun _ h => h.1))
              replace HO_233001 := zA_ (Kd.R_mono (Kd.R_keep (IsS101.apart (show IsS101 w0 _ g s0_0 t238 t239 t240 from by repeat (first | (with_reducible first | exact HI0.out | apply IsS101.alloc | apply IsS101.drewN | apply IsS101.drew | apply IsS101.set_1 | apply IsS101.set_2 | apply IsS101.set_3 | refine IsS101.far ?_ NB0_221.out _ | refine IsS101.far ?_ NB0_232.out _) | exact HI0.out)) (zr_ HO_233001.out) (by decide)) hk (fun _ h => h.2)) (fun _ h => h.1))
              replace BK221 := zA_ (KeepBut.blk hk (g' := gb221) (o := .cells #[.slice none 0 0, .slice none 0 0] 26 (0, 0)) (zb_ BK221.out) NB221_0.out (by simp))
              replace BK232 := zA_ (KeepBut.blk hk (g' := gb232) (o := .cells #[.slice Ao23 x233000_1.length co23, .slice Ao24 x233001_1.length co24] 26 (0, 0)) (zb_ BK232.out) NB232_0.out (by simp))
              replace HK := zA_ (KeepBut.trans βIa hk (.inl rfl))
              replace HB := zA_ (hb)
              replace HI0 := zA_ (hi)
              (try clear hb)
              (try clear hb2)
              (try clear hk)
              (try clear hi)
              refine hK.out _ _ ⟨cy_ BK232.out 0, cy_ BK232.out 1⟩ (fun hHeld => ?_)
              clear hK K
              refine norm_ (a' := ?_) ?_ ?_
              rotate_left
              ·
               show Act.put _ (some 21) _ = _
               simp only [Act.put, List.setIfInBounds_toArray, List.set_cons_zero, List.set_cons_succ, i64_w, i32_w]
               rfl
              exact norm_ βHa (hJ2_5 () _ ⟨hHeld, (zr_ HO_233000.out), (zr_ HO_233001.out), (zb_ BK221.out), (zb_ BK232.out), βV, βIa, βqa⟩)
             ·
              skip
              refine box_step ?hg (N := 5) ?hd (cs := #[.slice none 0 0, .slice none 0 0, .string (⟨#[]⟩ : ByteArray), .int .i64 0]) (t := 30) ?hr ?_; (case hd => exact (by rfl)); (case hg => exact (by rfl)); (case hr => exact βMb)
              intro gb257 hg w28 hbox hb
              replace HO_233000 := zR_ HO_233000.out hb
              replace HO_233001 := zR_ HO_233001.out hb
              replace HB := zA_ (below_step βqa hb)
              have BK257 := zA_ (hbox)
              have GW257 := zA_ ((by rw [hg]; exact (keep_size (w := w) (g := g) (row := none) βIa) : w.heap.size ≤ gb257))
              have GE257 := zA_ ((Nat.le_trans HW0.out (by rw [hg]; exact (keep_size (w := w) (g := g) (row := none) βIa) : w.heap.size ≤ gb257) : w0.heap.size ≤ gb257))
              replace HK := zA_ (KeepBut.trans βIa (KeepBut.of_below hb g none) (.inl rfl))
              have NB221_257 := zA_ ((by rw [hg]; exact Nat.ne_of_lt (blk_lt (g := gb221) (o := .cells #[.slice none 0 0, .slice none 0 0] 26 (0, 0)) (zb_ BK221.out)) : gb221 ≠ gb257))
              have NB257_221 := zA_ ((by rw [hg]; exact Nat.ne_of_gt (blk_lt (g := gb221) (o := .cells #[.slice none 0 0, .slice none 0 0] 26 (0, 0)) (zb_ BK221.out)) : gb257 ≠ gb221))
              replace BK221 := zB_ BK221.out hb
              have NB232_257 := zA_ ((by rw [hg]; exact Nat.ne_of_lt (blk_lt (g := gb232) (o := .cells #[.slice Ao23 x233000_1.length co23, .slice Ao24 x233001_1.length co24] 26 (0, 0)) (zb_ BK232.out)) : gb232 ≠ gb257))
              have NB257_232 := zA_ ((by rw [hg]; exact Nat.ne_of_gt (blk_lt (g := gb232) (o := .cells #[.slice Ao23 x233000_1.length co23, .slice Ao24 x233001_1.length co24] 26 (0, 0)) (zb_ BK232.out)) : gb257 ≠ gb232))
              replace BK232 := zB_ BK232.out hb
              have NB0_257 := zA_ ((by rw [hg]; exact Nat.ne_of_lt (IsS101.lt (show IsS101 w0 _ g s0_0 t238 t239 t240 from by repeat (first | (with_reducible first | exact HI0.out | apply IsS101.alloc | apply IsS101.drewN | apply IsS101.drew | apply IsS101.set_1 | apply IsS101.set_2 | apply IsS101.set_3 | refine IsS101.far ?_ NB0_221.out _ | refine IsS101.far ?_ NB0_232.out _) | exact HI0.out))) : g ≠ gb257))
              have NB257_0 := zA_ ((by rw [hg]; exact Nat.ne_of_gt (IsS101.lt (show IsS101 w0 _ g s0_0 t238 t239 t240 from by repeat (first | (with_reducible first | exact HI0.out | apply IsS101.alloc | apply IsS101.drewN | apply IsS101.drew | apply IsS101.set_1 | apply IsS101.set_2 | apply IsS101.set_3 | refine IsS101.far ?_ NB0_221.out _ | refine IsS101.far ?_ NB0_232.out _) | exact HI0.out))) : gb257 ≠ g))
              replace HI0 := zA_ (IsS101.below βV hb)
              clear hb hbox hg
              refine hK.out _ _ ⟨cy_ BK232.out 0, cy_ BK232.out 1⟩ (fun hHeld => ?_)
              clear hK K
              refine norm_ (a' := ?_) ?_ ?_
              rotate_left
              ·
               show Act.put _ (some 5) _ = _
               simp only [Act.put, List.setIfInBounds_toArray, List.set_cons_zero, List.set_cons_succ, i64_w, i32_w]
               rfl
              exact norm_ βHa (hJ2_8 (gb257) _ ⟨hHeld, (zr_ HO_233000.out), (zr_ HO_233001.out), (zb_ BK221.out), (zb_ BK232.out), (zb_ BK257.out), GW257.out, GE257.out, NB0_257.out, NB257_0.out, NB221_257.out, NB257_221.out, NB232_257.out, NB257_232.out, βR, βja, βW⟩)
           ·
            skip
            rintro gb257 w28 ⟨hS_, h0_, h1_, h2_, h3_, h4_, h5_, h6_, h7_, h8_, h9_, h10_, h11_, h12_, h13_, h14_, h15_⟩
            replace HO_233000 : Aside0 (Kd.R Kd.string 9 w28 w.heap.size (fun _ => True) (.slice Ao23 x233000_1.length co23) x233000_1) := ⟨h0_⟩
            replace HO_233001 : Aside0 (Kd.R k83 83 w28 w.heap.size (fun _ => True) (.slice Ao24 x233001_1.length co24) x233001_1) := ⟨h1_⟩
            replace BK221 : Aside0 (w28.heap[gb221]? = some (.cells #[.slice none 0 0, .slice none 0 0] 26 (0, 0))) := ⟨h2_⟩
            replace BK232 : Aside0 (w28.heap[gb232]? = some (.cells #[.slice Ao23 x233000_1.length co23, .slice Ao24 x233001_1.length co24] 26 (0, 0))) := ⟨h3_⟩
            have BK257 : Aside0 (w28.heap[gb257]? = some (.cells #[.slice none 0 0, .slice none 0 0, .string (⟨#[]⟩ : ByteArray), .int .i64 0] 30 (0, 0))) := ⟨h4_⟩
            have GW257 : Aside0 (w.heap.size ≤ gb257) := ⟨h5_⟩
            have GE257 : Aside0 (w0.heap.size ≤ gb257) := ⟨h6_⟩
            have NB0_257 : Aside0 (g ≠ gb257) := ⟨h7_⟩
            have NB257_0 : Aside0 (gb257 ≠ g) := ⟨h8_⟩
            have NB221_257 : Aside0 (gb221 ≠ gb257) := ⟨h9_⟩
            have NB257_221 : Aside0 (gb257 ≠ gb221) := ⟨h10_⟩
            have NB232_257 : Aside0 (gb232 ≠ gb257) := ⟨h11_⟩
            have NB257_232 : Aside0 (gb257 ≠ gb232) := ⟨h12_⟩
            replace HI0 : Aside0 (IsS101 w0 w28 g s0_0 t238 t239 t240) := ⟨h13_⟩
            replace HK : Aside0 (KeepBut w w28 g none) := ⟨h14_⟩
            replace HB : Aside0 (Below w0.heap.size w0 w28) := ⟨h15_⟩
            clear h0_ h1_ h2_ h3_ h4_ h5_ h6_ h7_ h8_ h9_ h10_ h11_ h12_ h13_ h14_ h15_
            have hHeld : w28.cell? ⟨gb232, 0, none⟩ = some (.slice Ao23 x233000_1.length co23) ∧ w28.cell? ⟨gb232, 1, none⟩ = some (.slice Ao24 x233001_1.length co24) := hS_
            refine norm_ (a' := ?_) ?_ ?_
            rotate_left
            ·
             simp only [putAll, Act.put, List.setIfInBounds_toArray, List.set_cons_zero, List.set_cons_succ]
             rfl
            refine one_ (i := 5) (N := some 21) (mr_ [6, 2, 1, 1]) rfl rfl (one_of HT_.out βPb) (by decide) (fun K hK => ?_)
            refine goes_ Try.func45 βPb rfl #[.pointer (some ⟨g, 0, none⟩), .int .i64 5] (by rfl) rfl rfl zs_ ?_
            with_reducible refine (spec_l01Src_n.calls g s0_0 t238 t239 t240 5 t241 t242 t243 t244 w0 _ ?side1 ?side2 A18.out).mono ?_
            (case side1 => exact βR)
            (case side2 => exact βW)
            rintro e w29 ⟨rfl, hi, hb, hk⟩
            refine ⟨_, rfl, ?_⟩
            replace HO_233000 := zA_ (Kd.R_mono (Kd.R_keep (IsS101.apart (show IsS101 w0 _ g s0_0 t238 t239 t240 from by repeat (first | (with_reducible first | exact HI0.out | apply IsS101.alloc | apply IsS101.drewN | apply IsS101.drew | apply IsS101.set_1 | apply IsS101.set_2 | apply IsS101.set_3 | refine IsS101.far ?_ NB0_221.out _ | refine IsS101.far ?_ NB0_232.out _ | refine IsS101.far ?_ NB0_257.out _) | exact HI0.out)) (zr_ HO_233000.out) (by decide)) hk (fun _ h => h.2)) (fun _ h => h.1))
            replace HO_233001 := zA_ (Kd.R_mono (Kd.R_keep (IsS101.apart (show IsS101 w0 _ g s0_0 t238 t239 t240 from by repeat (first | (with_reducible first | exact HI0.out | apply IsS101.alloc | apply IsS101.drewN | apply IsS101.drew | apply IsS101.set_1 | apply IsS101.set_2 | apply IsS101.set_3 | refine IsS101.far ?_ NB0_221.out _ | refine IsS101.far ?_ NB0_232.out _ | refine IsS101.far ?_ NB0_257.out _) | exact HI0.out)) (zr_ HO_233001.out) (by decide)) hk (fun _ h => h.2)) (fun _ h => h.1))
            replace BK221 := zA_ (KeepBut.blk hk (g' := gb221) (o := .cells #[.slice none 0 0, .slice none 0 0] 26 (0, 0)) (zb_ BK221.out) NB221_0.out (by simp))
            replace BK232 := zA_ (KeepBut.blk hk (g' := gb232) (o := .cells #[.slice Ao23 x233000_1.length co23, .slice Ao24 x233001_1.length co24] 26 (0, 0)) (zb_ BK232.out) NB232_0.out (by simp))
            replace BK257 := zA_ (KeepBut.blk hk (g' := gb257) (o := .cells #[.slice none 0 0, .slice none 0 0, .string (⟨#[]⟩ : ByteArray), .int .i64 0] 30 (0, 0)) (zb_ BK257.out) NB257_0.out (by simp))
            replace HK := zA_ (KeepBut.trans βja hk (.inl rfl))
            replace HB := zA_ (hb)
            replace HI0 := zA_ (hi)
            (try clear hb)
            (try clear hb2)
            (try clear hk)
            (try clear hi)
            refine hK.out _ _ ⟨cy_ BK232.out 0, cy_ BK232.out 1⟩ (fun hHeld => ?_)
            clear hK K
            refine norm_ (a' := ?_) ?_ ?_
            rotate_left
            ·
             show Act.put _ (some 21) _ = _
             simp only [Act.put, List.setIfInBounds_toArray, List.set_cons_zero, List.set_cons_succ, i64_w, i32_w]
             rfl
            exact norm_ βHa (hJ2_5_8 (gb257) _ ⟨hHeld, (zr_ HO_233000.out), (zr_ HO_233001.out), (zb_ BK221.out), (zb_ BK232.out), (zb_ BK257.out), GW257.out, GE257.out, NB0_257.out, NB257_0.out, NB221_257.out, NB257_221.out, NB232_257.out, NB257_232.out, βR, βja, βW⟩)
          ·
           skip
           rintro _ w28 ⟨hS_, h0_, h1_, h2_, h3_, h4_, h5_, h6_⟩
           replace HO_233000 : Aside0 (Kd.R Kd.string 9 w28 w.heap.size (fun _ => True) (.slice Ao23 x233000_1.length co23) x233000_1) := ⟨h0_⟩
           replace HO_233001 : Aside0 (Kd.R k83 83 w28 w.heap.size (fun _ => True) (.slice Ao24 x233001_1.length co24) x233001_1) := ⟨h1_⟩
           replace BK221 : Aside0 (w28.heap[gb221]? = some (.cells #[.slice none 0 0, .slice none 0 0] 26 (0, 0))) := ⟨h2_⟩
           replace BK232 : Aside0 (w28.heap[gb232]? = some (.cells #[.slice Ao23 x233000_1.length co23, .slice Ao24 x233001_1.length co24] 26 (0, 0))) := ⟨h3_⟩
           replace HI0 : Aside0 (IsS101 w0 w28 g s0_0 t242 t243 t244) := ⟨h4_⟩
           replace HK : Aside0 (KeepBut w w28 g none) := ⟨h5_⟩
           replace HB : Aside0 (Below w0.heap.size w0 w28) := ⟨h6_⟩
           clear h0_ h1_ h2_ h3_ h4_ h5_ h6_
           have hHeld : w28.cell? ⟨gb232, 0, none⟩ = some (.slice Ao23 x233000_1.length co23) ∧ w28.cell? ⟨gb232, 1, none⟩ = some (.slice Ao24 x233001_1.length co24) := hS_
           refine norm_ (a' := ?_) ?_ ?_
           rotate_left
           ·
            simp only [putAll, Act.put, List.setIfInBounds_toArray, List.set_cons_zero, List.set_cons_succ]
            rfl
           refine two_ (i := 6) (j := 8) (Ni := some 22) (Nj := some 5) (mr_ [7, 3]) (mr_ [6, 2, 1, 1]) rfl rfl rfl rfl (two_of HT_.out βPb) (by decide) (by decide) (fun K hK => ?_) (fun K hK => ?_)
           ·
            skip
            refine goes_ Try.func47 βPb rfl #[.pointer (some ⟨g, 0, none⟩), .int .i64 t241] (by rfl) rfl rfl zs_ ?_
            with_reducible refine (spec_l01Src_bytes.calls k1 g s0_0 t242 t243 t244 t241 t245 t246 t247 t248 w0 _ ?side1 ?side2 A19.out).mono ?_
            (case side1 => exact βV)
            (case side2 => exact βqa)
            rintro e w29 ⟨rfl, hi, hb, hk⟩
            refine ⟨_, rfl, ?_⟩
            replace HO_233000 := zA_ (Kd.R_mono (Kd.R_keep (IsS101.apart (show IsS101 w0 _ g s0_0 t242 t243 t244 from by repeat (first | (with_reducible first | exact HI0.out | apply IsS101.alloc | apply IsS101.drewN | apply IsS101.drew | apply IsS101.set_1 | apply IsS101.set_2 | apply IsS101.set_3 | refine IsS101.far ?_ NB0_221.out _ | refine IsS101.far ?_ NB0_232.out _) | exact HI0.out)) (zr_ HO_233000.out) (by decide)) hk (fun _ h => h.2)) (fun _ h => h.1))
            replace HO_233001 := zA_ (Kd.R_mono (Kd.R_keep (IsS101.apart (show IsS101 w0 _ g s0_0 t242 t243 t244 from by repeat (first | (with_reducible first | exact HI0.out | apply IsS101.alloc | apply IsS101.drewN | apply IsS101.drew | apply IsS101.set_1 | apply IsS101.set_2 | apply IsS101.set_3 | refine IsS101.far ?_ NB0_221.out _ | refine IsS101.far ?_ NB0_232.out _) | exact HI0.out)) (zr_ HO_233001.out) (by decide)) hk (fun _ h => h.2)) (fun _ h => h.1))
            replace BK221 := zA_ (KeepBut.blk hk (g' := gb221) (o := .cells #[.slice none 0 0, .slice none 0 0] 26 (0, 0)) (zb_ BK221.out) NB221_0.out (by simp))
            replace BK232 := zA_ (KeepBut.blk hk (g' := gb232) (o := .cells #[.slice Ao23 x233000_1.length co23, .slice Ao24 x233001_1.length co24] 26 (0, 0)) (zb_ BK232.out) NB232_0.out (by simp))
            replace HK := zA_ (KeepBut.trans βIa hk (.inl rfl))
            replace HB := zA_ (hb)
            replace HI0 := zA_ (hi)
            (try clear hb)
            (try clear hb2)
            (try clear hk)
            (try clear hi)
            refine hK.out _ _ ⟨cy_ BK232.out 0, cy_ BK232.out 1⟩ (fun hHeld => ?_)
            clear hK K
            refine norm_ (a' := ?_) ?_ ?_
            rotate_left
            ·
             show Act.put _ (some 22) _ = _
             simp only [Act.put, List.setIfInBounds_toArray, List.set_cons_zero, List.set_cons_succ, i64_w, i32_w]
             rfl
            exact norm_ βHa (hJ2_5_6 () _ ⟨hHeld, (zr_ HO_233000.out), (zr_ HO_233001.out), (zb_ BK221.out), (zb_ BK232.out), βV, βIa, βqa⟩)
           ·
            skip
            refine box_step ?hg (N := 5) ?hd (cs := #[.slice none 0 0, .slice none 0 0, .string (⟨#[]⟩ : ByteArray), .int .i64 0]) (t := 30) ?hr ?_; (case hd => exact (by rfl)); (case hg => exact (by rfl)); (case hr => exact βMb)
            intro gb257 hg w29 hbox hb
            replace HO_233000 := zR_ HO_233000.out hb
            replace HO_233001 := zR_ HO_233001.out hb
            replace HB := zA_ (below_step βqa hb)
            have BK257 := zA_ (hbox)
            have GW257 := zA_ ((by rw [hg]; exact (keep_size (w := w) (g := g) (row := none) βIa) : w.heap.size ≤ gb257))
            have GE257 := zA_ ((Nat.le_trans HW0.out (by rw [hg]; exact (keep_size (w := w) (g := g) (row := none) βIa) : w.heap.size ≤ gb257) : w0.heap.size ≤ gb257))
            replace HK := zA_ (KeepBut.trans βIa (KeepBut.of_below hb g none) (.inl rfl))
            have NB221_257 := zA_ ((by rw [hg]; exact Nat.ne_of_lt (blk_lt (g := gb221) (o := .cells #[.slice none 0 0, .slice none 0 0] 26 (0, 0)) (zb_ BK221.out)) : gb221 ≠ gb257))
            have NB257_221 := zA_ ((by rw [hg]; exact Nat.ne_of_gt (blk_lt (g := gb221) (o := .cells #[.slice none 0 0, .slice none 0 0] 26 (0, 0)) (zb_ BK221.out)) : gb257 ≠ gb221))
            replace BK221 := zB_ BK221.out hb
            have NB232_257 := zA_ ((by rw [hg]; exact Nat.ne_of_lt (blk_lt (g := gb232) (o := .cells #[.slice Ao23 x233000_1.length co23, .slice Ao24 x233001_1.length co24] 26 (0, 0)) (zb_ BK232.out)) : gb232 ≠ gb257))
            have NB257_232 := zA_ ((by rw [hg]; exact Nat.ne_of_gt (blk_lt (g := gb232) (o := .cells #[.slice Ao23 x233000_1.length co23, .slice Ao24 x233001_1.length co24] 26 (0, 0)) (zb_ BK232.out)) : gb257 ≠ gb232))
            replace BK232 := zB_ BK232.out hb
            have NB0_257 := zA_ ((by rw [hg]; exact Nat.ne_of_lt (IsS101.lt (show IsS101 w0 _ g s0_0 t242 t243 t244 from by repeat (first | (with_reducible first | exact HI0.out | apply IsS101.alloc | apply IsS101.drewN | apply IsS101.drew | apply IsS101.set_1 | apply IsS101.set_2 | apply IsS101.set_3 | refine IsS101.far ?_ NB0_221.out _ | refine IsS101.far ?_ NB0_232.out _) | exact HI0.out))) : g ≠ gb257))
            have NB257_0 := zA_ ((by rw [hg]; exact Nat.ne_of_gt (IsS101.lt (show IsS101 w0 _ g s0_0 t242 t243 t244 from by repeat (first | (with_reducible first | exact HI0.out | apply IsS101.alloc | apply IsS101.drewN | apply IsS101.drew | apply IsS101.set_1 | apply IsS101.set_2 | apply IsS101.set_3 | refine IsS101.far ?_ NB0_221.out _ | refine IsS101.far ?_ NB0_232.out _) | exact HI0.out))) : gb257 ≠ g))
            replace HI0 := zA_ (IsS101.below βV hb)
            clear hb hbox hg
            refine hK.out _ _ ⟨cy_ BK232.out 0, cy_ BK232.out 1⟩ (fun hHeld => ?_)
            clear hK K
            refine norm_ (a' := ?_) ?_ ?_
            rotate_left
            ·
             show Act.put _ (some 5) _ = _
             simp only [Act.put, List.setIfInBounds_toArray, List.set_cons_zero, List.set_cons_succ, i64_w, i32_w]
             rfl
            exact norm_ βHa (hJ2_5_8 (gb257) _ ⟨hHeld, (zr_ HO_233000.out), (zr_ HO_233001.out), (zb_ BK221.out), (zb_ BK232.out), (zb_ BK257.out), GW257.out, GE257.out, NB0_257.out, NB257_0.out, NB221_257.out, NB257_221.out, NB232_257.out, NB257_232.out, βR, βja, βW⟩)
         ·
          skip
          rintro gb257 w29 ⟨hS_, h0_, h1_, h2_, h3_, h4_, h5_, h6_, h7_, h8_, h9_, h10_, h11_, h12_, h13_, h14_, h15_⟩
          replace HO_233000 : Aside0 (Kd.R Kd.string 9 w29 w.heap.size (fun _ => True) (.slice Ao23 x233000_1.length co23) x233000_1) := ⟨h0_⟩
          replace HO_233001 : Aside0 (Kd.R k83 83 w29 w.heap.size (fun _ => True) (.slice Ao24 x233001_1.length co24) x233001_1) := ⟨h1_⟩
          replace BK221 : Aside0 (w29.heap[gb221]? = some (.cells #[.slice none 0 0, .slice none 0 0] 26 (0, 0))) := ⟨h2_⟩
          replace BK232 : Aside0 (w29.heap[gb232]? = some (.cells #[.slice Ao23 x233000_1.length co23, .slice Ao24 x233001_1.length co24] 26 (0, 0))) := ⟨h3_⟩
          have BK257 : Aside0 (w29.heap[gb257]? = some (.cells #[.slice none 0 0, .slice none 0 0, .string (⟨#[]⟩ : ByteArray), .int .i64 0] 30 (0, 0))) := ⟨h4_⟩
          have GW257 : Aside0 (w.heap.size ≤ gb257) := ⟨h5_⟩
          have GE257 : Aside0 (w0.heap.size ≤ gb257) := ⟨h6_⟩
          have NB0_257 : Aside0 (g ≠ gb257) := ⟨h7_⟩
          have NB257_0 : Aside0 (gb257 ≠ g) := ⟨h8_⟩
          have NB221_257 : Aside0 (gb221 ≠ gb257) := ⟨h9_⟩
          have NB257_221 : Aside0 (gb257 ≠ gb221) := ⟨h10_⟩
          have NB232_257 : Aside0 (gb232 ≠ gb257) := ⟨h11_⟩
          have NB257_232 : Aside0 (gb257 ≠ gb232) := ⟨h12_⟩
          replace HI0 : Aside0 (IsS101 w0 w29 g s0_0 t242 t243 t244) := ⟨h13_⟩
          replace HK : Aside0 (KeepBut w w29 g none) := ⟨h14_⟩
          replace HB : Aside0 (Below w0.heap.size w0 w29) := ⟨h15_⟩
          clear h0_ h1_ h2_ h3_ h4_ h5_ h6_ h7_ h8_ h9_ h10_ h11_ h12_ h13_ h14_ h15_
          have hHeld : w29.cell? ⟨gb232, 0, none⟩ = some (.slice Ao23 x233000_1.length co23) ∧ w29.cell? ⟨gb232, 1, none⟩ = some (.slice Ao24 x233001_1.length co24) := hS_
          refine norm_ (a' := ?_) ?_ ?_
          rotate_left
          ·
           simp only [putAll, Act.put, List.setIfInBounds_toArray, List.set_cons_zero, List.set_cons_succ]
           rfl
          refine one_ (i := 6) (N := some 22) (mr_ [7, 1, 1, 1]) rfl rfl (one_of HT_.out βPb) (by decide) (fun K hK => ?_)
          refine goes_ Try.func47 βPb rfl #[.pointer (some ⟨g, 0, none⟩), .int .i64 t241] (by rfl) rfl rfl zs_ ?_
          with_reducible refine (spec_l01Src_bytes.calls k1 g s0_0 t242 t243 t244 t241 t245 t246 t247 t248 w0 _ ?side1 ?side2 A19.out).mono ?_
          (case side1 => exact βR)
          (case side2 => exact βW)
          rintro e w30 ⟨rfl, hi, hb, hk⟩
          refine ⟨_, rfl, ?_⟩
          replace HO_233000 := zA_ (Kd.R_mono (Kd.R_keep (IsS101.apart (show IsS101 w0 _ g s0_0 t242 t243 t244 from by repeat (first | (with_reducible first | exact HI0.out | apply IsS101.alloc | apply IsS101.drewN | apply IsS101.drew | apply IsS101.set_1 | apply IsS101.set_2 | apply IsS101.set_3 | refine IsS101.far ?_ NB0_221.out _ | refine IsS101.far ?_ NB0_232.out _ | refine IsS101.far ?_ NB0_257.out _) | exact HI0.out)) (zr_ HO_233000.out) (by decide)) hk (fun _ h => h.2)) (fun _ h => h.1))
          replace HO_233001 := zA_ (Kd.R_mono (Kd.R_keep (IsS101.apart (show IsS101 w0 _ g s0_0 t242 t243 t244 from by repeat (first | (with_reducible first | exact HI0.out | apply IsS101.alloc | apply IsS101.drewN | apply IsS101.drew | apply IsS101.set_1 | apply IsS101.set_2 | apply IsS101.set_3 | refine IsS101.far ?_ NB0_221.out _ | refine IsS101.far ?_ NB0_232.out _ | refine IsS101.far ?_ NB0_257.out _) | exact HI0.out)) (zr_ HO_233001.out) (by decide)) hk (fun _ h => h.2)) (fun _ h => h.1))
          replace BK221 := zA_ (KeepBut.blk hk (g' := gb221) (o := .cells #[.slice none 0 0, .slice none 0 0] 26 (0, 0)) (zb_ BK221.out) NB221_0.out (by simp))
          replace BK232 := zA_ (KeepBut.blk hk (g' := gb232) (o := .cells #[.slice Ao23 x233000_1.length co23, .slice Ao24 x233001_1.length co24] 26 (0, 0)) (zb_ BK232.out) NB232_0.out (by simp))
          replace BK257 := zA_ (KeepBut.blk hk (g' := gb257) (o := .cells #[.slice none 0 0, .slice none 0 0, .string (⟨#[]⟩ : ByteArray), .int .i64 0] 30 (0, 0)) (zb_ BK257.out) NB257_0.out (by simp))
          replace HK := zA_ (KeepBut.trans βja hk (.inl rfl))
          replace HB := zA_ (hb)
          replace HI0 := zA_ (hi)
          (try clear hb)
          (try clear hb2)
          (try clear hk)
          (try clear hi)
          refine hK.out _ _ ⟨cy_ BK232.out 0, cy_ BK232.out 1⟩ (fun hHeld => ?_)
          clear hK K
          refine norm_ (a' := ?_) ?_ ?_
          rotate_left
          ·
           show Act.put _ (some 22) _ = _
           simp only [Act.put, List.setIfInBounds_toArray, List.set_cons_zero, List.set_cons_succ, i64_w, i32_w]
           rfl
          exact norm_ βHa (hJ2_5_6_8 (gb257) _ ⟨hHeld, (zr_ HO_233000.out), (zr_ HO_233001.out), (zb_ BK221.out), (zb_ BK232.out), (zb_ BK257.out), GW257.out, GE257.out, NB0_257.out, NB257_0.out, NB221_257.out, NB257_221.out, NB232_257.out, NB257_232.out, βR, βja, βW⟩)
        ·
         skip
         rintro _ w29 ⟨hS_, h0_, h1_, h2_, h3_, h4_, h5_, h6_⟩
         replace HO_233000 : Aside0 (Kd.R Kd.string 9 w29 w.heap.size (fun _ => True) (.slice Ao23 x233000_1.length co23) x233000_1) := ⟨h0_⟩
         replace HO_233001 : Aside0 (Kd.R k83 83 w29 w.heap.size (fun _ => True) (.slice Ao24 x233001_1.length co24) x233001_1) := ⟨h1_⟩
         replace BK221 : Aside0 (w29.heap[gb221]? = some (.cells #[.slice none 0 0, .slice none 0 0] 26 (0, 0))) := ⟨h2_⟩
         replace BK232 : Aside0 (w29.heap[gb232]? = some (.cells #[.slice Ao23 x233000_1.length co23, .slice Ao24 x233001_1.length co24] 26 (0, 0))) := ⟨h3_⟩
         replace HI0 : Aside0 (IsS101 w0 w29 g s0_0 t246 t247 t248) := ⟨h4_⟩
         replace HK : Aside0 (KeepBut w w29 g none) := ⟨h5_⟩
         replace HB : Aside0 (Below w0.heap.size w0 w29) := ⟨h6_⟩
         clear h0_ h1_ h2_ h3_ h4_ h5_ h6_
         have hHeld : w29.cell? ⟨gb232, 0, none⟩ = some (.slice Ao23 x233000_1.length co23) ∧ w29.cell? ⟨gb232, 1, none⟩ = some (.slice Ao24 x233001_1.length co24) := hS_
         refine norm_ (a' := ?_) ?_ ?_
         rotate_left
         ·
          simp only [putAll, Act.put, List.setIfInBounds_toArray, List.set_cons_zero, List.set_cons_succ]
          rfl
         refine two_ (i := 7) (j := 8) (Ni := some 23) (Nj := some 5) (mr_ [8, 2]) (mr_ [7, 1, 1, 1]) rfl rfl rfl rfl (two_of HT_.out βPb) (by decide) (by decide) (fun K hK => ?_) (fun K hK => ?_)
         ·
          skip
          refine goes_ Try.func14 βPb rfl #[.agg #[.slice Ao23 x233000_1.length co23, .slice Ao24 x233001_1.length co24], .int .i64 t237, .string t245] (by rfl) rfl rfl zs_ ?_
          with_reducible refine (spec_FlashWrite.calls k1 _ _ x233000_1 _ _ x233001_1 t237 t245 t249 t252 t255 t256 _ ?side1 ?side2 ?side3 ?side4 A20.out).mono ?_
          (case side1 => exact zc_ (Kd.R_reads' HO_233000.out).2.2)
          (case side2 => exact (Kd.R_reads' HO_233000.out).2.1)
          (case side3 => exact zc_ (Kd.R_reads' HO_233001.out).2.2)
          (case side4 => exact (Kd.R_reads' HO_233001.out).2.1)
          rintro e w30 ⟨v250, v253, rfl, ho0, ho1, hb⟩
          refine ⟨_, rfl, ?_⟩
          have HO251 := zA_ (Kd.R_lower (Kd.R_new' ho0 (Kd.R_lt (zr_ HO_233000.out))) (keep_size (w := w) (g := g) (row := none) βIa))
          replace HO_233000 := zE_ HO_233000.out ho0 hb
          have HO254 := zA_ (Kd.R_lower (Kd.R_new' ho1 (Kd.R_lt (zr_ HO_233001.out))) (keep_size (w := w) (g := g) (row := none) βIa))
          replace HO_233001 := zE_ HO_233001.out ho1 hb
          replace BK221 := zB_ BK221.out hb
          replace BK232 := zB_ BK232.out hb
          replace HK := zA_ (KeepBut.trans βIa (KeepBut.of_below hb g none) (.inl rfl))
          replace HB := zA_ (below_step βqa hb)
          replace HI0 := zA_ (IsS101.below βV hb)
          (try clear hb)
          (try clear hb2)
          (try clear hk)
          (try clear hi)
          (try clear ho0)
          (try clear ho1)
          refine hK.out _ _ ⟨cy_ BK232.out 0, cy_ BK232.out 1⟩ (fun hHeld => ?_)
          clear hK K
          refine norm_ (a' := ?_) ?_ ?_
          rotate_left
          ·
           show Act.put _ (some 23) _ = _
           simp only [Act.put, List.setIfInBounds_toArray, List.set_cons_zero, List.set_cons_succ, i64_w, i32_w]
           rfl
          exact norm_ βHa (hJ2_5_6_7 (v250, v253) _ ⟨hHeld, (by (with_reducible repeat (first | apply Kd.R_alloc | apply Kd.R_drewN | apply Kd.R_drew)); exact Kd.R_mono HO251.out (fun _ hk => hk.2)), (by (with_reducible repeat (first | apply Kd.R_alloc | apply Kd.R_drewN | apply Kd.R_drew)); exact Kd.R_mono HO254.out (fun _ hk => hk.2)), (by (with_reducible repeat (first | apply Kd.R_alloc | apply Kd.R_drewN | apply Kd.R_drew)); exact Kd.R_mono HO_233000.out (fun _ hk => hk.2)), (by (with_reducible repeat (first | apply Kd.R_alloc | apply Kd.R_drewN | apply Kd.R_drew)); exact Kd.R_mono HO_233001.out (fun _ hk => hk.2)), (zb_ BK221.out), (zb_ BK232.out), βV, βIa, βqa⟩)
         ·
          skip
          refine box_step ?hg (N := 5) ?hd (cs := #[.slice none 0 0, .slice none 0 0, .string (⟨#[]⟩ : ByteArray), .int .i64 0]) (t := 30) ?hr ?_; (case hd => exact (by rfl)); (case hg => exact (by rfl)); (case hr => exact βMb)
          intro gb257 hg w30 hbox hb
          replace HO_233000 := zR_ HO_233000.out hb
          replace HO_233001 := zR_ HO_233001.out hb
          replace HB := zA_ (below_step βqa hb)
          have BK257 := zA_ (hbox)
          have GW257 := zA_ ((by rw [hg]; exact (keep_size (w := w) (g := g) (row := none) βIa) : w.heap.size ≤ gb257))
          have GE257 := zA_ ((Nat.le_trans HW0.out (by rw [hg]; exact (keep_size (w := w) (g := g) (row := none) βIa) : w.heap.size ≤ gb257) : w0.heap.size ≤ gb257))
          replace HK := zA_ (KeepBut.trans βIa (KeepBut.of_below hb g none) (.inl rfl))
          have NB221_257 := zA_ ((by rw [hg]; exact Nat.ne_of_lt (blk_lt (g := gb221) (o := .cells #[.slice none 0 0, .slice none 0 0] 26 (0, 0)) (zb_ BK221.out)) : gb221 ≠ gb257))
          have NB257_221 := zA_ ((by rw [hg]; exact Nat.ne_of_gt (blk_lt (g := gb221) (o := .cells #[.slice none 0 0, .slice none 0 0] 26 (0, 0)) (zb_ BK221.out)) : gb257 ≠ gb221))
          replace BK221 := zB_ BK221.out hb
          have NB232_257 := zA_ ((by rw [hg]; exact Nat.ne_of_lt (blk_lt (g := gb232) (o := .cells #[.slice Ao23 x233000_1.length co23, .slice Ao24 x233001_1.length co24] 26 (0, 0)) (zb_ BK232.out)) : gb232 ≠ gb257))
          have NB257_232 := zA_ ((by rw [hg]; exact Nat.ne_of_gt (blk_lt (g := gb232) (o := .cells #[.slice Ao23 x233000_1.length co23, .slice Ao24 x233001_1.length co24] 26 (0, 0)) (zb_ BK232.out)) : gb257 ≠ gb232))
          replace BK232 := zB_ BK232.out hb
          have NB0_257 := zA_ ((by rw [hg]; exact Nat.ne_of_lt (IsS101.lt (show IsS101 w0 _ g s0_0 t246 t247 t248 from by repeat (first | (with_reducible first | exact HI0.out | apply IsS101.alloc | apply IsS101.drewN | apply IsS101.drew | apply IsS101.set_1 | apply IsS101.set_2 | apply IsS101.set_3 | refine IsS101.far ?_ NB0_221.out _ | refine IsS101.far ?_ NB0_232.out _) | exact HI0.out))) : g ≠ gb257))
          have NB257_0 := zA_ ((by rw [hg]; exact Nat.ne_of_gt (IsS101.lt (show IsS101 w0 _ g s0_0 t246 t247 t248 from by repeat (first | (with_reducible first | exact HI0.out | apply IsS101.alloc | apply IsS101.drewN | apply IsS101.drew | apply IsS101.set_1 | apply IsS101.set_2 | apply IsS101.set_3 | refine IsS101.far ?_ NB0_221.out _ | refine IsS101.far ?_ NB0_232.out _) | exact HI0.out))) : gb257 ≠ g))
          replace HI0 := zA_ (IsS101.below βV hb)
          clear hb hbox hg
          refine hK.out _ _ ⟨cy_ BK232.out 0, cy_ BK232.out 1⟩ (fun hHeld => ?_)
          clear hK K
          refine norm_ (a' := ?_) ?_ ?_
          rotate_left
          ·
           show Act.put _ (some 5) _ = _
           simp only [Act.put, List.setIfInBounds_toArray, List.set_cons_zero, List.set_cons_succ, i64_w, i32_w]
           rfl
          exact norm_ βHa (hJ2_5_6_8 (gb257) _ ⟨hHeld, (zr_ HO_233000.out), (zr_ HO_233001.out), (zb_ BK221.out), (zb_ BK232.out), (zb_ BK257.out), GW257.out, GE257.out, NB0_257.out, NB257_0.out, NB221_257.out, NB257_221.out, NB232_257.out, NB257_232.out, βR, βja, βW⟩)
       ·
        skip
        rintro gb257 w30 ⟨hS_, h0_, h1_, h2_, h3_, h4_, h5_, h6_, h7_, h8_, h9_, h10_, h11_, h12_, h13_, h14_, h15_⟩
        replace HO_233000 : Aside0 (Kd.R Kd.string 9 w30 w.heap.size (fun _ => True) (.slice Ao23 x233000_1.length co23) x233000_1) := ⟨h0_⟩
        replace HO_233001 : Aside0 (Kd.R k83 83 w30 w.heap.size (fun _ => True) (.slice Ao24 x233001_1.length co24) x233001_1) := ⟨h1_⟩
        replace BK221 : Aside0 (w30.heap[gb221]? = some (.cells #[.slice none 0 0, .slice none 0 0] 26 (0, 0))) := ⟨h2_⟩
        replace BK232 : Aside0 (w30.heap[gb232]? = some (.cells #[.slice Ao23 x233000_1.length co23, .slice Ao24 x233001_1.length co24] 26 (0, 0))) := ⟨h3_⟩
        have BK257 : Aside0 (w30.heap[gb257]? = some (.cells #[.slice none 0 0, .slice none 0 0, .string (⟨#[]⟩ : ByteArray), .int .i64 0] 30 (0, 0))) := ⟨h4_⟩
        have GW257 : Aside0 (w.heap.size ≤ gb257) := ⟨h5_⟩
        have GE257 : Aside0 (w0.heap.size ≤ gb257) := ⟨h6_⟩
        have NB0_257 : Aside0 (g ≠ gb257) := ⟨h7_⟩
        have NB257_0 : Aside0 (gb257 ≠ g) := ⟨h8_⟩
        have NB221_257 : Aside0 (gb221 ≠ gb257) := ⟨h9_⟩
        have NB257_221 : Aside0 (gb257 ≠ gb221) := ⟨h10_⟩
        have NB232_257 : Aside0 (gb232 ≠ gb257) := ⟨h11_⟩
        have NB257_232 : Aside0 (gb257 ≠ gb232) := ⟨h12_⟩
        replace HI0 : Aside0 (IsS101 w0 w30 g s0_0 t246 t247 t248) := ⟨h13_⟩
        replace HK : Aside0 (KeepBut w w30 g none) := ⟨h14_⟩
        replace HB : Aside0 (Below w0.heap.size w0 w30) := ⟨h15_⟩
        clear h0_ h1_ h2_ h3_ h4_ h5_ h6_ h7_ h8_ h9_ h10_ h11_ h12_ h13_ h14_ h15_
        have hHeld : w30.cell? ⟨gb232, 0, none⟩ = some (.slice Ao23 x233000_1.length co23) ∧ w30.cell? ⟨gb232, 1, none⟩ = some (.slice Ao24 x233001_1.length co24) := hS_
        refine norm_ (a' := ?_) ?_ ?_
        rotate_left
        ·
         simp only [putAll, Act.put, List.setIfInBounds_toArray, List.set_cons_zero, List.set_cons_succ]
         rfl
        refine one_ (i := 7) (N := some 23) (mr_ [9, 1]) rfl rfl (one_of HT_.out βPb) (by decide) (fun K hK => ?_)
        refine goes_ Try.func14 βPb rfl #[.agg #[.slice Ao23 x233000_1.length co23, .slice Ao24 x233001_1.length co24], .int .i64 t237, .string t245] (by rfl) rfl rfl zs_ ?_
        with_reducible refine (spec_FlashWrite.calls k1 _ _ x233000_1 _ _ x233001_1 t237 t245 t249 t252 t255 t256 _ ?side1 ?side2 ?side3 ?side4 A20.out).mono ?_
        (case side1 => exact zc_ (Kd.R_reads' HO_233000.out).2.2)
        (case side2 => exact (Kd.R_reads' HO_233000.out).2.1)
        (case side3 => exact zc_ (Kd.R_reads' HO_233001.out).2.2)
        (case side4 => exact (Kd.R_reads' HO_233001.out).2.1)
        rintro e w31 ⟨v250, v253, rfl, ho0, ho1, hb⟩
        refine ⟨_, rfl, ?_⟩
        have HO251 := zA_ (Kd.R_lower (Kd.R_new' ho0 (Kd.R_lt (zr_ HO_233000.out))) (keep_size (w := w) (g := g) (row := none) βja))
        replace HO_233000 := zE_ HO_233000.out ho0 hb
        have HO254 := zA_ (Kd.R_lower (Kd.R_new' ho1 (Kd.R_lt (zr_ HO_233001.out))) (keep_size (w := w) (g := g) (row := none) βja))
        replace HO_233001 := zE_ HO_233001.out ho1 hb
        replace BK221 := zB_ BK221.out hb
        replace BK232 := zB_ BK232.out hb
        replace BK257 := zB_ BK257.out hb
        replace HK := zA_ (KeepBut.trans βja (KeepBut.of_below hb g none) (.inl rfl))
        replace HB := zA_ (below_step βW hb)
        replace HI0 := zA_ (IsS101.below βR hb)
        (try clear hb)
        (try clear hb2)
        (try clear hk)
        (try clear hi)
        (try clear ho0)
        (try clear ho1)
        refine hK.out _ _ ⟨cy_ BK232.out 0, cy_ BK232.out 1⟩ (fun hHeld => ?_)
        clear hK K
        refine norm_ (a' := ?_) ?_ ?_
        rotate_left
        ·
         show Act.put _ (some 23) _ = _
         simp only [Act.put, List.setIfInBounds_toArray, List.set_cons_zero, List.set_cons_succ, i64_w, i32_w]
         rfl
        exact norm_ βHa (hJ2_5_6_7_8 (v250, v253, gb257) _ ⟨hHeld, (by (with_reducible repeat (first | apply Kd.R_alloc | apply Kd.R_drewN | apply Kd.R_drew)); exact Kd.R_mono HO251.out (fun _ hk => hk.2)), (by (with_reducible repeat (first | apply Kd.R_alloc | apply Kd.R_drewN | apply Kd.R_drew)); exact Kd.R_mono HO254.out (fun _ hk => hk.2)), (by (with_reducible repeat (first | apply Kd.R_alloc | apply Kd.R_drewN | apply Kd.R_drew)); exact Kd.R_mono HO_233000.out (fun _ hk => hk.2)), (by (with_reducible repeat (first | apply Kd.R_alloc | apply Kd.R_drewN | apply Kd.R_drew)); exact Kd.R_mono HO_233001.out (fun _ hk => hk.2)), (zb_ BK221.out), (zb_ BK232.out), (zb_ BK257.out), GW257.out, GE257.out, NB0_257.out, NB257_0.out, NB221_257.out, NB257_221.out, NB232_257.out, NB257_232.out, βR, βja, βW⟩)
      ·
       skip
       rintro ⟨v250, v253⟩ w30 ⟨hS_, h0_, h1_, h2_, h3_, h4_, h5_, h6_, h7_, h8_⟩
       have HO251 : Aside0 (Kd.R Kd.string 9 w30 w.heap.size (fun k_ => some k_ ≠ (.slice Ao23 x233000_1.length co23 : Value).ownBlock) v250 t249) := ⟨h0_⟩
       have HO254 : Aside0 (Kd.R k83 83 w30 w.heap.size (fun k_ => some k_ ≠ (.slice Ao24 x233001_1.length co24 : Value).ownBlock) v253 t252) := ⟨h1_⟩
       replace HO_233000 : Aside0 (Kd.R Kd.string 9 w30 w.heap.size (fun k_ => some k_ ≠ (v250 : Value).ownBlock) (.slice Ao23 x233000_1.length co23) x233000_1) := ⟨h2_⟩
       replace HO_233001 : Aside0 (Kd.R k83 83 w30 w.heap.size (fun k_ => some k_ ≠ (v253 : Value).ownBlock) (.slice Ao24 x233001_1.length co24) x233001_1) := ⟨h3_⟩
       replace BK221 : Aside0 (w30.heap[gb221]? = some (.cells #[.slice none 0 0, .slice none 0 0] 26 (0, 0))) := ⟨h4_⟩
       replace BK232 : Aside0 (w30.heap[gb232]? = some (.cells #[.slice Ao23 x233000_1.length co23, .slice Ao24 x233001_1.length co24] 26 (0, 0))) := ⟨h5_⟩
       replace HI0 : Aside0 (IsS101 w0 w30 g s0_0 t246 t247 t248) := ⟨h6_⟩
       replace HK : Aside0 (KeepBut w w30 g none) := ⟨h7_⟩
       replace HB : Aside0 (Below w0.heap.size w0 w30) := ⟨h8_⟩
       clear h0_ h1_ h2_ h3_ h4_ h5_ h6_ h7_ h8_
       have hHeld : w30.cell? ⟨gb232, 0, none⟩ = some (.slice Ao23 x233000_1.length co23) ∧ w30.cell? ⟨gb232, 1, none⟩ = some (.slice Ao24 x233001_1.length co24) := hS_
       refine norm_ (a' := ?_) ?_ ?_
       rotate_left
       ·
        simp only [putAll, Act.put, List.setIfInBounds_toArray, List.set_cons_zero, List.set_cons_succ]
        rfl
       refine one_ (i := 8) (N := some 5) (mr_ [9, 1]) rfl rfl (one_of HT_.out βPb) (by decide) (fun K hK => ?_)
       refine box_step ?hg (N := 5) ?hd (cs := #[.slice none 0 0, .slice none 0 0, .string (⟨#[]⟩ : ByteArray), .int .i64 0]) (t := 30) ?hr ?_; (case hd => exact (by rfl)); (case hg => exact (by rfl)); (case hr => exact βMb)
       intro gb257 hg w31 hbox hb
       replace HO_233000 := zR_ HO_233000.out hb
       replace HO_233001 := zR_ HO_233001.out hb
       replace HO251 := zR_ HO251.out hb
       replace HO254 := zR_ HO254.out hb
       replace HB := zA_ (below_step βqa hb)
       have BK257 := zA_ (hbox)
       have GW257 := zA_ ((by rw [hg]; exact (keep_size (w := w) (g := g) (row := none) βIa) : w.heap.size ≤ gb257))
       have GE257 := zA_ ((Nat.le_trans HW0.out (by rw [hg]; exact (keep_size (w := w) (g := g) (row := none) βIa) : w.heap.size ≤ gb257) : w0.heap.size ≤ gb257))
       replace HK := zA_ (KeepBut.trans βIa (KeepBut.of_below hb g none) (.inl rfl))
       have NB221_257 := zA_ ((by rw [hg]; exact Nat.ne_of_lt (blk_lt (g := gb221) (o := .cells #[.slice none 0 0, .slice none 0 0] 26 (0, 0)) (zb_ BK221.out)) : gb221 ≠ gb257))
       have NB257_221 := zA_ ((by rw [hg]; exact Nat.ne_of_gt (blk_lt (g := gb221) (o := .cells #[.slice none 0 0, .slice none 0 0] 26 (0, 0)) (zb_ BK221.out)) : gb257 ≠ gb221))
       replace BK221 := zB_ BK221.out hb
       have NB232_257 := zA_ ((by rw [hg]; exact Nat.ne_of_lt (blk_lt (g := gb232) (o := .cells #[.slice Ao23 x233000_1.length co23, .slice Ao24 x233001_1.length co24] 26 (0, 0)) (zb_ BK232.out)) : gb232 ≠ gb257))
       have NB257_232 := zA_ ((by rw [hg]; exact Nat.ne_of_gt (blk_lt (g := gb232) (o := .cells #[.slice Ao23 x233000_1.length co23, .slice Ao24 x233001_1.length co24] 26 (0, 0)) (zb_ BK232.out)) : gb257 ≠ gb232))
       replace BK232 := zB_ BK232.out hb
       have NB0_257 := zA_ ((by rw [hg]; exact Nat.ne_of_lt (IsS101.lt (show IsS101 w0 _ g s0_0 t246 t247 t248 from by repeat (first | (with_reducible first | exact HI0.out | apply IsS101.alloc | apply IsS101.drewN | apply IsS101.drew | apply IsS101.set_1 | apply IsS101.set_2 | apply IsS101.set_3 | refine IsS101.far ?_ NB0_221.out _ | refine IsS101.far ?_ NB0_232.out _) | exact HI0.out))) : g ≠ gb257))
       have NB257_0 := zA_ ((by rw [hg]; exact Nat.ne_of_gt (IsS101.lt (show IsS101 w0 _ g s0_0 t246 t247 t248 from by repeat (first | (with_reducible first | exact HI0.out | apply IsS101.alloc | apply IsS101.drewN | apply IsS101.drew | apply IsS101.set_1 | apply IsS101.set_2 | apply IsS101.set_3 | refine IsS101.far ?_ NB0_221.out _ | refine IsS101.far ?_ NB0_232.out _) | exact HI0.out))) : gb257 ≠ g))
       replace HI0 := zA_ (IsS101.below βV hb)
       clear hb hbox hg
       refine hK.out _ _ ⟨cy_ BK232.out 0, cy_ BK232.out 1⟩ (fun hHeld => ?_)
       clear hK K
       refine norm_ (a' := ?_) ?_ ?_
       rotate_left
       ·
        show Act.put _ (some 5) _ = _
        simp only [Act.put, List.setIfInBounds_toArray, List.set_cons_zero, List.set_cons_succ, i64_w, i32_w]
        rfl
       exact norm_ βHa (hJ2_5_6_7_8 (v250, v253, gb257) _ ⟨hHeld, (zr_ HO251.out), (zr_ HO254.out), (zr_ HO_233000.out), (zr_ HO_233001.out), (zb_ BK221.out), (zb_ BK232.out), (zb_ BK257.out), GW257.out, GE257.out, NB0_257.out, NB257_0.out, NB221_257.out, NB257_221.out, NB232_257.out, NB257_232.out, βR, βja, βW⟩)
     rintro ⟨v250, v253, gb257⟩ w31 ⟨hS_, h0_, h1_, h2_, h3_, h4_, h5_, h6_, h7_, h8_, h9_, h10_, h11_, h12_, h13_, h14_, h15_, h16_, h17_⟩
     have HO251 : Aside0 (Kd.R Kd.string 9 w31 w.heap.size (fun k_ => some k_ ≠ (.slice Ao23 x233000_1.length co23 : Value).ownBlock) v250 t249) := ⟨h0_⟩
     have HO254 : Aside0 (Kd.R k83 83 w31 w.heap.size (fun k_ => some k_ ≠ (.slice Ao24 x233001_1.length co24 : Value).ownBlock) v253 t252) := ⟨h1_⟩
     replace HO_233000 : Aside0 (Kd.R Kd.string 9 w31 w.heap.size (fun k_ => some k_ ≠ (v250 : Value).ownBlock) (.slice Ao23 x233000_1.length co23) x233000_1) := ⟨h2_⟩
     replace HO_233001 : Aside0 (Kd.R k83 83 w31 w.heap.size (fun k_ => some k_ ≠ (v253 : Value).ownBlock) (.slice Ao24 x233001_1.length co24) x233001_1) := ⟨h3_⟩
     replace BK221 : Aside0 (w31.heap[gb221]? = some (.cells #[.slice none 0 0, .slice none 0 0] 26 (0, 0))) := ⟨h4_⟩
     replace BK232 : Aside0 (w31.heap[gb232]? = some (.cells #[.slice Ao23 x233000_1.length co23, .slice Ao24 x233001_1.length co24] 26 (0, 0))) := ⟨h5_⟩
     have BK257 : Aside0 (w31.heap[gb257]? = some (.cells #[.slice none 0 0, .slice none 0 0, .string (⟨#[]⟩ : ByteArray), .int .i64 0] 30 (0, 0))) := ⟨h6_⟩
     have GW257 : Aside0 (w.heap.size ≤ gb257) := ⟨h7_⟩
     have GE257 : Aside0 (w0.heap.size ≤ gb257) := ⟨h8_⟩
     have NB0_257 : Aside0 (g ≠ gb257) := ⟨h9_⟩
     have NB257_0 : Aside0 (gb257 ≠ g) := ⟨h10_⟩
     have NB221_257 : Aside0 (gb221 ≠ gb257) := ⟨h11_⟩
     have NB257_221 : Aside0 (gb257 ≠ gb221) := ⟨h12_⟩
     have NB232_257 : Aside0 (gb232 ≠ gb257) := ⟨h13_⟩
     have NB257_232 : Aside0 (gb257 ≠ gb232) := ⟨h14_⟩
     replace HI0 : Aside0 (IsS101 w0 w31 g s0_0 t246 t247 t248) := ⟨h15_⟩
     replace HK : Aside0 (KeepBut w w31 g none) := ⟨h16_⟩
     replace HB : Aside0 (Below w0.heap.size w0 w31) := ⟨h17_⟩
     clear h0_ h1_ h2_ h3_ h4_ h5_ h6_ h7_ h8_ h9_ h10_ h11_ h12_ h13_ h14_ h15_ h16_ h17_
     have hHeld : w31.cell? ⟨gb232, 0, none⟩ = some (.slice Ao23 x233000_1.length co23) ∧ w31.cell? ⟨gb232, 1, none⟩ = some (.slice Ao24 x233001_1.length co24) := hS_
     obtain ⟨Ao32, co32, eo32⟩ := Kd.R_slice HO251.out
     (first | subst eo32 | (injection eo32 with f1_ f2_ f3_; have f4_ := f1_.symm; have f5_ := f3_.symm; clear f1_ f2_ f3_; subst f4_; subst f5_))
     obtain ⟨Ao34, co34, eo34⟩ := Kd.R_slice HO254.out
     (first | subst eo34 | (injection eo34 with f1_ f2_ f3_; have f4_ := f1_.symm; have f5_ := f3_.symm; clear f1_ f2_ f3_; subst f4_; subst f5_))
     refine norm_ (a' := ?_) ?_ ?_
     rotate_left
     ·
      simp only [putAll, Act.put, List.setIfInBounds_toArray, List.set_cons_zero, List.set_cons_succ]
      rfl
     refine one_ (i := 9) (N := none) (mr_ [10]) rfl rfl (one_of HT_.out βPb) (by decide) (fun K hK => ?_)
     have hs33 := cz_ BK257.out 0 (.slice none 0 0) rfl
     have hfs33 := blk_frozen BK257.out 0
     have hns33_0 := NB221_257.out
     have hns33_1 := NB232_257.out
     have hms33_0 := NB257_221.out
     have hms33_1 := NB257_232.out
     have hs35 := cz_ BK257.out 1 (.slice none 0 0) rfl
     have hfs35 := blk_frozen BK257.out 1
     have hns35_0 := NB221_257.out
     have hns35_1 := NB232_257.out
     have hms35_0 := NB257_221.out
     have hms35_1 := NB257_232.out
     have hs36 := cz_ BK257.out 2 (.string (⟨#[]⟩ : ByteArray)) rfl
     have hfs36 := blk_frozen BK257.out 2
     have hns36_0 := NB221_257.out
     have hns36_1 := NB232_257.out
     have hms36_0 := NB257_221.out
     have hms36_1 := NB257_232.out
     have hs37 := cz_ BK257.out 3 (.int .i64 0) rfl
     have hfs37 := blk_frozen BK257.out 3
     have hns37_0 := NB221_257.out
     have hns37_1 := NB232_257.out
     have hms37_0 := NB257_221.out
     have hms37_1 := NB257_232.out
     refine skip_ (w1 := ?_) (by rfl) rfl ?_ ?_
     rotate_left
     ·
      go_simp
      rfl
     refine hK.out _ _ ⟨((cell_far (p := ⟨gb257, _, none⟩) NB232_257.out _).trans (((cell_far (p := ⟨gb257, _, none⟩) NB232_257.out _).trans (((cell_far (p := ⟨gb257, _, none⟩) NB232_257.out _).trans (((cell_far (p := ⟨gb257, _, none⟩) NB232_257.out _).trans (hHeld.1)))))))), ((cell_far (p := ⟨gb257, _, none⟩) NB232_257.out _).trans (((cell_far (p := ⟨gb257, _, none⟩) NB232_257.out _).trans (((cell_far (p := ⟨gb257, _, none⟩) NB232_257.out _).trans (((cell_far (p := ⟨gb257, _, none⟩) NB232_257.out _).trans (hHeld.2))))))))⟩ (fun hHeld => ?_)
     clear hK K
     refine done_ (done_of HT_.out βPb) ?_
     go_upto_if 25 with (first | ((with_reducible refine gate_callee (f := 46) rfl ?_); refine goesL_ (some 25) rfl rfl Try.func46 βPb rfl #[.pointer (some ⟨g, 0, none⟩), .int .i64 4] rfl zs_ ?_; (with_reducible refine (spec_l01Src_one.calls g s0_0 t246 t247 t248 4 t258 t259 t260 t261 w0 _ ?side1 ?side2 A21.out).mono ?_); (case side1 => exact βR); (case side2 => exact βW); rintro e w38 ⟨rfl, hi, hb, hk⟩; refine ⟨_, rfl, ?_⟩; replace HO_233000 := zA_ (Kd.R_mono (Kd.R_keep (IsS101.apart (show IsS101 w0 _ g s0_0 t246 t247 t248 from by repeat (first | (with_reducible first | exact HI0.out | apply IsS101.alloc | apply IsS101.drewN | apply IsS101.drew | apply IsS101.set_1 | apply IsS101.set_2 | apply IsS101.set_3 | refine IsS101.far ?_ NB0_221.out _ | refine IsS101.far ?_ NB0_232.out _ | refine IsS101.far ?_ NB0_257.out _) | exact HI0.out)) (by (with_reducible repeat (first | apply Kd.R_alloc | apply Kd.R_drewN | apply Kd.R_drew)); exact (Kd.R_mono (Kd.R_far (p := ⟨gb257, 3, none⟩) (Kd.R_far (p := ⟨gb257, 2, none⟩) (Kd.R_far (p := ⟨gb257, 1, none⟩) (Kd.R_far (p := ⟨gb257, 0, none⟩) (Kd.R_types HO_233000.out BK257.out (by decide)) (fun _ hk => hk.2) (.slice Ao32 t249.length co32)) (fun _ hk => hk.2) (.slice Ao34 t252.length co34)) (fun _ hk => hk.2) (.string t255)) (fun _ hk => hk.2) (.int .i64 t256)) (fun _ h_ => h_.1))) (by decide)) hk (fun _ h => h.2)) (fun _ h => h.1)); replace HO_233001 := zA_ (Kd.R_mono (Kd.R_keep (IsS101.apart (show IsS101 w0 _ g s0_0 t246 t247 t248 from by repeat (first | (with_reducible first | exact HI0.out | apply IsS101.alloc | apply IsS101.drewN | apply IsS101.drew | apply IsS101.set_1 | apply IsS101.set_2 | apply IsS101.set_3 | refine IsS101.far ?_ NB0_221.out _ | refine IsS101.far ?_ NB0_232.out _ | refine IsS101.far ?_ NB0_257.out _) | exact HI0.out)) (by (with_reducible repeat (first | apply Kd.R_alloc | apply Kd.R_drewN | apply Kd.R_drew)); exact (Kd.R_mono (Kd.R_far (p := ⟨gb257, 3, none⟩) (Kd.R_far (p := ⟨gb257, 2, none⟩) (Kd.R_far (p := ⟨gb257, 1, none⟩) (Kd.R_far (p := ⟨gb257, 0, none⟩) (Kd.R_types HO_233001.out BK257.out (by decide)) (fun _ hk => hk.2) (.slice Ao32 t249.length co32)) (fun _ hk => hk.2) (.slice Ao34 t252.length co34)) (fun _ hk => hk.2) (.string t255)) (fun _ hk => hk.2) (.int .i64 t256)) (fun _ h_ => h_.1))) (by decide)) hk (fun _ h => h.2)) (fun _ h => h.1)); replace BK221 := zA_ (KeepBut.blk hk (g' := gb221) (o := .cells #[.slice none 0 0, .slice none 0 0] 26 (0, 0)) (zf4_ NB221_257.out NB221_257.out NB221_257.out NB221_257.out BK221.out) NB221_0.out (by simp)); replace BK232 := zA_ (KeepBut.blk hk (g' := gb232) (o := .cells #[.slice Ao23 x233000_1.length co23, .slice Ao24 x233001_1.length co24] 26 (0, 0)) (zf4_ NB232_257.out NB232_257.out NB232_257.out NB232_257.out BK232.out) NB232_0.out (by simp)); replace HO251 := zA_ (Kd.R_mono (Kd.R_keep (IsS101.apart (show IsS101 w0 _ g s0_0 t246 t247 t248 from by repeat (first | (with_reducible first | exact HI0.out | apply IsS101.alloc | apply IsS101.drewN | apply IsS101.drew | apply IsS101.set_1 | apply IsS101.set_2 | apply IsS101.set_3 | refine IsS101.far ?_ NB0_221.out _ | refine IsS101.far ?_ NB0_232.out _ | refine IsS101.far ?_ NB0_257.out _) | exact HI0.out)) (by (with_reducible repeat (first | apply Kd.R_alloc | apply Kd.R_drewN | apply Kd.R_drew)); exact (Kd.R_mono (Kd.R_far (p := ⟨gb257, 3, none⟩) (Kd.R_far (p := ⟨gb257, 2, none⟩) (Kd.R_far (p := ⟨gb257, 1, none⟩) (Kd.R_far (p := ⟨gb257, 0, none⟩) (Kd.R_types HO251.out BK257.out (by decide)) (fun _ hk => hk.2) (.slice Ao32 t249.length co32)) (fun _ hk => hk.2) (.slice Ao34 t252.length co34)) (fun _ hk => hk.2) (.string t255)) (fun _ hk => hk.2) (.int .i64 t256)) (fun _ h_ => h_.1))) (by decide)) hk (fun _ h => h.2)) (fun _ h => h.1)); replace HO254 := zA_ (Kd.R_mono (Kd.R_keep (IsS101.apart (show IsS101 w0 _ g s0_0 t246 t247 t248 from by repeat (first | (with_reducible first | exact HI0.out | apply IsS101.alloc | apply IsS101.drewN | apply IsS101.drew | apply IsS101.set_1 | apply IsS101.set_2 | apply IsS101.set_3 | refine IsS101.far ?_ NB0_221.out _ | refine IsS101.far ?_ NB0_232.out _ | refine IsS101.far ?_ NB0_257.out _) | exact HI0.out)) (by (with_reducible repeat (first | apply Kd.R_alloc | apply Kd.R_drewN | apply Kd.R_drew)); exact (Kd.R_mono (Kd.R_far (p := ⟨gb257, 3, none⟩) (Kd.R_far (p := ⟨gb257, 2, none⟩) (Kd.R_far (p := ⟨gb257, 1, none⟩) (Kd.R_far (p := ⟨gb257, 0, none⟩) (Kd.R_types HO254.out BK257.out (by decide)) (fun _ hk => hk.2) (.slice Ao32 t249.length co32)) (fun _ hk => hk.2) (.slice Ao34 t252.length co34)) (fun _ hk => hk.2) (.string t255)) (fun _ hk => hk.2) (.int .i64 t256)) (fun _ h_ => h_.1))) (by decide)) hk (fun _ h => h.2)) (fun _ h => h.1)); replace BK257 := zA_ (KeepBut.blk hk (g' := gb257) (o := .cells #[.slice Ao32 t249.length co32, .slice Ao34 t252.length co34, .string t255, .int .i64 t256] 30 (0, 0)) (by (with_reducible repeat (first | refine blk_drewN ?_ _ | refine blk_drew ?_ | refine blk_alloc ?_ _)); refine blk_put (cs := #[.slice Ao32 t249.length co32, .slice Ao34 t252.length co34, .string t255, .int .i64 0]) ?_ 3 _ rfl; (with_reducible repeat (first | refine blk_drewN ?_ _ | refine blk_drew ?_ | refine blk_alloc ?_ _)); refine blk_put (cs := #[.slice Ao32 t249.length co32, .slice Ao34 t252.length co34, .string (⟨#[]⟩ : ByteArray), .int .i64 0]) ?_ 2 _ rfl; (with_reducible repeat (first | refine blk_drewN ?_ _ | refine blk_drew ?_ | refine blk_alloc ?_ _)); refine blk_put (cs := #[.slice Ao32 t249.length co32, .slice none 0 0, .string (⟨#[]⟩ : ByteArray), .int .i64 0]) ?_ 1 _ rfl; (with_reducible repeat (first | refine blk_drewN ?_ _ | refine blk_drew ?_ | refine blk_alloc ?_ _)); refine blk_put (cs := #[.slice none 0 0, .slice none 0 0, .string (⟨#[]⟩ : ByteArray), .int .i64 0]) ?_ 0 _ rfl; (with_reducible repeat (first | refine blk_drewN ?_ _ | refine blk_drew ?_ | refine blk_alloc ?_ _)); exact BK257.out) NB257_0.out (by simp)); replace HK := zA_ (KeepBut.trans βja hk (.inl rfl)); replace HB := zA_ (hb); replace HI0 := zA_ (hi); (try clear hb); (try clear hb2); (try clear hk); (try clear hi)))
     (try simp only [Act.put, List.setIfInBounds_toArray, List.set_cons_zero, List.set_cons_succ])
     go_cut [] (fun wc => ∃ (kq : Nat) (x258000_21 : List ByteArray) (x258001_21 : List (S83)) (x258002_21 : ByteArray) (x258003_21 : Int) (u258000 : Value) (u258001 : Value), Aside0 (spec_l01Src_l03Flash.j1 kq x4_1 s0_0 t259 t260 t261 x233000_1 x233001_1 x258000_21 x258001_21 x258002_21 x258003_21 = some (r1, r2, r3, r4, r5)) ∧ Aside0 (kq ≤ k1) ∧ Aside0 (Kd.R Kd.string 9 wc w.heap.size (fun k_ => some k_ ≠ (u258000 : Value).ownBlock) (.slice Ao23 x233000_1.length co23) x233000_1) ∧ Aside0 (Kd.R k83 83 wc w.heap.size (fun k_ => some k_ ≠ (u258001 : Value).ownBlock) (.slice Ao24 x233001_1.length co24) x233001_1) ∧ Aside0 (Kd.R Kd.string 9 wc w.heap.size (fun k_ => some k_ ≠ ((.slice Ao23 x233000_1.length co23) : Value).ownBlock) u258000 x258000_21) ∧ Aside0 (Kd.R k83 83 wc w.heap.size (fun k_ => some k_ ≠ ((.slice Ao24 x233001_1.length co24) : Value).ownBlock) u258001 x258001_21) ∧ Aside0 (wc.heap[gb221]? = some (.cells #[(.slice none 0 0), (.slice none 0 0)] 26 (0, 0))) ∧ Aside0 (wc.heap[gb232]? = some (.cells #[(.slice Ao23 x233000_1.length co23), (.slice Ao24 x233001_1.length co24)] 26 (0, 0))) ∧ Aside0 (wc.heap[gb257]? = some (.cells #[u258000, u258001, .string x258002_21, .int .i64 x258003_21] 30 (0, 0))) ∧ Aside0 (IsS101 w0 wc g s0_0 t259 t260 t261) ∧ Aside0 (KeepBut w wc g none) ∧ Aside0 (Below w0.heap.size w0 wc))
     case first =>
      have H := HC22.out
      clear HC22
      by_cases c39 : t258 = true
      ·
       subst c39
       have H1 : ((spec_FlashSync.f k1 x233000_1 x233001_1).bind fun bt262 => (spec_l01Src_l03Flash.j1 k1 x4_1 s0_0 t259 t260 t261 x233000_1 x233001_1 bt262.1 bt262.2.1 bt262.2.2.1 bt262.2.2.2)) = some (r1, r2, r3, r4, r5) := by rw [if_pos rfl] at H; exact H
       clear H
       have H := H1
       clear H1
       replace H := Option.bind_eq_some_iff.mp H
       obtain ⟨⟨t262, t265, t268, t269⟩, A400, H⟩ := H
       (try dsimp -simprocs only at H)
       have A40 := zA_ A400
       clear A400
       have H' := zA_ H
       clear H
       have hnb41 := NB232_221.out
       have hnc41 := NB221_232.out
       have hnb42 := NB232_257.out
       have hnc42 := NB257_232.out
       have hnb43 := NB232_0.out
       have hnc43 := NB0_232.out
       have hcz44_0 := cz_ BK232.out 0 (.slice Ao23 x233000_1.length co23) rfl
       have hcz44_1 := cz_ BK232.out 1 (.slice Ao24 x233001_1.length co24) rfl
       have hfz44_0 := blk_frozen BK232.out 0
       have hfz44_1 := blk_frozen BK232.out 1
       go_wp2_with (first | ((with_reducible refine gate_callee (f := 17) rfl ?_); refine goesL_ (some 27) rfl rfl Try.func17 βPb rfl #[.agg #[.slice Ao23 x233000_1.length co23, .slice Ao24 x233001_1.length co24]] rfl zs_ ?_; (with_reducible refine (spec_FlashSync.calls k1 _ _ x233000_1 _ _ x233001_1 t262 t265 t268 t269 _ ?side1 ?side2 ?side3 ?side4 A40.out).mono ?_); (case side1 => exact zc_ (Kd.R_reads' HO_233000.out).2.2); (case side2 => exact (Kd.R_reads' HO_233000.out).2.1); (case side3 => exact zc_ (Kd.R_reads' HO_233001.out).2.2); (case side4 => exact (Kd.R_reads' HO_233001.out).2.1); rintro e w45 ⟨v263, v266, rfl, ho0, ho1, hb⟩; refine ⟨_, rfl, ?_⟩; have HO264 := zA_ (Kd.R_lower (Kd.R_new' (Kd.R_new' ho0 (Kd.R_lt (zr_ HO_233000.out))) (Kd.R_lt (zr_ HO251.out))) (keep_size (w := w) (g := g) (row := none) βja)); replace HO_233000 := zE_ HO_233000.out ho0 hb; replace HO251 := zE_ HO251.out ho0 hb; have HO267 := zA_ (Kd.R_lower (Kd.R_new' (Kd.R_new' ho1 (Kd.R_lt (zr_ HO_233001.out))) (Kd.R_lt (zr_ HO254.out))) (keep_size (w := w) (g := g) (row := none) βja)); replace HO_233001 := zE_ HO_233001.out ho1 hb; replace HO254 := zE_ HO254.out ho1 hb; replace BK221 := zB_ BK221.out hb; replace BK232 := zB_ BK232.out hb; replace BK257 := zB_ BK257.out hb; replace HK := zA_ (KeepBut.trans βja (KeepBut.of_below hb g none) (.inl rfl)); replace HB := zA_ (below_step βW hb); replace HI0 := zA_ (IsS101.below βR hb); (try clear hb); (try clear hb2); (try clear hk); (try clear hi); (try clear ho0); (try clear ho1); obtain ⟨Ao46, co46, eo46⟩ := Kd.R_slice HO264.out; subst eo46; have hnb47 := NB257_221.out; have hnc47 := NB221_257.out; have hnb48 := NB257_0.out; have hnc48 := NB0_257.out; have hcz49_0 := cz_ BK257.out 0 (.slice Ao32 t249.length co32) rfl; have hcz49_1 := cz_ BK257.out 1 (.slice Ao34 t252.length co34) rfl; have hcz49_2 := cz_ BK257.out 2 (.string t255) rfl; have hcz49_3 := cz_ BK257.out 3 (.int .i64 t256) rfl; have hfz49_0 := blk_frozen BK257.out 0; have hfz49_1 := blk_frozen BK257.out 1; have hfz49_2 := blk_frozen BK257.out 2; have hfz49_3 := blk_frozen BK257.out 3; obtain ⟨Ao50, co50, eo50⟩ := Kd.R_slice HO267.out; subst eo50))
       go_meet
       case rel => exact ⟨_, (t262), (t265), (t268), (t269), (.slice Ao46 t262.length co46), (.slice Ao50 t265.length co50), H', ⟨βJb⟩, ⟨(by (with_reducible repeat (first | apply Kd.R_alloc | apply Kd.R_drewN | apply Kd.R_drew)); exact Kd.R_mono (Kd.R_far (p := ⟨gb257, 3, none⟩) (Kd.R_far (p := ⟨gb257, 2, none⟩) (Kd.R_far (p := ⟨gb257, 1, none⟩) (Kd.R_far (p := ⟨gb257, 0, none⟩) (Kd.R_types HO_233000.out BK257.out (by decide)) (fun _ hk => hk.2) (.slice Ao46 t262.length co46)) (fun _ hk => hk.2) (.slice Ao50 t265.length co50)) (fun _ hk => hk.2) (.string t268)) (fun _ hk => hk.2) (.int .i64 t269)) (fun _ hk => hk.1.2))⟩, ⟨(by (with_reducible repeat (first | apply Kd.R_alloc | apply Kd.R_drewN | apply Kd.R_drew)); exact Kd.R_mono (Kd.R_far (p := ⟨gb257, 3, none⟩) (Kd.R_far (p := ⟨gb257, 2, none⟩) (Kd.R_far (p := ⟨gb257, 1, none⟩) (Kd.R_far (p := ⟨gb257, 0, none⟩) (Kd.R_types HO_233001.out BK257.out (by decide)) (fun _ hk => hk.2) (.slice Ao46 t262.length co46)) (fun _ hk => hk.2) (.slice Ao50 t265.length co50)) (fun _ hk => hk.2) (.string t268)) (fun _ hk => hk.2) (.int .i64 t269)) (fun _ hk => hk.1.2))⟩, ⟨(by (with_reducible repeat (first | apply Kd.R_alloc | apply Kd.R_drewN | apply Kd.R_drew)); exact Kd.R_mono (Kd.R_far (p := ⟨gb257, 3, none⟩) (Kd.R_far (p := ⟨gb257, 2, none⟩) (Kd.R_far (p := ⟨gb257, 1, none⟩) (Kd.R_far (p := ⟨gb257, 0, none⟩) (Kd.R_types HO264.out BK257.out (by decide)) (fun _ hk => hk.2) (.slice Ao46 t262.length co46)) (fun _ hk => hk.2) (.slice Ao50 t265.length co50)) (fun _ hk => hk.2) (.string t268)) (fun _ hk => hk.2) (.int .i64 t269)) (fun _ hk => hk.1.1.2))⟩, ⟨(by (with_reducible repeat (first | apply Kd.R_alloc | apply Kd.R_drewN | apply Kd.R_drew)); exact Kd.R_mono (Kd.R_far (p := ⟨gb257, 3, none⟩) (Kd.R_far (p := ⟨gb257, 2, none⟩) (Kd.R_far (p := ⟨gb257, 1, none⟩) (Kd.R_far (p := ⟨gb257, 0, none⟩) (Kd.R_types HO267.out BK257.out (by decide)) (fun _ hk => hk.2) (.slice Ao46 t262.length co46)) (fun _ hk => hk.2) (.slice Ao50 t265.length co50)) (fun _ hk => hk.2) (.string t268)) (fun _ hk => hk.2) (.int .i64 t269)) (fun _ hk => hk.1.1.2))⟩, ⟨zf4_ NB221_257.out NB221_257.out NB221_257.out NB221_257.out BK221.out⟩, ⟨zf4_ NB232_257.out NB232_257.out NB232_257.out NB232_257.out BK232.out⟩, ⟨(by (with_reducible repeat (first | refine blk_drewN ?_ _ | refine blk_drew ?_ | refine blk_alloc ?_ _)); refine blk_put (cs := #[.slice Ao46 t262.length co46, .slice Ao50 t265.length co50, .string t268, .int .i64 t256]) ?_ 3 _ rfl; (with_reducible repeat (first | refine blk_drewN ?_ _ | refine blk_drew ?_ | refine blk_alloc ?_ _)); refine blk_put (cs := #[.slice Ao46 t262.length co46, .slice Ao50 t265.length co50, .string t255, .int .i64 t256]) ?_ 2 _ rfl; (with_reducible repeat (first | refine blk_drewN ?_ _ | refine blk_drew ?_ | refine blk_alloc ?_ _)); refine blk_put (cs := #[.slice Ao46 t262.length co46, .slice Ao34 t252.length co34, .string t255, .int .i64 t256]) ?_ 1 _ rfl; (with_reducible repeat (first | refine blk_drewN ?_ _ | refine blk_drew ?_ | refine blk_alloc ?_ _)); refine blk_put (cs := #[.slice Ao32 t249.length co32, .slice Ao34 t252.length co34, .string t255, .int .i64 t256]) ?_ 0 _ rfl; (with_reducible repeat (first | refine blk_drewN ?_ _ | refine blk_drew ?_ | refine blk_alloc ?_ _)); exact BK257.out)⟩, ⟨βR⟩, ⟨βja⟩, ⟨βW⟩⟩
      ·
       replace c39 := Bool.eq_false_iff.mpr c39
       subst c39
       have H1 : (spec_l01Src_l03Flash.j1 k1 x4_1 s0_0 t259 t260 t261 x233000_1 x233001_1 t249 t252 t255 t256) = some (r1, r2, r3, r4, r5) := by rw [if_neg (show ¬ (false = true) by decide)] at H; exact H
       clear H
       have H := H1
       clear H1
       have H' := zA_ H
       clear H
       go_wp2
       go_meet
       case rel => exact ⟨_, (t249), (t252), (t255), (t256), (.slice Ao32 t249.length co32), (.slice Ao34 t252.length co34), H', ⟨βJb⟩, ⟨zr_ HO_233000.out⟩, ⟨zr_ HO_233001.out⟩, ⟨zr_ HO251.out⟩, ⟨zr_ HO254.out⟩, ⟨zb_ BK221.out⟩, ⟨zb_ BK232.out⟩, ⟨zb_ BK257.out⟩, ⟨βR⟩, ⟨βja⟩, ⟨βW⟩⟩
     case rest =>
      clear HC22
      try clear c1
      try clear p2
      try clear c3
      try clear c4
      try clear c14
      try clear c17
      try clear c39
      try clear c41
      try clear c42
      try clear c43
      try clear c46
      try clear c47
      try clear c48
      try clear hcz44_0
      try clear hcz44_1
      try clear hcz49_0
      try clear hcz49_1
      try clear hcz49_2
      try clear hcz49_3
      try clear hfz44_0
      try clear hfz44_1
      try clear hfz49_0
      try clear hfz49_1
      try clear hfz49_2
      try clear hfz49_3
      obtain ⟨kq, x258000_21, x258001_21, x258002_21, x258003_21, u258000, u258001, HA, HJ21, HO_233000, HO_233001, HO_258000, HO_258001, BK221, BK232, BK257, HI0, HK, HB⟩ := hcut
      cases kq with
      | zero => exact absurd HA.out (by simp [spec_l01Src_l03Flash.j1])
      | succ kj21 =>
       have H := HA.out
       clear HA
       simp only [spec_l01Src_l03Flash.j1] at H
       by_cases c51 : x258003_21 = 0
       ·
        rw [if_pos c51] at H
        have c51b0 : (x258003_21 == 0) = true := beq_iff_eq.mpr c51
        have c51b1 : (x258003_21 != 0) = false := bne_eq_false_iff_eq.mpr c51
        clear c51
        have H' := zA_ H
        clear H
        have hnb52 := NB257_221.out
        have hnc52 := NB221_257.out
        have hnb53 := NB257_232.out
        have hnc53 := NB232_257.out
        have hnb54 := NB257_0.out
        have hnc54 := NB0_257.out
        have hcz55_0 : wc.cell? ⟨gb257, 0, none⟩ = some (u258000) := (blk_cell BK257.out 0).trans rfl
        have hcz55_1 : wc.cell? ⟨gb257, 1, none⟩ = some (u258001) := (blk_cell BK257.out 1).trans rfl
        have hcz55_2 := cz_ BK257.out 2 (.string x258002_21) rfl
        have hcz55_3 := cz_ BK257.out 3 (.int .i64 x258003_21) rfl
        have hfz55_0 := blk_frozen BK257.out 0
        have hfz55_1 := blk_frozen BK257.out 1
        have hfz55_2 := blk_frozen BK257.out 2
        have hfz55_3 := blk_frozen BK257.out 3
        obtain ⟨Ao56, co56, eo56⟩ := Kd.R_slice HO_258000.out
        subst eo56
        have hnb57 := NB232_221.out
        have hnc57 := NB221_232.out
        have hnb58 := NB232_0.out
        have hnc58 := NB0_232.out
        have hcz59_0 := cz_ BK232.out 0 (.slice Ao23 x233000_1.length co23) rfl
        have hcz59_1 := cz_ BK232.out 1 (.slice Ao24 x233001_1.length co24) rfl
        have hfz59_0 := blk_frozen BK232.out 0
        have hfz59_1 := blk_frozen BK232.out 1
        obtain ⟨Ao60, co60, eo60⟩ := Kd.R_slice HO_258001.out
        subst eo60
        go_wp2
        go_meet
        case rel => exact ⟨_, (t259), (t260), (t261), (x258000_21), (x258001_21), (.slice Ao56 x258000_21.length co56), (.slice Ao60 x258001_21.length co60), H', ⟨(by have := HK1.out; have := HJ21.out; first | omega | exact Nat.le_refl _)⟩, ⟨(by (with_reducible repeat (first | apply Kd.R_alloc | apply Kd.R_drewN | apply Kd.R_drew)); exact Kd.R_mono (Kd.R_far (p := ⟨gb232, 1, none⟩) (Kd.R_far (p := ⟨gb232, 0, none⟩) (Kd.R_types HO_258000.out BK232.out (by decide)) (fun _ hk => hk.2) (.slice Ao56 x258000_21.length co56)) (fun _ hk => hk.2) (.slice Ao60 x258001_21.length co60)) (fun _ hk => trivial))⟩, ⟨(by (with_reducible repeat (first | apply Kd.R_alloc | apply Kd.R_drewN | apply Kd.R_drew)); exact Kd.R_mono (Kd.R_far (p := ⟨gb232, 1, none⟩) (Kd.R_far (p := ⟨gb232, 0, none⟩) (Kd.R_types HO_258001.out BK232.out (by decide)) (fun _ hk => hk.2) (.slice Ao56 x258000_21.length co56)) (fun _ hk => hk.2) (.slice Ao60 x258001_21.length co60)) (fun _ hk => trivial))⟩, ⟨zf2_ NB221_232.out NB221_232.out BK221.out⟩, ⟨(by (with_reducible repeat (first | refine blk_drewN ?_ _ | refine blk_drew ?_ | refine blk_alloc ?_ _)); refine blk_put (cs := #[.slice Ao56 x258000_21.length co56, .slice Ao24 x233001_1.length co24]) ?_ 1 _ rfl; (with_reducible repeat (first | refine blk_drewN ?_ _ | refine blk_drew ?_ | refine blk_alloc ?_ _)); refine blk_put (cs := #[.slice Ao23 x233000_1.length co23, .slice Ao24 x233001_1.length co24]) ?_ 0 _ rfl; (with_reducible repeat (first | refine blk_drewN ?_ _ | refine blk_drew ?_ | refine blk_alloc ?_ _)); exact BK232.out)⟩, ⟨βR⟩, ⟨βja⟩, ⟨βW⟩⟩
       ·
        rw [if_neg c51] at H
        have c51b0 : (x258003_21 == 0) = false := beq_eq_false_iff_ne.mpr c51
        have c51b1 : (x258003_21 != 0) = true := bne_iff_ne.mpr c51
        have H' := zA_ H
        clear H
        have hnb61 := NB257_221.out
        have hnc61 := NB221_257.out
        have hnb62 := NB257_232.out
        have hnc62 := NB232_257.out
        have hnb63 := NB257_0.out
        have hnc63 := NB0_257.out
        have hcz64_0 : wc.cell? ⟨gb257, 0, none⟩ = some (u258000) := (blk_cell BK257.out 0).trans rfl
        have hcz64_1 : wc.cell? ⟨gb257, 1, none⟩ = some (u258001) := (blk_cell BK257.out 1).trans rfl
        have hcz64_2 := cz_ BK257.out 2 (.string x258002_21) rfl
        have hcz64_3 := cz_ BK257.out 3 (.int .i64 x258003_21) rfl
        have hfz64_0 := blk_frozen BK257.out 0
        have hfz64_1 := blk_frozen BK257.out 1
        have hfz64_2 := blk_frozen BK257.out 2
        have hfz64_3 := blk_frozen BK257.out 3
        go_wp2
        go_meet
        case rel => exact ⟨_, (t259), (t260), (t261), (x233000_1), (x233001_1), (.slice Ao23 x233000_1.length co23), (.slice Ao24 x233001_1.length co24), H', ⟨(by have := HK1.out; have := HJ21.out; first | omega | exact Nat.le_refl _)⟩, ⟨(by (with_reducible repeat (first | apply Kd.R_alloc | apply Kd.R_drewN | apply Kd.R_drew)); exact Kd.R_mono HO_233000.out (fun _ hk => trivial))⟩, ⟨(by (with_reducible repeat (first | apply Kd.R_alloc | apply Kd.R_drewN | apply Kd.R_drew)); exact Kd.R_mono HO_233001.out (fun _ hk => trivial))⟩, ⟨zb_ BK221.out⟩, ⟨zb_ BK232.out⟩, ⟨βR⟩, ⟨βja⟩, ⟨βW⟩⟩
    case rest =>
     clear HC16
     try clear c1
     try clear p2
     try clear c3
     try clear c4
     try clear c5
     try clear c6
     try clear c14
     try clear c17
     try clear c39
     try clear c41
     try clear c42
     try clear c43
     try clear c46
     try clear c47
     try clear c48
     try clear c51
     try clear c51b0
     try clear c51b1
     try clear c52
     try clear c53
     try clear c54
     try clear c57
     try clear c58
     try clear c61
     try clear c62
     try clear c63
     try clear hcz44_0
     try clear hcz44_1
     try clear hcz49_0
     try clear hcz49_1
     try clear hcz49_2
     try clear hcz49_3
     try clear hcz55_0
     try clear hcz55_1
     try clear hcz55_2
     try clear hcz55_3
     try clear hcz59_0
     try clear hcz59_1
     try clear hcz64_0
     try clear hcz64_1
     try clear hcz64_2
     try clear hcz64_3
     try clear hfz44_0
     try clear hfz44_1
     try clear hfz49_0
     try clear hfz49_1
     try clear hfz49_2
     try clear hfz49_3
     try clear hfz55_0
     try clear hfz55_1
     try clear hfz55_2
     try clear hfz55_3
     try clear hfz59_0
     try clear hfz59_1
     try clear hfz64_0
     try clear hfz64_1
     try clear hfz64_2
     try clear hfz64_3
     try clear p2
     obtain ⟨kq, x1001_15, x1002_15, x1003_15, x233000_15, x233001_15, u233000, u233001, HA, HJ15, HO_233000, HO_233001, BK221, BK232, HI0, HK, HB⟩ := hcut
     cases kq with
     | zero => exact absurd HA.out (by simp [spec_l01Src_l03Flash.j2])
     | succ kj15 =>
      have H := HA.out
      clear HA
      simp only [spec_l01Src_l03Flash.j2] at H
      have H' := zA_ H
      clear H
      go_wp2
      go_roundg kj15
      case measure => have := HK1.out; have := HJ15.out; omega
      case rel => exact ⟨(wrap64 (x4_1 - 1)), (x1001_15), (x1002_15), (x1003_15), (x233000_15), (x233001_15), (u233000), (u233001), βLb, H', ⟨(by have := HK1.out; have := HJ15.out; omega)⟩, ⟨zr_ HO_233000.out⟩, ⟨zr_ HO_233001.out⟩, ⟨zb_ BK221.out⟩, ⟨zb_ BK232.out⟩, ⟨βV⟩, ⟨βIa⟩, ⟨βqa⟩⟩
   ·
    rw [if_neg c15] at H
    have c15b0 : decide (0 < x4_1) = false := decide_eq_false c15
    clear c15
    replace H := Option.bind_eq_some_iff.mp H
    obtain ⟨⟨t270, t271, t272, t273⟩, A650, H⟩ := H
    (try dsimp -simprocs only at H)
    have A65 := zA_ A650
    clear A650
    have HC66 := zA_ H
    clear H
    go_upto_if 34 with (first | ((with_reducible refine gate_callee (f := 46) rfl ?_); refine goesL_ (some 34) rfl rfl Try.func46 βPb rfl #[.pointer (some ⟨g, 0, none⟩), .int .i64 15] rfl zs_ ?_; (with_reducible refine (spec_l01Src_one.calls g s0_0 x1001_1 x1002_1 x1003_1 15 t270 t271 t272 t273 w0 _ ?side1 ?side2 A65.out).mono ?_); (case side1 => exact βV); (case side2 => exact βqa); rintro e w67 ⟨rfl, hi, hb, hk⟩; refine ⟨_, rfl, ?_⟩; replace HO_233000 := zA_ (Kd.R_mono (Kd.R_keep (IsS101.apart (show IsS101 w0 _ g s0_0 x1001_1 x1002_1 x1003_1 from by repeat (first | (with_reducible first | exact HI0.out | apply IsS101.alloc | apply IsS101.drewN | apply IsS101.drew | apply IsS101.set_1 | apply IsS101.set_2 | apply IsS101.set_3 | refine IsS101.far ?_ NB0_221.out _ | refine IsS101.far ?_ NB0_232.out _) | exact HI0.out)) (zr_ HO_233000.out) (by decide)) hk (fun _ h => h.2)) (fun _ h => h.1)); replace HO_233001 := zA_ (Kd.R_mono (Kd.R_keep (IsS101.apart (show IsS101 w0 _ g s0_0 x1001_1 x1002_1 x1003_1 from by repeat (first | (with_reducible first | exact HI0.out | apply IsS101.alloc | apply IsS101.drewN | apply IsS101.drew | apply IsS101.set_1 | apply IsS101.set_2 | apply IsS101.set_3 | refine IsS101.far ?_ NB0_221.out _ | refine IsS101.far ?_ NB0_232.out _) | exact HI0.out)) (zr_ HO_233001.out) (by decide)) hk (fun _ h => h.2)) (fun _ h => h.1)); replace BK221 := zA_ (KeepBut.blk hk (g' := gb221) (o := .cells #[.slice none 0 0, .slice none 0 0] 26 (0, 0)) (zb_ BK221.out) NB221_0.out (by simp)); replace BK232 := zA_ (KeepBut.blk hk (g' := gb232) (o := .cells #[u233000, u233001] 26 (0, 0)) (zb_ BK232.out) NB232_0.out (by simp)); replace HK := zA_ (KeepBut.trans βIa hk (.inl rfl)); replace HB := zA_ (hb); replace HI0 := zA_ (hi); (try clear hb); (try clear hb2); (try clear hk); (try clear hi)))
    (try simp only [Act.put, List.setIfInBounds_toArray, List.set_cons_zero, List.set_cons_succ])
    go_cut [] (fun wc => ∃ (kq : Nat) (x1001_65 : Int) (x1002_65 : Int) (x1003_65 : Int) (x233000_65 : List ByteArray) (x233001_65 : List (S83)) (u233000 : Value) (u233001 : Value), Aside0 (spec_l01Src_l03Flash.j4 kq s0_0 x1001_65 x1002_65 x1003_65 x233000_65 x233001_65 = some (r1, r2, r3, r4, r5)) ∧ Aside0 (kq ≤ k1) ∧ Aside0 (Kd.R Kd.string 9 wc w.heap.size (fun _ => True) u233000 x233000_65) ∧ Aside0 (Kd.R k83 83 wc w.heap.size (fun _ => True) u233001 x233001_65) ∧ Aside0 (wc.heap[gb221]? = some (.cells #[(.slice none 0 0), (.slice none 0 0)] 26 (0, 0))) ∧ Aside0 (wc.heap[gb232]? = some (.cells #[u233000, u233001] 26 (0, 0))) ∧ Aside0 (IsS101 w0 wc g s0_0 x1001_65 x1002_65 x1003_65) ∧ Aside0 (KeepBut w wc g none) ∧ Aside0 (Below w0.heap.size w0 wc))
    case first =>
     have H := HC66.out
     clear HC66
     by_cases c68 : t270 = true
     ·
      subst c68
      have H1 : ((spec_l01Src_n.f s0_0 t271 t272 t273 4).bind fun bt274 => (if bt274.1 = 0 then (spec_l01Src_l03Flash.j4 k1 s0_0 bt274.2.1 bt274.2.2.1 bt274.2.2.2 ([] : List ByteArray) x233001_1) else (if bt274.1 = 1 then ((spec_l01Src_n.f s0_0 bt274.2.1 bt274.2.2.1 bt274.2.2.2 8).bind fun bt278 => (if x233001_1.length < 5864062014805 then (spec_l01Src_l03Flash.j4 k1 s0_0 bt278.2.1 bt278.2.2.1 bt278.2.2.2 x233000_1 (x233001_1 ++ [(⟨bt278.1, (⟨#[]⟩ : ByteArray)⟩ : S83)])) else (none))) else (if bt274.1 = 2 then ((spec_l01Src_n.f s0_0 bt274.2.1 bt274.2.2.1 bt274.2.2.2 2).bind fun bt285 => (if 0 ≤ (wrap64 (96 + bt285.1)) then (if (wrap64 (96 + bt285.1) : Int).toNat ≤ 281474976710656 then (if 0 < (x233000_1.length : Int) then (spec_l01Src_l03Flash.j4 k1 s0_0 bt285.2.1 bt285.2.2.1 bt285.2.2.2 (x233000_1.set (0 : Int).toNat (strOfNums (List.replicate (wrap64 (96 + bt285.1) : Int).toNat 0))) x233001_1) else (none)) else (none)) else (none))) else (spec_l01Src_l03Flash.l1 k1 s0_0 bt274.2.1 bt274.2.2.1 bt274.2.2.2 x233000_1 x233001_1))))) = some (r1, r2, r3, r4, r5) := by rw [if_pos rfl] at H; exact H
      clear H
      have H := H1
      clear H1
      replace H := Option.bind_eq_some_iff.mp H
      obtain ⟨⟨t274, t275, t276, t277⟩, A690, H⟩ := H
      (try dsimp -simprocs only at H)
      have A69 := zA_ A690
      clear A690
      by_cases c70 : t274 = 0
      ·
       rw [if_pos c70] at H
       have c70b0 : (t274 == 0) = true := beq_iff_eq.mpr c70
       have c70b1 : (t274 != 0) = false := bne_eq_false_iff_eq.mpr c70
       clear c70
       (first | rw [c70b0] | (simp only [i64_w, i32_w]; rw [c70b0]) | skip)
       have H' := zA_ H
       clear H
       go_wp2_with (first | ((with_reducible refine gate_callee (f := 45) rfl ?_); refine goesL_ (some 36) rfl rfl Try.func45 βPb rfl #[.pointer (some ⟨g, 0, none⟩), .int .i64 4] rfl zs_ ?_; (with_reducible refine (spec_l01Src_n.calls g s0_0 t271 t272 t273 4 t274 t275 t276 t277 w0 _ ?side1 ?side2 A69.out).mono ?_); (case side1 => exact βV); (case side2 => exact βqa); rintro e w71 ⟨rfl, hi, hb, hk⟩; refine ⟨_, rfl, ?_⟩; replace HO_233000 := zA_ (Kd.R_mono (Kd.R_keep (IsS101.apart (show IsS101 w0 _ g s0_0 t271 t272 t273 from by repeat (first | (with_reducible first | exact HI0.out | apply IsS101.alloc | apply IsS101.drewN | apply IsS101.drew | apply IsS101.set_1 | apply IsS101.set_2 | apply IsS101.set_3 | refine IsS101.far ?_ NB0_221.out _ | refine IsS101.far ?_ NB0_232.out _) | exact HI0.out)) (zr_ HO_233000.out) (by decide)) hk (fun _ h => h.2)) (fun _ h => h.1)); replace HO_233001 := zA_ (Kd.R_mono (Kd.R_keep (IsS101.apart (show IsS101 w0 _ g s0_0 t271 t272 t273 from by repeat (first | (with_reducible first | exact HI0.out | apply IsS101.alloc | apply IsS101.drewN | apply IsS101.drew | apply IsS101.set_1 | apply IsS101.set_2 | apply IsS101.set_3 | refine IsS101.far ?_ NB0_221.out _ | refine IsS101.far ?_ NB0_232.out _) | exact HI0.out)) (zr_ HO_233001.out) (by decide)) hk (fun _ h => h.2)) (fun _ h => h.1)); replace BK221 := zA_ (KeepBut.blk hk (g' := gb221) (o := .cells #[.slice none 0 0, .slice none 0 0] 26 (0, 0)) (zb_ BK221.out) NB221_0.out (by simp)); replace BK232 := zA_ (KeepBut.blk hk (g' := gb232) (o := .cells #[u233000, u233001] 26 (0, 0)) (zb_ BK232.out) NB232_0.out (by simp)); replace HK := zA_ (KeepBut.trans βIa hk (.inl rfl)); replace HB := zA_ (hb); replace HI0 := zA_ (hi); (try clear hb); (try clear hb2); (try clear hk); (try clear hi); have hnb72 := NB232_221.out; have hnc72 := NB221_232.out; have hnb73 := NB232_0.out; have hnc73 := NB0_232.out; have hcz74_0 : w71.cell? ⟨gb232, 0, none⟩ = some (u233000) := (blk_cell BK232.out 0).trans rfl; have hcz74_1 : w71.cell? ⟨gb232, 1, none⟩ = some (u233001) := (blk_cell BK232.out 1).trans rfl; have hfz74_0 := blk_frozen BK232.out 0; have hfz74_1 := blk_frozen BK232.out 1))
       go_meet
       case rel => exact ⟨_, (t275), (t276), (t277), (([] : List ByteArray)), (x233001_1), (.slice none 0 0), (u233001), H', ⟨βJb⟩, ⟨βBb⟩, ⟨(by (with_reducible repeat (first | apply Kd.R_alloc | apply Kd.R_drewN | apply Kd.R_drew)); exact Kd.R_mono (Kd.R_far (p := ⟨gb232, 0, none⟩) (Kd.R_types HO_233001.out BK232.out (by decide)) (fun _ hk => hk.2) (.slice none 0 0)) (fun _ hk => trivial))⟩, ⟨zf1_ NB221_232.out BK221.out⟩, ⟨(by (with_reducible repeat (first | refine blk_drewN ?_ _ | refine blk_drew ?_ | refine blk_alloc ?_ _)); refine blk_put (cs := #[u233000, u233001]) ?_ 0 _ rfl; (with_reducible repeat (first | refine blk_drewN ?_ _ | refine blk_drew ?_ | refine blk_alloc ?_ _)); exact BK232.out)⟩, ⟨βV⟩, ⟨βIa⟩, ⟨βqa⟩⟩
      ·
       rw [if_neg c70] at H
       have c70b0 : (t274 == 0) = false := beq_eq_false_iff_ne.mpr c70
       have c70b1 : (t274 != 0) = true := bne_iff_ne.mpr c70
       (first | rw [c70b0] | (simp only [i64_w, i32_w]; rw [c70b0]) | skip)
       by_cases c75 : t274 = 1
       ·
        rw [if_pos c75] at H
        have c75b0 : (t274 == 1) = true := beq_iff_eq.mpr c75
        have c75b1 : (t274 != 1) = false := bne_eq_false_iff_eq.mpr c75
        clear c75
        replace H := Option.bind_eq_some_iff.mp H
        obtain ⟨⟨t278, t279, t280, t281⟩, A760, H⟩ := H
        (try dsimp -simprocs only at H)
        have A76 := zA_ A760
        clear A760
        by_cases c77 : x233001_1.length < 5864062014805
        ·
         rw [if_pos c77] at H
         have LMc77 := zA_ c77
         clear c77
         obtain ⟨y282, hy282⟩ : ∃ y_ : List (S83), y_ = (x233001_1 ++ [(⟨t278, (⟨#[]⟩ : ByteArray)⟩ : S83)]) := ⟨_, rfl⟩
         replace H : (spec_l01Src_l03Flash.j4 k1 s0_0 t279 t280 t281 x233000_1 y282) = some (r1, r2, r3, r4, r5) := by first | (rw [hy282]; with_reducible exact H) | (have H2_ := (Option.bind_some _ _).symm.trans H; rw [hy282]; with_reducible exact H2_) | (have H2_ := (Option.bind_some _ _).symm.trans H; with_reducible exact H2_) | with_reducible exact H | (rw [hy282]; exact H) | exact H
         have Ny282 := zA_ hy282
         clear hy282
         have H' := zA_ H
         clear H
         try go_wp2_with (first | ((with_reducible refine gate_callee (f := 45) rfl ?_); refine goesL_ (some 36) rfl rfl Try.func45 βPb rfl #[.pointer (some ⟨g, 0, none⟩), .int .i64 4] rfl zs_ ?_; (with_reducible refine (spec_l01Src_n.calls g s0_0 t271 t272 t273 4 t274 t275 t276 t277 w0 _ ?side1 ?side2 A69.out).mono ?_); (case side1 => exact βV); (case side2 => exact βqa); rintro e w78 ⟨rfl, hi, hb, hk⟩; refine ⟨_, rfl, ?_⟩; replace HO_233000 := zA_ (Kd.R_mono (Kd.R_keep (IsS101.apart (show IsS101 w0 _ g s0_0 t271 t272 t273 from by repeat (first | (with_reducible first | exact HI0.out | apply IsS101.alloc | apply IsS101.drewN | apply IsS101.drew | apply IsS101.set_1 | apply IsS101.set_2 | apply IsS101.set_3 | refine IsS101.far ?_ NB0_221.out _ | refine IsS101.far ?_ NB0_232.out _) | exact HI0.out)) (zr_ HO_233000.out) (by decide)) hk (fun _ h => h.2)) (fun _ h => h.1)); replace HO_233001 := zA_ (Kd.R_mono (Kd.R_keep (IsS101.apart (show IsS101 w0 _ g s0_0 t271 t272 t273 from by repeat (first | (with_reducible first | exact HI0.out | apply IsS101.alloc | apply IsS101.drewN | apply IsS101.drew | apply IsS101.set_1 | apply IsS101.set_2 | apply IsS101.set_3 | refine IsS101.far ?_ NB0_221.out _ | refine IsS101.far ?_ NB0_232.out _) | exact HI0.out)) (zr_ HO_233001.out) (by decide)) hk (fun _ h => h.2)) (fun _ h => h.1)); replace BK221 := zA_ (KeepBut.blk hk (g' := gb221) (o := .cells #[.slice none 0 0, .slice none 0 0] 26 (0, 0)) (zb_ BK221.out) NB221_0.out (by simp)); replace BK232 := zA_ (KeepBut.blk hk (g' := gb232) (o := .cells #[u233000, u233001] 26 (0, 0)) (zb_ BK232.out) NB232_0.out (by simp)); replace HK := zA_ (KeepBut.trans βIa hk (.inl rfl)); replace HB := zA_ (hb); replace HI0 := zA_ (hi); (try clear hb); (try clear hb2); (try clear hk); (try clear hi)))
         replace HO_233000 := zA_ (Kd.R_drew HO_233000.out)
         replace HO_233001 := zA_ (Kd.R_drew HO_233001.out)
         replace BK221 := zA_ (blk_drew BK221.out)
         replace BK232 := zA_ (blk_drew BK232.out)
         replace HI0 := zA_ (IsS101.drew HI0.out)
         replace HK := zA_ (keep_drew HK.out)
         replace HB := zA_ (below_drew1 HB.out)
         refine start_ (n := 9) (S := fun w' => w'.cell? ⟨gb232, 0, none⟩ = some (u233000) ∧ w'.cell? ⟨gb232, 1, none⟩ = some (u233001)) (ds := [8]) (mr_ [0, 9]) βPb rfl rfl ⟨cy_ BK232.out 0, cy_ BK232.out 1⟩ (fun hHeld => ?_); refine with_tabW spec_l01Src_l03Flash.tab17 spec_l01Src_l03Flash.bits17 (fun HT_ HW_ => ?_)
         generalize w78.drew = w79 at HO_233000 HO_233001 BK221 BK232 HI0 HK HB hHeld ⊢
         refine pure_ (i := 0) (N := some 54) (v := ?_) (a' := ?_) (mr_ [1, 8]) rfl rfl (any_of HT_.out βPb) (fun _ _ _ h => h) (Or.inl ⟨(by rfl), ?_⟩) ?_ ?_
         rotate_left; exact pv_; rotate_left; exact pp_
         refine pure_ (i := 2) (N := some 56) (v := ?_) (a' := ?_) (mr_ [1, 1, 1, 6]) rfl rfl (any_of HT_.out βPb) (fun _ _ _ h => h) (Or.inl ⟨(by rfl), ?_⟩) ?_ ?_
         rotate_left; exact pv_; rotate_left; exact pp_
         refine take_ (i := 1) (N := some 55) (v := ?_) (a' := ?_) (mr_ [3, 6]) rfl rfl (take_ofW HT_.out HW_.out βPb) (fun _ _ _ h => h) (Or.inl ⟨(by rfl), ?_⟩) hHeld ?_ ?_
         rotate_left
         ·
          rintro w' ⟨s0, s1⟩
          go_simp
          with_reducible rfl
         rotate_left
         exact pp_
         refine one_ (i := 3) (N := some 57) (mr_ [4, 5]) rfl rfl (one_of HT_.out βPb) (by decide) (fun K hK => ?_)
         refine goes_ Try.func45 βPb rfl #[.pointer (some ⟨g, 0, none⟩), .int .i64 8] (by rfl) rfl rfl zs_ ?_
         with_reducible refine (spec_l01Src_n.calls g s0_0 t275 t276 t277 8 t278 t279 t280 t281 w0 _ ?side1 ?side2 A76.out).mono ?_
         (case side1 => exact βV)
         (case side2 => exact βqa)
         rintro e w80 ⟨rfl, hi, hb, hk⟩
         refine ⟨_, rfl, ?_⟩
         replace HO_233000 := zA_ (Kd.R_mono (Kd.R_keep (IsS101.apart (show IsS101 w0 _ g s0_0 t275 t276 t277 from by repeat (first | (with_reducible first | exact HI0.out | apply IsS101.alloc | apply IsS101.drewN | apply IsS101.drew | apply IsS101.set_1 | apply IsS101.set_2 | apply IsS101.set_3 | refine IsS101.far ?_ NB0_221.out _ | refine IsS101.far ?_ NB0_232.out _) | exact HI0.out)) (zr_ HO_233000.out) (by decide)) hk (fun _ h => h.2)) (fun _ h => h.1))
         replace HO_233001 := zA_ (Kd.R_mono (Kd.R_keep (IsS101.apart (show IsS101 w0 _ g s0_0 t275 t276 t277 from by repeat (first | (with_reducible first | exact HI0.out | apply IsS101.alloc | apply IsS101.drewN | apply IsS101.drew | apply IsS101.set_1 | apply IsS101.set_2 | apply IsS101.set_3 | refine IsS101.far ?_ NB0_221.out _ | refine IsS101.far ?_ NB0_232.out _) | exact HI0.out)) (zr_ HO_233001.out) (by decide)) hk (fun _ h => h.2)) (fun _ h => h.1))
         replace BK221 := zA_ (KeepBut.blk hk (g' := gb221) (o := .cells #[.slice none 0 0, .slice none 0 0] 26 (0, 0)) (zb_ BK221.out) NB221_0.out (by simp))
         replace BK232 := zA_ (KeepBut.blk hk (g' := gb232) (o := .cells #[u233000, u233001] 26 (0, 0)) (zb_ BK232.out) NB232_0.out (by simp))
         replace HK := zA_ (KeepBut.trans βIa hk (.inl rfl))
         replace HB := zA_ (hb)
         replace HI0 := zA_ (hi)
         (try clear hb)
         (try clear hb2)
         (try clear hk)
         (try clear hi)
         refine hK.out _ _ ⟨cy_ BK232.out 0, cy_ BK232.out 1⟩ (fun hHeld => ?_)
         clear hK K
         refine norm_ (a' := ?_) ?_ ?_
         rotate_left
         ·
          show Act.put _ (some 57) _ = _
          simp only [Act.put, List.setIfInBounds_toArray, List.set_cons_zero, List.set_cons_succ, i64_w, i32_w]
          rfl
         refine pure_ (i := 4) (N := some 58) (v := ?_) (a' := ?_) (mr_ [5, 4]) rfl rfl (any_of HT_.out βPb) (fun _ _ _ h => h) (Or.inl ⟨(by rfl), ?_⟩) ?_ ?_
         rotate_left; exact pv_; rotate_left; exact pp_
         refine one_ (i := 5) (N := some 59) (mr_ [6, 3]) rfl rfl (one_of HT_.out βPb) (by decide) (fun K hK => ?_)
         refine value_ (w1 := ?_) (v := ?_) (by rfl) rfl ?_ ?_
         rotate_left 2
         ·
          go_simp
          constructor
          ·
           rfl
          ·
           rfl
         refine hK.out _ _ ⟨(blk_cell (blk_alloc BK232.out _) 0).trans rfl, (blk_cell (blk_alloc BK232.out _) 1).trans rfl⟩ (fun hHeld => ?_)
         clear hK K
         refine norm_ (a' := ?_) ?_ ?_
         rotate_left
         ·
          show Act.put _ (some 59) _ = _
          simp only [Act.put, List.setIfInBounds_toArray, List.set_cons_zero, List.set_cons_succ, i64_w, i32_w]
          rfl
         refine one_ (i := 6) (N := some 60) (mr_ [7, 2]) rfl rfl (one_of HT_.out βPb) (by decide) (fun K hK => ?_)
         refine Kd.R_append_step k83 w.heap.size (by rfl) (.tmp 55) (.tmp 59) 24 83 (.agg #[(.int .i64 0), (.string ⟨#[]⟩)]) 24 rfl Try.underlying24 info83 rfl (by decide) (by omega) u233001 x233001_1 (⟨t278, (⟨#[]⟩ : ByteArray)⟩ : S83) [.int .i64 t278, .string (⟨#[]⟩ : ByteArray)] (fun _ => True) (fun _ => False) rfl rfl ?aP (fun _ hk => hk.elim) ?aF ?aO (Below.refl _ _) ?aS ?aL ?_
         (case aP => exact k83_mkM _ _ _ (⟨t278, (⟨#[]⟩ : ByteArray)⟩ : S83))
         (case aF => exact (fun _ _ => trivial))
         (case aO => exact (zr_ HO_233001.out))
         (case aS => exact (keep_size (w := w) (g := g) (row := none) βIa))
         (case aL => exact (by have := LMc77.out; omega))
         intro v283 w81 ho hb hg hat
         rw [← Ny282.out] at ho
         replace HO_233000 := zA_ (Kd.R_over' (zr_ HO_233000.out) (Kd.R_typed (zr_ HO_233001.out)) (by decide) hg)
         replace BK221 := zA_ (blk_grown (g := gb221) (o := .cells #[.slice none 0 0, .slice none 0 0] 26 (0, 0)) (zb_ BK221.out) hg (Kd.R_ne HO_233001.out BK221.out (by decide)))
         replace BK232 := zA_ (blk_grown (g := gb232) (o := .cells #[u233000, u233001] 26 (0, 0)) (zb_ BK232.out) hg (Kd.R_ne HO_233001.out BK232.out (by decide)))
         replace HB := zA_ (below_weaken βqa HL.out hb)
         replace HI0 := zA_ (IsS101.grown βV hg (IsS101.own_ne HI0.out HO_233001.out (by decide)))
         replace HK := zA_ (KeepBut.trans βIa (KeepBut.of_grown hg g) (Kd.R_base2 HO_233001.out))
         have HO284 := zA_ (ho)
         clear HO_233001
         clear ho hb hg hat
         obtain ⟨Ao82, co82, eo82⟩ := Kd.R_slice HO284.out
         (first | subst eo82 | (injection eo82 with f1_ f2_ f3_; have f4_ := f1_.symm; have f5_ := f3_.symm; clear f1_ f2_ f3_; subst f4_; subst f5_))
         refine hK.out _ _ ⟨cy_ BK232.out 0, cy_ BK232.out 1⟩ (fun hHeld => ?_)
         clear hK K
         refine norm_ (a' := ?_) ?_ ?_
         rotate_left
         ·
          show Act.put _ (some 60) _ = _
          simp only [Act.put, List.setIfInBounds_toArray, List.set_cons_zero, List.set_cons_succ, i64_w, i32_w]
          rfl
         refine pure_ (i := 7) (N := some 61) (v := ?_) (a' := ?_) (mr_ [8, 1]) rfl rfl (any_of HT_.out βPb) (fun _ _ _ h => h) (Or.inl ⟨(by rfl), ?_⟩) ?_ ?_
         rotate_left; exact pv_; rotate_left; exact pp_
         refine last_ (i := 8) (N := none) (mr_ [9]) rfl rfl (one_of HT_.out βPb) (by decide) (fun K hK => ?_)
         have hs83 : w81.cell? ⟨gb232, 1, none⟩ = some (u233001) := (blk_cell BK232.out 1).trans rfl
         have hfs83 := blk_frozen BK232.out 1
         have hns83_0 := NB221_232.out
         have hms83_0 := NB232_221.out
         refine skip_ (w1 := ?_) (by rfl) rfl ?_ ?_
         rotate_left
         ·
          go_simp
          rfl
         refine hK.out _ _ ?_
         clear hK K
         refine done_ (done_of HT_.out βPb) ?_
         try go_wp2
         go_meet
         case rel => exact ⟨_, (t279), (t280), (t281), (x233000_1), (y282), (u233000), (.slice Ao82 y282.length co82), H', ⟨βJb⟩, ⟨(by (with_reducible repeat (first | apply Kd.R_alloc | apply Kd.R_drewN | apply Kd.R_drew)); exact Kd.R_mono (Kd.R_far (p := ⟨gb232, 1, none⟩) (Kd.R_types HO_233000.out BK232.out (by decide)) (fun _ hk => hk.2) (.slice Ao82 y282.length co82)) (fun _ hk => trivial))⟩, ⟨(by (with_reducible repeat (first | apply Kd.R_alloc | apply Kd.R_drewN | apply Kd.R_drew)); exact Kd.R_mono (Kd.R_far (p := ⟨gb232, 1, none⟩) (Kd.R_types HO284.out BK232.out (by decide)) (fun _ hk => hk.2) (.slice Ao82 y282.length co82)) (fun _ hk => trivial))⟩, ⟨zf1_ NB221_232.out BK221.out⟩, ⟨(by (with_reducible repeat (first | refine blk_drewN ?_ _ | refine blk_drew ?_ | refine blk_alloc ?_ _)); refine blk_put (cs := #[u233000, u233001]) ?_ 1 _ rfl; (with_reducible repeat (first | refine blk_drewN ?_ _ | refine blk_drew ?_ | refine blk_alloc ?_ _)); exact BK232.out)⟩, ⟨βV⟩, ⟨βIa⟩, ⟨βqa⟩⟩
        ·
         rw [if_neg c77] at H
         exact absurd H (by simp)
       ·
        rw [if_neg c75] at H
        have c75b0 : (t274 == 1) = false := beq_eq_false_iff_ne.mpr c75
        have c75b1 : (t274 != 1) = true := bne_iff_ne.mpr c75
        by_cases c84 : t274 = 2
        ·
         rw [if_pos c84] at H
         have c84b0 : (t274 == 2) = true := beq_iff_eq.mpr c84
         have c84b1 : (t274 != 2) = false := bne_eq_false_iff_eq.mpr c84
         clear c84
         replace H := Option.bind_eq_some_iff.mp H
         obtain ⟨⟨t285, t286, t287, t288⟩, A850, H⟩ := H
         (try dsimp -simprocs only at H)
         have A85 := zA_ A850
         clear A850
         obtain ⟨ji86, hji86⟩ : ∃ j_ : Int, (wrap64 (96 + t285)) = j_ := ⟨_, rfl⟩
         replace H : (if 0 ≤ (ji86) then (if (ji86 : Int).toNat ≤ 281474976710656 then (if 0 < (x233000_1.length : Int) then (spec_l01Src_l03Flash.j4 k1 s0_0 t286 t287 t288 (x233000_1.set (0 : Int).toNat (strOfNums (List.replicate (ji86 : Int).toNat 0))) x233001_1) else (none)) else (none)) else (none)) = some (r1, r2, r3, r4, r5) := by first | (rw [hji86] at H; exact H) | (simp only [hji86] at H ⊢; exact H)
         (try rw [hji86] at A69)
         (try rw [hji86] at A85)
         have hji86w : (IntKind.i64.wrap (96 + t285)) = ji86 := (i64_w _).trans hji86
         by_cases c87 : 0 ≤ (ji86)
         ·
          rw [if_pos c87] at H
          have c87b0 := eq_true c87
          have c87b1 : decide (0 ≤ (ji86)) = true := decide_eq_true c87
          clear c87
          by_cases c88 : (ji86 : Int).toNat ≤ 281474976710656
          ·
           rw [if_pos c88] at H
           have c88b0 := eq_true c88
           have c88b1 : decide ((ji86 : Int).toNat ≤ 281474976710656) = true := decide_eq_true c88
           clear c88
           obtain ⟨y289, hy289⟩ : ∃ y_ : List Int, y_ = (List.replicate (ji86 : Int).toNat 0) := ⟨_, rfl⟩
           replace H : (if 0 < (x233000_1.length : Int) then (spec_l01Src_l03Flash.j4 k1 s0_0 t286 t287 t288 (x233000_1.set (0 : Int).toNat (strOfNums y289)) x233001_1) else (none)) = some (r1, r2, r3, r4, r5) := by first | (rw [hy289]; with_reducible exact H) | (have H2_ := (Option.bind_some _ _).symm.trans H; rw [hy289]; with_reducible exact H2_) | (have H2_ := (Option.bind_some _ _).symm.trans H; with_reducible exact H2_) | with_reducible exact H | (rw [hy289]; exact H) | exact H
           have Ny289 := zA_ hy289
           clear hy289
           by_cases c89 : 0 < (x233000_1.length : Int)
           ·
            rw [if_pos c89] at H
            have c89b0 : decide (0 < (x233000_1.length : Int)) = true := decide_eq_true c89
            have c89b1 : decide (0 < x233000_1.length) = true := decide_eq_true (by omega)
            clear c89
            obtain ⟨y292, hy292⟩ : ∃ y_ : List ByteArray, y_ = (x233000_1.set (0 : Int).toNat (strOfNums y289)) := ⟨_, rfl⟩
            replace H : (spec_l01Src_l03Flash.j4 k1 s0_0 t286 t287 t288 y292 x233001_1) = some (r1, r2, r3, r4, r5) := by first | (rw [hy292]; with_reducible exact H) | (have H2_ := (Option.bind_some _ _).symm.trans H; rw [hy292]; with_reducible exact H2_) | (have H2_ := (Option.bind_some _ _).symm.trans H; with_reducible exact H2_) | with_reducible exact H | (rw [hy292]; exact H) | exact H
            have Ny292 := zA_ hy292
            clear hy292
            have H' := zA_ H
            clear H
            try go_wp2_with (first | ((with_reducible refine gate_callee (f := 45) rfl ?_); refine goesL_ (some 36) rfl rfl Try.func45 βPb rfl #[.pointer (some ⟨g, 0, none⟩), .int .i64 4] rfl zs_ ?_; (with_reducible refine (spec_l01Src_n.calls g s0_0 t271 t272 t273 4 t274 t275 t276 t277 w0 _ ?side1 ?side2 A69.out).mono ?_); (case side1 => exact βV); (case side2 => exact βqa); rintro e w91 ⟨rfl, hi, hb, hk⟩; refine ⟨_, rfl, ?_⟩; replace HO_233000 := zA_ (Kd.R_mono (Kd.R_keep (IsS101.apart (show IsS101 w0 _ g s0_0 t271 t272 t273 from by repeat (first | (with_reducible first | exact HI0.out | apply IsS101.alloc | apply IsS101.drewN | apply IsS101.drew | apply IsS101.set_1 | apply IsS101.set_2 | apply IsS101.set_3 | refine IsS101.far ?_ NB0_221.out _ | refine IsS101.far ?_ NB0_232.out _) | exact HI0.out)) (zr_ HO_233000.out) (by decide)) hk (fun _ h => h.2)) (fun _ h => h.1)); replace HO_233001 := zA_ (Kd.R_mono (Kd.R_keep (IsS101.apart (show IsS101 w0 _ g s0_0 t271 t272 t273 from by repeat (first | (with_reducible first | exact HI0.out | apply IsS101.alloc | apply IsS101.drewN | apply IsS101.drew | apply IsS101.set_1 | apply IsS101.set_2 | apply IsS101.set_3 | refine IsS101.far ?_ NB0_221.out _ | refine IsS101.far ?_ NB0_232.out _) | exact HI0.out)) (zr_ HO_233001.out) (by decide)) hk (fun _ h => h.2)) (fun _ h => h.1)); replace BK221 := zA_ (KeepBut.blk hk (g' := gb221) (o := .cells #[.slice none 0 0, .slice none 0 0] 26 (0, 0)) (zb_ BK221.out) NB221_0.out (by simp)); replace BK232 := zA_ (KeepBut.blk hk (g' := gb232) (o := .cells #[u233000, u233001] 26 (0, 0)) (zb_ BK232.out) NB232_0.out (by simp)); replace HK := zA_ (KeepBut.trans βIa hk (.inl rfl)); replace HB := zA_ (hb); replace HI0 := zA_ (hi); (try clear hb); (try clear hb2); (try clear hk); (try clear hi)))
            replace HO_233000 := zA_ (Kd.R_drew HO_233000.out)
            replace HO_233001 := zA_ (Kd.R_drew HO_233001.out)
            replace BK221 := zA_ (blk_drew BK221.out)
            replace BK232 := zA_ (blk_drew BK232.out)
            replace HI0 := zA_ (IsS101.drew HI0.out)
            replace HK := zA_ (keep_drew HK.out)
            replace HB := zA_ (below_drew1 HB.out)
            refine start_ (n := 9) (S := fun w' => w'.cell? ⟨gb232, 0, none⟩ = some (u233000) ∧ w'.cell? ⟨gb232, 1, none⟩ = some (u233001)) (ds := [8]) (mr_ [0, 9]) βPb rfl rfl ⟨cy_ BK232.out 0, cy_ BK232.out 1⟩ (fun hHeld => ?_); refine with_tabW spec_l01Src_l03Flash.tab19 spec_l01Src_l03Flash.bits19 (fun HT_ HW_ => ?_)
            generalize w91.drew = w92 at HO_233000 HO_233001 BK221 BK232 HI0 HK HB hHeld ⊢
            refine pure_ (i := 0) (N := some 64) (v := ?_) (a' := ?_) (mr_ [1, 8]) rfl rfl (any_of HT_.out βPb) (fun _ _ _ h => h) (Or.inl ⟨(by rfl), ?_⟩) ?_ ?_
            rotate_left; exact pv_; rotate_left; exact pp_
            refine pure_ (i := 2) (N := some 66) (v := ?_) (a' := ?_) (mr_ [1, 1, 1, 6]) rfl rfl (any_of HT_.out βPb) (fun _ _ _ h => h) (Or.inl ⟨(by rfl), ?_⟩) ?_ ?_
            rotate_left; exact pv_; rotate_left; exact pp_
            refine take_ (i := 1) (N := some 65) (v := ?_) (a' := ?_) (mr_ [3, 6]) rfl rfl (take_ofW HT_.out HW_.out βPb) (fun _ _ _ h => h) (Or.inl ⟨(by rfl), ?_⟩) hHeld ?_ ?_
            rotate_left
            ·
             rintro w' ⟨s0, s1⟩
             go_simp
             with_reducible rfl
            rotate_left
            exact pp_
            refine one_ (i := 3) (N := some 67) (mr_ [4, 5]) rfl rfl (one_of HT_.out βPb) (by decide) (fun K hK => ?_)
            refine goes_ Try.func45 βPb rfl #[.pointer (some ⟨g, 0, none⟩), .int .i64 2] (by rfl) rfl rfl zs_ ?_
            with_reducible refine (spec_l01Src_n.calls g s0_0 t275 t276 t277 2 t285 t286 t287 t288 w0 _ ?side1 ?side2 A85.out).mono ?_
            (case side1 => exact βV)
            (case side2 => exact βqa)
            rintro e w93 ⟨rfl, hi, hb, hk⟩
            refine ⟨_, rfl, ?_⟩
            replace HO_233000 := zA_ (Kd.R_mono (Kd.R_keep (IsS101.apart (show IsS101 w0 _ g s0_0 t275 t276 t277 from by repeat (first | (with_reducible first | exact HI0.out | apply IsS101.alloc | apply IsS101.drewN | apply IsS101.drew | apply IsS101.set_1 | apply IsS101.set_2 | apply IsS101.set_3 | refine IsS101.far ?_ NB0_221.out _ | refine IsS101.far ?_ NB0_232.out _) | exact HI0.out)) (zr_ HO_233000.out) (by decide)) hk (fun _ h => h.2)) (fun _ h => h.1))
            replace HO_233001 := zA_ (Kd.R_mono (Kd.R_keep (IsS101.apart (show IsS101 w0 _ g s0_0 t275 t276 t277 from by repeat (first | (with_reducible first | exact HI0.out | apply IsS101.alloc | apply IsS101.drewN | apply IsS101.drew | apply IsS101.set_1 | apply IsS101.set_2 | apply IsS101.set_3 | refine IsS101.far ?_ NB0_221.out _ | refine IsS101.far ?_ NB0_232.out _) | exact HI0.out)) (zr_ HO_233001.out) (by decide)) hk (fun _ h => h.2)) (fun _ h => h.1))
            replace BK221 := zA_ (KeepBut.blk hk (g' := gb221) (o := .cells #[.slice none 0 0, .slice none 0 0] 26 (0, 0)) (zb_ BK221.out) NB221_0.out (by simp))
            replace BK232 := zA_ (KeepBut.blk hk (g' := gb232) (o := .cells #[u233000, u233001] 26 (0, 0)) (zb_ BK232.out) NB232_0.out (by simp))
            replace HK := zA_ (KeepBut.trans βIa hk (.inl rfl))
            replace HB := zA_ (hb)
            replace HI0 := zA_ (hi)
            (try clear hb)
            (try clear hb2)
            (try clear hk)
            (try clear hi)
            refine hK.out _ _ ⟨cy_ BK232.out 0, cy_ BK232.out 1⟩ (fun hHeld => ?_)
            clear hK K
            refine norm_ (a' := ?_) ?_ ?_
            rotate_left
            ·
             show Act.put _ (some 67) _ = _
             simp only [Act.put, List.setIfInBounds_toArray, List.set_cons_zero, List.set_cons_succ, i64_w, i32_w]
             rfl
            refine pure_ (i := 4) (N := some 68) (v := ?_) (a' := ?_) (mr_ [5, 4]) rfl rfl (any_of HT_.out βPb) (fun _ _ _ h => h) (Or.inl ⟨(by rfl), ?_⟩) ?_ ?_
            rotate_left; exact pv_; rotate_left; exact pp_
            refine one_ (i := 5) (N := some 69) (mr_ [6, 3]) rfl rfl (one_of HT_.out βPb) (by decide) (fun K hK => ?_)
            refine Kd.R_make_step (Kd.int .u8) _ 5 (by rfl) (N := 69) rfl 22 _ _ rfl ji86 rfl rfl Try.underlying22 (.int .u8 0) 1 info5 rfl (by decide) (by omega) 0 (ok := fun _ => True) (okp := fun _ => True) rfl (fun _ hk => hk) trivial (of_decide_eq_true βKb) (Nat.le_trans (Nat.mul_le_mul_right _ (of_decide_eq_true βKb : ji86.toNat ≤ 281474976710656)) (by omega)) (Below.refl _ _) (Nat.le_refl _) ?_
            intro v290 w94 ho95 hb hg_ hnew_
            clear hg_ hnew_
            (first | rw [← Ny289.out] at ho95 | (simp only [Int.reduceToNat] at ho95; rw [← Ny289.out] at ho95))
            replace HO_233000 := zR_ HO_233000.out hb
            replace HO_233001 := zR_ HO_233001.out hb
            have HO291 := zA_ (Kd.R_lower ho95 (keep_size (w := w) (g := g) (row := none) βIa))
            replace BK221 := zB_ BK221.out hb
            replace BK232 := zB_ BK232.out hb
            replace HK := zA_ (KeepBut.trans βIa (KeepBut.of_below hb g none) (.inl rfl))
            replace HB := zA_ (below_step βqa hb)
            replace HI0 := zA_ (IsS101.below βV hb)
            clear hb ho95
            have p90 : 0 ≤ (0 : Int) := (by omega)
            have q90 : (0 : Int) < ((x233000_1.length : Int) : Int) := of_decide_eq_true βKb
            have qi90 : (0 < x233000_1.length) = True := eq_true (by omega)
            obtain ⟨go90, co90, eo90, gb90, gl90, cl90, HG90⟩ := Kd.R_form HO_233000.out (by omega)
            (first | cases eo90 | (injection eo90 with ea_ en_ ec_; (first | subst ea_ | (injection ea_ with ea_; subst ea_)); subst ec_; clear en_))
            have GB90 := zA_ gb90
            have GG90 := zA_ HG90
            clear gb90 gl90 HG90
            obtain ⟨hx90_0, hf90_0⟩ := Kd.R_celln (⟨#[]⟩ : ByteArray) HO_233000.out (0 : Int) p90 q90
            (try rw [show ((0 : Int)).toNat = 0 from rfl] at hx90_0)
            (try simp only [Nat.reduceMul, Nat.zero_mul, Nat.zero_add, Nat.reduceAdd] at hx90_0)
            (try rw [show ((0 : Int)).toNat = 0 from rfl] at hf90_0)
            (try simp only [Nat.reduceMul, Nat.zero_mul, Nat.zero_add, Nat.reduceAdd] at hf90_0)
            replace p90 := eq_true p90
            replace q90 := eq_true q90
            have HN0_go90 := zA_ (show g ≠ go90 from by have h_ := IsS101.own_ne HI0.out HO_233000.out (by decide); intro e_; exact h_ (by rw [e_]; rfl))
            have HP97 := Kd.R_putn HO_233000.out (0 : Int) (strOfNums y289)
            rw [← Ny292.out] at HP97
            have HQ97 := zA_ HP97
            clear HP97
            refine hK.out _ _ ⟨cy_ BK232.out 0, cy_ BK232.out 1⟩ (fun hHeld => ?_)
            clear hK K
            refine norm_ (a' := ?_) ?_ ?_
            rotate_left
            ·
             show Act.put _ (some 69) _ = _
             simp only [Act.put, List.setIfInBounds_toArray, List.set_cons_zero, List.set_cons_succ, i64_w, i32_w]
             rfl
            refine one_ (i := 6) (N := some 70) (mr_ [7, 2]) rfl rfl (one_of HT_.out βPb) (by decide) (fun K hK => ?_)
            have hcv96 := own_string (P := Try.prog) Try.underlying22 Try.underlying5 Try.underlying9 (Kd.own_of_R HO291.out)
            refine value_ (w1 := ?_) (v := ?_) (by rfl) rfl ?_ ?_
            rotate_left 2
            ·
             go_simp
             constructor
             ·
              rfl
             ·
              rfl
            clear hcv96
            refine hK.out _ _ ⟨cy_ BK232.out 0, cy_ BK232.out 1⟩ (fun hHeld => ?_)
            clear hK K
            refine norm_ (a' := ?_) ?_ ?_
            rotate_left
            ·
             show Act.put _ (some 70) _ = _
             simp only [Act.put, List.setIfInBounds_toArray, List.set_cons_zero, List.set_cons_succ, i64_w, i32_w]
             rfl
            refine pure_ (i := 7) (N := some 71) (v := ?_) (a' := ?_) (mr_ [8, 1]) rfl rfl (any_of HT_.out βPb) (fun _ _ _ h => h) (Or.inl ⟨(by rfl), ?_⟩) ?_ ?_
            rotate_left; exact pv_; rotate_left; exact pp_
            refine last_ (i := 8) (N := none) (mr_ [9]) rfl rfl (one_of HT_.out βPb) (by decide) (fun K hK => ?_)
            refine skip_ (w1 := ?_) (by rfl) rfl ?_ ?_
            rotate_left
            ·
             go_simp
             rfl
            refine hK.out _ _ ?_
            clear hK K
            refine done_ (done_of HT_.out βPb) ?_
            try go_wp2
            go_meet
            case rel => exact ⟨_, (t286), (t287), (t288), (y292), (x233001_1), (.slice (some ⟨go90, 0, none⟩) x233000_1.length co90), (u233001), H', ⟨βJb⟩, ⟨zr_ HQ97.out⟩, ⟨(by (with_reducible repeat (first | apply Kd.R_alloc | apply Kd.R_drewN | apply Kd.R_drew)); exact Kd.R_mono (Kd.R_far (p := ⟨go90, 0, none⟩) (Kd.R_types HO_233001.out GG90.out (by decide)) (fun _ hk => hk.2) (.string (strOfNums y289))) (fun _ hk => trivial))⟩, ⟨(by (with_reducible repeat (first | refine blk_drewN ?_ _ | refine blk_drew ?_ | refine blk_alloc ?_ _)); refine blk_far ?_ (by have h_ := Kd.R_ne HO_233000.out BK221.out (by decide); intro e_; exact h_ (by rw [e_]; rfl)) _; (with_reducible repeat (first | refine blk_drewN ?_ _ | refine blk_drew ?_ | refine blk_alloc ?_ _)); exact BK221.out)⟩, ⟨(by (with_reducible repeat (first | refine blk_drewN ?_ _ | refine blk_drew ?_ | refine blk_alloc ?_ _)); refine blk_far ?_ (by have h_ := Kd.R_ne HO_233000.out BK232.out (by decide); intro e_; exact h_ (by rw [e_]; rfl)) _; (with_reducible repeat (first | refine blk_drewN ?_ _ | refine blk_drew ?_ | refine blk_alloc ?_ _)); exact BK232.out)⟩, ⟨(by repeat (first | (with_reducible first | exact HI0.out | apply IsS101.alloc | apply IsS101.drewN | apply IsS101.drew | apply IsS101.set_1 | apply IsS101.set_2 | apply IsS101.set_3 | refine IsS101.far ?_ HN0_go90.out _ | refine IsS101.far ?_ NB0_221.out _ | refine IsS101.far ?_ NB0_232.out _) | exact HI0.out))⟩, ⟨(by repeat (first | (with_reducible first | exact HK.out | apply KeepBut.set_ | apply keep_drewN | apply keep_drew | apply keep_alloc | refine keep_far ?_ GB90.out _ | refine keep_far ?_ GW221.out _ | refine keep_far ?_ GW232.out _) | exact HK.out))⟩, ⟨(by repeat (first | (with_reducible first | exact HB.out | apply below_alloc | apply pw_below_drewN | apply below_drew1 | refine below_set ?_ (Nat.le_trans HL.out GB90.out) | refine below_set ?_ (IsS101.ge HI0.out) | refine below_set ?_ GE221.out | refine below_set ?_ GE232.out) | exact HB.out))⟩⟩
           ·
            rw [if_neg c89] at H
            exact absurd H (by simp)
          ·
           rw [if_neg c88] at H
           exact absurd H (by simp)
         ·
          rw [if_neg c87] at H
          exact absurd H (by simp)
        ·
         rw [if_neg c84] at H
         have c84b0 : (t274 == 2) = false := beq_eq_false_iff_ne.mpr c84
         have c84b1 : (t274 != 2) = true := bne_iff_ne.mpr c84
         have H' := zA_ H
         clear H
         go_wp2_with (first | ((with_reducible refine gate_callee (f := 45) rfl ?_); refine goesL_ (some 36) rfl rfl Try.func45 βPb rfl #[.pointer (some ⟨g, 0, none⟩), .int .i64 4] rfl zs_ ?_; (with_reducible refine (spec_l01Src_n.calls g s0_0 t271 t272 t273 4 t274 t275 t276 t277 w0 _ ?side1 ?side2 A69.out).mono ?_); (case side1 => exact βV); (case side2 => exact βqa); rintro e w98 ⟨rfl, hi, hb, hk⟩; refine ⟨_, rfl, ?_⟩; replace HO_233000 := zA_ (Kd.R_mono (Kd.R_keep (IsS101.apart (show IsS101 w0 _ g s0_0 t271 t272 t273 from by repeat (first | (with_reducible first | exact HI0.out | apply IsS101.alloc | apply IsS101.drewN | apply IsS101.drew | apply IsS101.set_1 | apply IsS101.set_2 | apply IsS101.set_3 | refine IsS101.far ?_ NB0_221.out _ | refine IsS101.far ?_ NB0_232.out _) | exact HI0.out)) (zr_ HO_233000.out) (by decide)) hk (fun _ h => h.2)) (fun _ h => h.1)); replace HO_233001 := zA_ (Kd.R_mono (Kd.R_keep (IsS101.apart (show IsS101 w0 _ g s0_0 t271 t272 t273 from by repeat (first | (with_reducible first | exact HI0.out | apply IsS101.alloc | apply IsS101.drewN | apply IsS101.drew | apply IsS101.set_1 | apply IsS101.set_2 | apply IsS101.set_3 | refine IsS101.far ?_ NB0_221.out _ | refine IsS101.far ?_ NB0_232.out _) | exact HI0.out)) (zr_ HO_233001.out) (by decide)) hk (fun _ h => h.2)) (fun _ h => h.1)); replace BK221 := zA_ (KeepBut.blk hk (g' := gb221) (o := .cells #[.slice none 0 0, .slice none 0 0] 26 (0, 0)) (zb_ BK221.out) NB221_0.out (by simp)); replace BK232 := zA_ (KeepBut.blk hk (g' := gb232) (o := .cells #[u233000, u233001] 26 (0, 0)) (zb_ BK232.out) NB232_0.out (by simp)); replace HK := zA_ (KeepBut.trans βIa hk (.inl rfl)); replace HB := zA_ (hb); replace HI0 := zA_ (hi); (try clear hb); (try clear hb2); (try clear hk); (try clear hi)))
         go_loopg [] k1 (fun kq w' => ∃ (x1001_2 : Int) (x1002_2 : Int) (x1003_2 : Int) (x233000_2 : List ByteArray) (u233000 : Value), Aside0 (spec_l01Src_l03Flash.l1 kq s0_0 x1001_2 x1002_2 x1003_2 x233000_2 x233001_1 = some (r1, r2, r3, r4, r5)) ∧ Aside0 (kq ≤ k1) ∧ Aside0 (Kd.R Kd.string 9 w' w.heap.size (fun _ => True) u233000 x233000_2) ∧ Aside0 (Kd.R k83 83 w' w.heap.size (fun _ => True) u233001 x233001_1) ∧ Aside0 (w'.heap[gb221]? = some (.cells #[(.slice none 0 0), (.slice none 0 0)] 26 (0, 0))) ∧ Aside0 (w'.heap[gb232]? = some (.cells #[u233000, u233001] 26 (0, 0))) ∧ Aside0 (IsS101 w0 w' g s0_0 x1001_2 x1002_2 x1003_2) ∧ Aside0 (KeepBut w w' g none) ∧ Aside0 (Below w0.heap.size w0 w'))
         case atStart => exact ⟨(t275), (t276), (t277), (x233000_1), (u233000), H', ⟨Nat.le_refl _⟩, ⟨zr_ HO_233000.out⟩, ⟨zr_ HO_233001.out⟩, ⟨zb_ BK221.out⟩, ⟨zb_ BK232.out⟩, ⟨βV⟩, ⟨βIa⟩, ⟨βqa⟩⟩
         case round =>
          clear H'
          try clear c1
          try clear p2
          try clear c3
          try clear c4
          try clear c5
          try clear c6
          try clear p6
          try clear c7
          try clear c8
          try clear p9
          try clear q9
          try clear hx9
          try clear hcv9
          try clear qi9
          try clear hf9
          try clear c14
          try clear c15
          try clear c15b0
          try clear c17
          try clear c39
          try clear c41
          try clear c42
          try clear c43
          try clear c45
          try clear c46
          try clear c47
          try clear c48
          try clear c51
          try clear c51b0
          try clear c51b1
          try clear c52
          try clear c53
          try clear c54
          try clear c57
          try clear c58
          try clear c61
          try clear c62
          try clear c63
          try clear p64
          try clear c68
          try clear c70
          try clear c70b0
          try clear c70b1
          try clear c72
          try clear c73
          try clear c75
          try clear c75b0
          try clear c75b1
          try clear c77
          try clear c84
          try clear c84b0
          try clear c84b1
          try clear c87
          try clear c87b0
          try clear c87b1
          try clear c88
          try clear c88b0
          try clear c88b1
          try clear c89
          try clear c89b0
          try clear c89b1
          try clear p90
          try clear q90
          try clear hx90
          try clear qi90
          try clear hf90
          try clear hcv96
          try clear hcz44_0
          try clear hcz44_1
          try clear hcz49_0
          try clear hcz49_1
          try clear hcz49_2
          try clear hcz49_3
          try clear hcz55_0
          try clear hcz55_1
          try clear hcz55_2
          try clear hcz55_3
          try clear hcz59_0
          try clear hcz59_1
          try clear hcz64_0
          try clear hcz64_1
          try clear hcz64_2
          try clear hcz64_3
          try clear hcz74_0
          try clear hcz74_1
          try clear hfz44_0
          try clear hfz44_1
          try clear hfz49_0
          try clear hfz49_1
          try clear hfz49_2
          try clear hfz49_3
          try clear hfz55_0
          try clear hfz55_1
          try clear hfz55_2
          try clear hfz55_3
          try clear hfz59_0
          try clear hfz59_1
          try clear hfz64_0
          try clear hfz64_1
          try clear hfz64_2
          try clear hfz64_3
          try clear hfz74_0
          try clear hfz74_1
          try clear hx90_0
          try clear p2
          try clear p90
          try clear q90
          obtain ⟨x1001_2, x1002_2, x1003_2, x233000_2, u233000, HA, HK2, HO_233000, HO_233001, BK221, BK232, HI0, HK, HB⟩ := hrel
          cases gk with
          | zero => exact absurd HA.out (by simp [spec_l01Src_l03Flash.l1])
          | succ k2 =>
           have H := HA.out
           clear HA
           simp only [spec_l01Src_l03Flash.l1] at H
           replace H := Option.bind_eq_some_iff.mp H
           obtain ⟨⟨t293, t294, t295, t296⟩, A990, H⟩ := H
           (try dsimp -simprocs only at H)
           have A99 := zA_ A990
           clear A990
           by_cases c100 : (x233000_2.length : Int) < (wrap64 (40 + t293))
           ·
            rw [if_pos c100] at H
            have c100b0 : decide ((x233000_2.length : Int) < (wrap64 (40 + t293))) = true := decide_eq_true c100
            clear c100
            by_cases c101 : x233000_2.length < 8796093022208
            ·
             rw [if_pos c101] at H
             have LMc101 := zA_ c101
             clear c101
             obtain ⟨y297, hy297⟩ : ∃ y_ : List ByteArray, y_ = (x233000_2 ++ [(⟨#[]⟩ : ByteArray)]) := ⟨_, rfl⟩
             replace H : (spec_l01Src_l03Flash.l1 k2 s0_0 t294 t295 t296 y297 x233001_1) = some (r1, r2, r3, r4, r5) := by first | (rw [hy297]; with_reducible exact H) | (have H2_ := (Option.bind_some _ _).symm.trans H; rw [hy297]; with_reducible exact H2_) | (have H2_ := (Option.bind_some _ _).symm.trans H; with_reducible exact H2_) | with_reducible exact H | (rw [hy297]; exact H) | exact H
             have Ny297 := zA_ hy297
             clear hy297
             have H' := zA_ H
             clear H
             try go_wp2
             replace HO_233000 := zA_ (Kd.R_drew HO_233000.out)
             replace HO_233001 := zA_ (Kd.R_drew HO_233001.out)
             replace BK221 := zA_ (blk_drew BK221.out)
             replace BK232 := zA_ (blk_drew BK232.out)
             replace HI0 := zA_ (IsS101.drew HI0.out)
             replace HK := zA_ (keep_drew HK.out)
             replace HB := zA_ (below_drew1 HB.out)
             obtain ⟨Ao103, co103, eo103⟩ := Kd.R_slice HO_233000.out
             (first | subst eo103 | (injection eo103 with f1_ f2_ f3_; have f4_ := f1_.symm; have f5_ := f3_.symm; clear f1_ f2_ f3_; subst f4_; subst f5_))
             refine start_ (n := 7) (S := fun w' => w'.cell? ⟨gb232, 0, none⟩ = some (.slice Ao103 x233000_2.length co103) ∧ w'.cell? ⟨gb232, 1, none⟩ = some (u233001)) (ds := []) #[false, false, false, false, false, false, false] βPb rfl rfl ⟨cy_ BK232.out 0, cy_ BK232.out 1⟩ (fun hHeld => ?_)
             generalize wr.drew = w102 at HO_233000 HO_233001 BK221 BK232 HI0 HK HB hHeld ⊢
             refine pure_ (i := 0) (N := some 37) (v := ?_) (a' := ?_) #[true, false, false, false, false, false, false] rfl rfl βPb (fun _ _ _ h => h) (Or.inl ⟨(by rfl), ?_⟩) ?_ ?_
             rotate_left; exact pv_; rotate_left; exact pp_
             refine pure_ (i := 3) (N := some 40) (v := ?_) (a' := ?_) #[true, false, false, true, false, false, false] rfl rfl βPb (fun _ _ _ h => h) (Or.inl ⟨(by rfl), ?_⟩) ?_ ?_
             rotate_left; exact pv_; rotate_left; exact pp_
             refine take_ (i := 1) (N := some 38) (v := ?_) (a' := ?_) #[true, true, false, true, false, false, false] rfl rfl βPb (fun _ _ _ h => h) (Or.inl ⟨(by rfl), ?_⟩) hHeld ?_ ?_
             rotate_left
             ·
              rintro w' ⟨s0, s1⟩
              go_simp
              with_reducible rfl
             rotate_left
             exact pp_
             refine pure_ (i := 2) (N := some 39) (v := ?_) (a' := ?_) #[true, true, true, true, false, false, false] rfl rfl βPb (fun _ _ _ h => h) (Or.inl ⟨(by rfl), ?_⟩) ?_ ?_
             rotate_left; exact pv_; rotate_left; exact pp_
             refine one_ (i := 4) (N := some 41) #[true, true, true, true, true, false, false] rfl rfl βPb (by decide) (fun K hK => ?_)
             refine goes_ Try.func45 βPb rfl #[.pointer (some ⟨g, 0, none⟩), .int .i64 2] (by rfl) rfl rfl zs_ ?_
             with_reducible refine (spec_l01Src_n.calls g s0_0 x1001_2 x1002_2 x1003_2 2 t293 t294 t295 t296 w0 _ ?side1 ?side2 A99.out).mono ?_
             (case side1 => exact βV)
             (case side2 => exact βqa)
             rintro e w104 ⟨rfl, hi, hb, hk⟩
             refine ⟨_, rfl, ?_⟩
             replace HO_233000 := zA_ (Kd.R_mono (Kd.R_keep (IsS101.apart (show IsS101 w0 _ g s0_0 x1001_2 x1002_2 x1003_2 from by repeat (first | (with_reducible first | exact HI0.out | apply IsS101.alloc | apply IsS101.drewN | apply IsS101.drew | apply IsS101.set_1 | apply IsS101.set_2 | apply IsS101.set_3 | refine IsS101.far ?_ NB0_221.out _ | refine IsS101.far ?_ NB0_232.out _) | exact HI0.out)) (zr_ HO_233000.out) (by decide)) hk (fun _ h => h.2)) (fun _ h => h.1))
             replace HO_233001 := zA_ (Kd.R_mono (Kd.R_keep (IsS101.apart (show IsS101 w0 _ g s0_0 x1001_2 x1002_2 x1003_2 from by repeat (first | (with_reducible first | exact HI0.out | apply IsS101.alloc | apply IsS101.drewN | apply IsS101.drew | apply IsS101.set_1 | apply IsS101.set_2 | apply IsS101.set_3 | refine IsS101.far ?_ NB0_221.out _ | refine IsS101.far ?_ NB0_232.out _) | exact HI0.out)) (zr_ HO_233001.out) (by decide)) hk (fun _ h => h.2)) (fun _ h => h.1))
             replace BK221 := zA_ (KeepBut.blk hk (g' := gb221) (o := .cells #[.slice none 0 0, .slice none 0 0] 26 (0, 0)) (zb_ BK221.out) NB221_0.out (by simp))
             replace BK232 := zA_ (KeepBut.blk hk (g' := gb232) (o := .cells #[.slice Ao103 x233000_2.length co103, u233001] 26 (0, 0)) (zb_ BK232.out) NB232_0.out (by simp))
             replace HK := zA_ (KeepBut.trans βIa hk (.inl rfl))
             replace HB := zA_ (hb)
             replace HI0 := zA_ (hi)
             (try clear hb)
             (try clear hb2)
             (try clear hk)
             (try clear hi)
             refine hK.out _ _ ⟨cy_ BK232.out 0, cy_ BK232.out 1⟩ (fun hHeld => ?_)
             clear hK K
             refine norm_ (a' := ?_) ?_ ?_
             rotate_left
             ·
              show Act.put _ (some 41) _ = _
              simp only [Act.put, List.setIfInBounds_toArray, List.set_cons_zero, List.set_cons_succ, i64_w, i32_w]
              rfl
             refine pure_ (i := 5) (N := some 42) (v := ?_) (a' := ?_) #[true, true, true, true, true, true, false] rfl rfl βPb (fun _ _ _ h => h) (Or.inl ⟨(by rfl), ?_⟩) ?_ ?_
             rotate_left; exact pv_; rotate_left; exact pp_
             refine pure_ (i := 6) (N := some 43) (v := ?_) (a' := ?_) #[true, true, true, true, true, true, true] rfl rfl βPb (fun _ _ _ h => h) (Or.inl ⟨(by rfl), ?_⟩) ?_ ?_
             rotate_left; exact pv_; rotate_left; exact pp_
             refine done_ βPb ?_
             have hnb105 := NB232_221.out
             have hnc105 := NB221_232.out
             have hnb106 := NB232_0.out
             have hnc106 := NB0_232.out
             have hcz107_0 := cz_ BK232.out 0 (.slice Ao103 x233000_2.length co103) rfl
             have hcz107_1 : w104.cell? ⟨gb232, 1, none⟩ = some (u233001) := (blk_cell BK232.out 1).trans rfl
             have hfz107_0 := blk_frozen BK232.out 0
             have hfz107_1 := blk_frozen BK232.out 1
             try go_wp2_with (first | ((with_reducible refine gate_builtin (b := .append) (xs := #[.tmp 45, .tmp 46]) rfl ?_); at_builtin; refine Kd.R_append Kd.string w.heap.size rfl (.tmp 45) (.tmp 46) 23 9 (.string ⟨#[]⟩) 16 rfl Try.underlying23 info9 rfl (by decide) (by omega) (.slice Ao103 x233000_2.length co103) x233000_2 (⟨#[]⟩ : ByteArray) [.string (⟨#[]⟩ : ByteArray)] (fun _ => True) (fun _ => False) rfl rfl ?aP (fun _ hk => hk.elim) ?aF ?aO (Below.refl _ _) ?aS ?aL ?_; (case aP => exact rfl); (case aF => exact (fun _ _ => trivial)); (case aO => exact (zr_ HO_233000.out)); (case aS => exact (keep_size (w := w) (g := g) (row := none) βIa)); (case aL => exact (by have := LMc101.out; omega)); intro v298 w108 ho hb hg hat; rw [← Ny297.out] at ho; replace HO_233001 := zA_ (Kd.R_over' (zr_ HO_233001.out) (Kd.R_typed (zr_ HO_233000.out)) (by decide) hg); replace BK221 := zA_ (blk_grown (g := gb221) (o := .cells #[.slice none 0 0, .slice none 0 0] 26 (0, 0)) (zb_ BK221.out) hg (Kd.R_ne HO_233000.out BK221.out (by decide))); replace BK232 := zA_ (blk_grown (g := gb232) (o := .cells #[.slice Ao103 x233000_2.length co103, u233001] 26 (0, 0)) (zb_ BK232.out) hg (Kd.R_ne HO_233000.out BK232.out (by decide))); replace HB := zA_ (below_weaken βqa HL.out hb); replace HI0 := zA_ (IsS101.grown βV hg (IsS101.own_ne HI0.out HO_233000.out (by decide))); replace HK := zA_ (KeepBut.trans βIa (KeepBut.of_grown hg g) (Kd.R_base2 HO_233000.out)); have HO299 := zA_ (ho); clear HO_233000; clear ho hb hg hat; obtain ⟨Ao109, co109, eo109⟩ := Kd.R_slice HO299.out; subst eo109; have hcz110_0 := cz_ BK232.out 0 (.slice Ao103 x233000_2.length co103) rfl; have hcz110_1 : w108.cell? ⟨gb232, 1, none⟩ = some (u233001) := (blk_cell BK232.out 1).trans rfl; have hfz110_0 := blk_frozen BK232.out 0; have hfz110_1 := blk_frozen BK232.out 1))
             go_roundg k2
             case measure => have := HK1.out; have := HK2.out; omega
             case rel => exact ⟨(t294), (t295), (t296), (y297), (.slice Ao109 y297.length co109), H', ⟨(by have := HK1.out; have := HK2.out; omega)⟩, ⟨(by (with_reducible repeat (first | apply Kd.R_alloc | apply Kd.R_drewN | apply Kd.R_drew)); exact Kd.R_mono (Kd.R_far (p := ⟨gb232, 0, none⟩) (Kd.R_types HO299.out BK232.out (by decide)) (fun _ hk => hk.2) (.slice Ao109 y297.length co109)) (fun _ hk => trivial))⟩, ⟨(by (with_reducible repeat (first | apply Kd.R_alloc | apply Kd.R_drewN | apply Kd.R_drew)); exact Kd.R_mono (Kd.R_far (p := ⟨gb232, 0, none⟩) (Kd.R_types HO_233001.out BK232.out (by decide)) (fun _ hk => hk.2) (.slice Ao109 y297.length co109)) (fun _ hk => trivial))⟩, ⟨zf1_ NB221_232.out BK221.out⟩, ⟨(by (with_reducible repeat (first | refine blk_drewN ?_ _ | refine blk_drew ?_ | refine blk_alloc ?_ _)); refine blk_put (cs := #[.slice Ao103 x233000_2.length co103, u233001]) ?_ 0 _ rfl; (with_reducible repeat (first | refine blk_drewN ?_ _ | refine blk_drew ?_ | refine blk_alloc ?_ _)); exact BK232.out)⟩, ⟨βV⟩, ⟨βIa⟩, ⟨βqa⟩⟩
            ·
             rw [if_neg c101] at H
             exact absurd H (by simp)
           ·
            rw [if_neg c100] at H
            have c100b0 : decide ((x233000_2.length : Int) < (wrap64 (40 + t293))) = false := decide_eq_false c100
            clear c100
            have H' := zA_ H
            clear H
            try go_wp2
            replace HO_233000 := zA_ (Kd.R_drew HO_233000.out)
            replace HO_233001 := zA_ (Kd.R_drew HO_233001.out)
            replace BK221 := zA_ (blk_drew BK221.out)
            replace BK232 := zA_ (blk_drew BK232.out)
            replace HI0 := zA_ (IsS101.drew HI0.out)
            replace HK := zA_ (keep_drew HK.out)
            replace HB := zA_ (below_drew1 HB.out)
            obtain ⟨Ao112, co112, eo112⟩ := Kd.R_slice HO_233000.out
            (first | subst eo112 | (injection eo112 with f1_ f2_ f3_; have f4_ := f1_.symm; have f5_ := f3_.symm; clear f1_ f2_ f3_; subst f4_; subst f5_))
            refine start_ (n := 7) (S := fun w' => w'.cell? ⟨gb232, 0, none⟩ = some (.slice Ao112 x233000_2.length co112) ∧ w'.cell? ⟨gb232, 1, none⟩ = some (u233001)) (ds := []) #[false, false, false, false, false, false, false] βPb rfl rfl ⟨cy_ BK232.out 0, cy_ BK232.out 1⟩ (fun hHeld => ?_)
            generalize wr.drew = w111 at HO_233000 HO_233001 BK221 BK232 HI0 HK HB hHeld ⊢
            refine pure_ (i := 0) (N := some 37) (v := ?_) (a' := ?_) #[true, false, false, false, false, false, false] rfl rfl βPb (fun _ _ _ h => h) (Or.inl ⟨(by rfl), ?_⟩) ?_ ?_
            rotate_left; exact pv_; rotate_left; exact pp_
            refine pure_ (i := 3) (N := some 40) (v := ?_) (a' := ?_) #[true, false, false, true, false, false, false] rfl rfl βPb (fun _ _ _ h => h) (Or.inl ⟨(by rfl), ?_⟩) ?_ ?_
            rotate_left; exact pv_; rotate_left; exact pp_
            refine take_ (i := 1) (N := some 38) (v := ?_) (a' := ?_) #[true, true, false, true, false, false, false] rfl rfl βPb (fun _ _ _ h => h) (Or.inl ⟨(by rfl), ?_⟩) hHeld ?_ ?_
            rotate_left
            ·
             rintro w' ⟨s0, s1⟩
             go_simp
             with_reducible rfl
            rotate_left
            exact pp_
            refine pure_ (i := 2) (N := some 39) (v := ?_) (a' := ?_) #[true, true, true, true, false, false, false] rfl rfl βPb (fun _ _ _ h => h) (Or.inl ⟨(by rfl), ?_⟩) ?_ ?_
            rotate_left; exact pv_; rotate_left; exact pp_
            refine one_ (i := 4) (N := some 41) #[true, true, true, true, true, false, false] rfl rfl βPb (by decide) (fun K hK => ?_)
            refine goes_ Try.func45 βPb rfl #[.pointer (some ⟨g, 0, none⟩), .int .i64 2] (by rfl) rfl rfl zs_ ?_
            with_reducible refine (spec_l01Src_n.calls g s0_0 x1001_2 x1002_2 x1003_2 2 t293 t294 t295 t296 w0 _ ?side1 ?side2 A99.out).mono ?_
            (case side1 => exact βV)
            (case side2 => exact βqa)
            rintro e w113 ⟨rfl, hi, hb, hk⟩
            refine ⟨_, rfl, ?_⟩
            replace HO_233000 := zA_ (Kd.R_mono (Kd.R_keep (IsS101.apart (show IsS101 w0 _ g s0_0 x1001_2 x1002_2 x1003_2 from by repeat (first | (with_reducible first | exact HI0.out | apply IsS101.alloc | apply IsS101.drewN | apply IsS101.drew | apply IsS101.set_1 | apply IsS101.set_2 | apply IsS101.set_3 | refine IsS101.far ?_ NB0_221.out _ | refine IsS101.far ?_ NB0_232.out _) | exact HI0.out)) (zr_ HO_233000.out) (by decide)) hk (fun _ h => h.2)) (fun _ h => h.1))
            replace HO_233001 := zA_ (Kd.R_mono (Kd.R_keep (IsS101.apart (show IsS101 w0 _ g s0_0 x1001_2 x1002_2 x1003_2 from by repeat (first | (with_reducible first | exact HI0.out | apply IsS101.alloc | apply IsS101.drewN | apply IsS101.drew | apply IsS101.set_1 | apply IsS101.set_2 | apply IsS101.set_3 | refine IsS101.far ?_ NB0_221.out _ | refine IsS101.far ?_ NB0_232.out _) | exact HI0.out)) (zr_ HO_233001.out) (by decide)) hk (fun _ h => h.2)) (fun _ h => h.1))
            replace BK221 := zA_ (KeepBut.blk hk (g' := gb221) (o := .cells #[.slice none 0 0, .slice none 0 0] 26 (0, 0)) (zb_ BK221.out) NB221_0.out (by simp))
            replace BK232 := zA_ (KeepBut.blk hk (g' := gb232) (o := .cells #[.slice Ao112 x233000_2.length co112, u233001] 26 (0, 0)) (zb_ BK232.out) NB232_0.out (by simp))
            replace HK := zA_ (KeepBut.trans βIa hk (.inl rfl))
            replace HB := zA_ (hb)
            replace HI0 := zA_ (hi)
            (try clear hb)
            (try clear hb2)
            (try clear hk)
            (try clear hi)
            refine hK.out _ _ ⟨cy_ BK232.out 0, cy_ BK232.out 1⟩ (fun hHeld => ?_)
            clear hK K
            refine norm_ (a' := ?_) ?_ ?_
            rotate_left
            ·
             show Act.put _ (some 41) _ = _
             simp only [Act.put, List.setIfInBounds_toArray, List.set_cons_zero, List.set_cons_succ, i64_w, i32_w]
             rfl
            refine pure_ (i := 5) (N := some 42) (v := ?_) (a' := ?_) #[true, true, true, true, true, true, false] rfl rfl βPb (fun _ _ _ h => h) (Or.inl ⟨(by rfl), ?_⟩) ?_ ?_
            rotate_left; exact pv_; rotate_left; exact pp_
            refine pure_ (i := 6) (N := some 43) (v := ?_) (a' := ?_) #[true, true, true, true, true, true, true] rfl rfl βPb (fun _ _ _ h => h) (Or.inl ⟨(by rfl), ?_⟩) ?_ ?_
            rotate_left; exact pv_; rotate_left; exact pp_
            refine done_ βPb ?_
            try go_wp2
            go_meet
            case rel => exact ⟨_, (t294), (t295), (t296), (x233000_2), (x233001_1), (.slice Ao112 x233000_2.length co112), (u233001), H', ⟨(by have := HK1.out; have := HK2.out; first | omega | exact Nat.le_refl _)⟩, ⟨zr_ HO_233000.out⟩, ⟨zr_ HO_233001.out⟩, ⟨zb_ BK221.out⟩, ⟨zb_ BK232.out⟩, ⟨βV⟩, ⟨βIa⟩, ⟨βqa⟩⟩
     ·
      replace c68 := Bool.eq_false_iff.mpr c68
      subst c68
      have H1 : (spec_l01Src_l03Flash.j4 k1 s0_0 t271 t272 t273 x233000_1 x233001_1) = some (r1, r2, r3, r4, r5) := by rw [if_neg (show ¬ (false = true) by decide)] at H; exact H
      clear H
      have H := H1
      clear H1
      have H' := zA_ H
      clear H
      go_wp2
      go_meet
      case rel => exact ⟨_, (t271), (t272), (t273), (x233000_1), (x233001_1), (u233000), (u233001), H', ⟨βJb⟩, ⟨zr_ HO_233000.out⟩, ⟨zr_ HO_233001.out⟩, ⟨zb_ BK221.out⟩, ⟨zb_ BK232.out⟩, ⟨βV⟩, ⟨βIa⟩, ⟨βqa⟩⟩
    case rest =>
     clear HC66
     try clear c1
     try clear p2
     try clear c3
     try clear c4
     try clear c5
     try clear c6
     try clear p6
     try clear c7
     try clear c8
     try clear p9
     try clear q9
     try clear hx9
     try clear hcv9
     try clear qi9
     try clear hf9
     try clear c10
     try clear c14
     try clear c15
     try clear c15b0
     try clear c17
     try clear c39
     try clear c41
     try clear c42
     try clear c43
     try clear c45
     try clear c46
     try clear c47
     try clear c48
     try clear c51
     try clear c51b0
     try clear c51b1
     try clear c52
     try clear c53
     try clear c54
     try clear c57
     try clear c58
     try clear c61
     try clear c62
     try clear c63
     try clear p64
     try clear c68
     try clear c70
     try clear c70b0
     try clear c70b1
     try clear c72
     try clear c73
     try clear c75
     try clear c75b0
     try clear c75b1
     try clear c77
     try clear c84
     try clear c84b0
     try clear c84b1
     try clear c87
     try clear c87b0
     try clear c87b1
     try clear c88
     try clear c88b0
     try clear c88b1
     try clear c89
     try clear c89b0
     try clear c89b1
     try clear p90
     try clear q90
     try clear hx90
     try clear qi90
     try clear hf90
     try clear hcv96
     try clear c100
     try clear c100b0
     try clear c101
     try clear c105
     try clear c106
     try clear hcz107_0
     try clear hcz107_1
     try clear hcz110_0
     try clear hcz110_1
     try clear hcz44_0
     try clear hcz44_1
     try clear hcz49_0
     try clear hcz49_1
     try clear hcz49_2
     try clear hcz49_3
     try clear hcz55_0
     try clear hcz55_1
     try clear hcz55_2
     try clear hcz55_3
     try clear hcz59_0
     try clear hcz59_1
     try clear hcz64_0
     try clear hcz64_1
     try clear hcz64_2
     try clear hcz64_3
     try clear hcz74_0
     try clear hcz74_1
     try clear hfz107_0
     try clear hfz107_1
     try clear hfz110_0
     try clear hfz110_1
     try clear hfz44_0
     try clear hfz44_1
     try clear hfz49_0
     try clear hfz49_1
     try clear hfz49_2
     try clear hfz49_3
     try clear hfz55_0
     try clear hfz55_1
     try clear hfz55_2
     try clear hfz55_3
     try clear hfz59_0
     try clear hfz59_1
     try clear hfz64_0
     try clear hfz64_1
     try clear hfz64_2
     try clear hfz64_3
     try clear hfz74_0
     try clear hfz74_1
     try clear hx90_0
     try clear p2
     try clear p6
     try clear p64
     try clear p9
     try clear p90
     try clear q9
     try clear q90
     obtain ⟨kq, x1001_65, x1002_65, x1003_65, x233000_65, x233001_65, u233000, u233001, HA, HJ65, HO_233000, HO_233001, BK221, BK232, HI0, HK, HB⟩ := hcut
     cases kq with
     | zero => exact absurd HA.out (by simp [spec_l01Src_l03Flash.j4])
     | succ kj65 =>
      have H := HA.out
      clear HA
      simp only [spec_l01Src_l03Flash.j4] at H
      simp only [Option.some.injEq, Prod.mk.injEq] at H
      obtain ⟨rfl, rfl, rfl, rfl, rfl⟩ := H
      have hnb114 := NB232_221.out
      have hnc114 := NB221_232.out
      have hnb115 := NB232_0.out
      have hnc115 := NB0_232.out
      have hcz116_0 : wc.cell? ⟨gb232, 0, none⟩ = some (u233000) := (blk_cell BK232.out 0).trans rfl
      have hcz116_1 : wc.cell? ⟨gb232, 1, none⟩ = some (u233001) := (blk_cell BK232.out 1).trans rfl
      have hfz116_0 := blk_frozen BK232.out 0
      have hfz116_1 := blk_frozen BK232.out 1
      obtain ⟨Ao117, co117, eo117⟩ := Kd.R_slice HO_233000.out
      subst eo117
      have hnb118 := NB221_0.out
      have hnc118 := NB0_221.out
      have hcz119_0 := cz_ BK221.out 0 (.slice none 0 0) rfl
      have hcz119_1 := cz_ BK221.out 1 (.slice none 0 0) rfl
      have hfz119_0 := blk_frozen BK221.out 0
      have hfz119_1 := blk_frozen BK221.out 1
      obtain ⟨Ao120, co120, eo120⟩ := Kd.R_slice HO_233001.out
      subst eo120
      go_wp2
      refine bodyPost_ret (results_cell_row rfl _ _ gb221 26 #[.slice Ao117 x233000_65.length co117, .slice Ao120 x233001_65.length co120] (0, 0) _ rfl (by (with_reducible repeat (first | refine blk_drewN ?_ _ | refine blk_drew ?_ | refine blk_alloc ?_ _)); refine blk_put (cs := #[.slice Ao117 x233000_65.length co117, .slice none 0 0]) ?_ 1 _ rfl; (with_reducible repeat (first | refine blk_drewN ?_ _ | refine blk_drew ?_ | refine blk_alloc ?_ _)); refine blk_put (cs := #[.slice none 0 0, .slice none 0 0]) ?_ 0 _ rfl; (with_reducible repeat (first | refine blk_drewN ?_ _ | refine blk_drew ?_ | refine blk_alloc ?_ _)); exact BK221.out) Try.underlying26 rfl βPb) rfl ?_
      exact ⟨_, _, βFb, (by (with_reducible repeat (first | apply Kd.R_alloc | apply Kd.R_drewN | apply Kd.R_drew)); exact Kd.R_mono (Kd.R_far (p := ⟨gb221, 1, none⟩) (Kd.R_far (p := ⟨gb221, 0, none⟩) (Kd.R_types HO_233000.out BK221.out (by decide)) (fun _ hk => hk.2) (.slice Ao117 x233000_65.length co117)) (fun _ hk => hk.2) (.slice Ao120 x233001_65.length co120)) (fun _ hk => trivial)), (by (with_reducible repeat (first | apply Kd.R_alloc | apply Kd.R_drewN | apply Kd.R_drew)); exact Kd.R_mono (Kd.R_far (p := ⟨gb221, 1, none⟩) (Kd.R_far (p := ⟨gb221, 0, none⟩) (Kd.R_types HO_233001.out BK221.out (by decide)) (fun _ hk => hk.2) (.slice Ao117 x233000_65.length co117)) (fun _ hk => hk.2) (.slice Ao120 x233001_65.length co120)) (fun _ hk => trivial)), βV, βqa, βIa⟩
def spec_DrawFlashWrite.f (k : Nat) (l0 : List Int) : Option (List ByteArray × (List (S83)) × Int × ByteArray) := (spec_l01Source.f k l0).bind fun bt301 => ((spec_l01Src_l03Flash.f k bt301.1 bt301.2.1 bt301.2.2.1 bt301.2.2.2).bind fun bt306 => ((spec_l01Src_n.f bt301.1 bt306.2.2.1 bt306.2.2.2.1 bt306.2.2.2.2 8).bind fun bt316 => ((spec_l01Src_one.f bt301.1 bt316.2.1 bt316.2.2.1 bt316.2.2.2 10).bind fun bt320 => (if bt320.1 = true then ((spec_l01Src_n.f bt301.1 bt320.2.1 bt320.2.2.1 bt320.2.2.2 2).bind fun bt324 => (if 0 ≤ (wrap64 (96 + bt324.1)) then (if (wrap64 (96 + bt324.1) : Int).toNat ≤ 281474976710656 then (some (bt306.1, bt306.2.1, bt316.1, strOfNums (List.replicate (wrap64 (96 + bt324.1) : Int).toNat 0))) else (none)) else (none))) else ((spec_l01Src_n.f bt301.1 bt320.2.1 bt320.2.2.1 bt320.2.2.2 5).bind fun bt331 => ((spec_l01Src_bytes.f k bt301.1 bt331.2.1 bt331.2.2.1 bt331.2.2.2 bt331.1).bind fun bt335 => (some (bt306.1, bt306.2.1, bt316.1, bt335.1))))))))
def spec_DrawFlashWrite.T5 : Bool × List (List Nat × List Nat) := (true, [([], []), ([], []), ([], []), ([2], [2]), ([3], [3]), ([4, 4], [4]), ([5], [5]), ([0, 3, 0], [0]), ([1, 7, 0, 1, 7], [1]), ([6, 8, 0, 1, 2, 3, 4, 5, 6, 7, 8], [6])])
def spec_DrawFlashWrite.B5 : List Nat := [0, 0, 0, 4, 12, 28, 60, 13, 143, 511]
theorem spec_DrawFlashWrite.tab5 : rtab .any (opsOf Try.f5 5) = spec_DrawFlashWrite.T5 := by kernel_rfl
theorem spec_DrawFlashWrite.bits5 : waitsOk spec_DrawFlashWrite.T5.2 spec_DrawFlashWrite.B5 = true := by kernel_rfl
def spec_DrawFlashWrite.T6 : Bool × List (List Nat × List Nat) := (true, [([], []), ([], []), ([], []), ([], []), ([3], [3]), ([2, 4, 4], [2, 4]), ([0, 5, 0], [0]), ([1, 6, 0, 1, 6], [1]), ([5, 7, 0, 1, 2, 3, 4, 5, 6, 7], [5])])
def spec_DrawFlashWrite.B6 : List Nat := [0, 0, 0, 0, 8, 28, 61, 127, 255]
theorem spec_DrawFlashWrite.tab6 : rtab .any (opsOf Try.f5 6) = spec_DrawFlashWrite.T6 := by kernel_rfl
theorem spec_DrawFlashWrite.bits6 : waitsOk spec_DrawFlashWrite.T6.2 spec_DrawFlashWrite.B6 = true := by kernel_rfl
theorem spec_DrawFlashWrite.calls (k : Nat) (A0 : Option Addr) (c0 : Nat) (l0 : List Int) (r1 : List ByteArray) (r2 : List (S83)) (r3 : Int) (r4 : ByteArray) (w : World) (hr0 : Kd.C (Kd.int .u8) w A0 l0.length l0) (hc0 : l0.length ≤ c0) (h : spec_DrawFlashWrite.f k l0 = some (r1, r2, r3, r4)) :
 Calls Try.prog 5 #[.slice A0 l0.length c0] w fun e w' => ∃ v0_ v1_ : Value, e = .returned (.tuple #[.agg #[v0_, v1_], .int .i64 r3, .string r4]) ∧ Kd.R Kd.string 9 w' w.heap.size (fun _ => True) v0_ r1 ∧ Kd.R k83 83 w' w.heap.size (fun _ => True) v1_ r2 ∧ Below w.heap.size w w' := by
 have hu26 := Try.underlying26
 have HR0 := zA_ hr0
 have HC0 := zA_ hc0
 clear hr0 hc0
 have HB := zA_ (Below.refl w.heap.size w)
 have H : ((spec_l01Source.f k l0).bind fun bt301 => ((spec_l01Src_l03Flash.f k bt301.1 bt301.2.1 bt301.2.2.1 bt301.2.2.2).bind fun bt306 => ((spec_l01Src_n.f bt301.1 bt306.2.2.1 bt306.2.2.2.1 bt306.2.2.2.2 8).bind fun bt316 => ((spec_l01Src_one.f bt301.1 bt316.2.1 bt316.2.2.1 bt316.2.2.2 10).bind fun bt320 => (if bt320.1 = true then ((spec_l01Src_n.f bt301.1 bt320.2.1 bt320.2.2.1 bt320.2.2.2 2).bind fun bt324 => (if 0 ≤ (wrap64 (96 + bt324.1)) then (if (wrap64 (96 + bt324.1) : Int).toNat ≤ 281474976710656 then (some (bt306.1, bt306.2.1, bt316.1, strOfNums (List.replicate (wrap64 (96 + bt324.1) : Int).toNat 0))) else (none)) else (none))) else ((spec_l01Src_n.f bt301.1 bt320.2.1 bt320.2.2.1 bt320.2.2.2 5).bind fun bt331 => ((spec_l01Src_bytes.f k bt301.1 bt331.2.1 bt331.2.2.1 bt331.2.2.2 bt331.1).bind fun bt335 => (some (bt306.1, bt306.2.1, bt316.1, bt335.1))))))))) = some (r1, r2, r3, r4) := h
 clear h
 replace H := Option.bind_eq_some_iff.mp H
 obtain ⟨⟨t301, t302, t303, t304⟩, A20, H⟩ := H
 (try dsimp -simprocs only at H)
 have A2 := zA_ A20
 clear A20
 replace H := Option.bind_eq_some_iff.mp H
 obtain ⟨⟨t306, t309, t312, t313, t314⟩, A30, H⟩ := H
 (try dsimp -simprocs only at H)
 have A3 := zA_ A30
 clear A30
 replace H := Option.bind_eq_some_iff.mp H
 obtain ⟨⟨t316, t317, t318, t319⟩, A40, H⟩ := H
 (try dsimp -simprocs only at H)
 have A4 := zA_ A40
 clear A40
 replace H := Option.bind_eq_some_iff.mp H
 obtain ⟨⟨t320, t321, t322, t323⟩, A50, H⟩ := H
 (try dsimp -simprocs only at H)
 have A5 := zA_ A50
 clear A50
 by_cases c6 : t320 = true
 · subst c6
   have H1 : ((spec_l01Src_n.f t301 t321 t322 t323 2).bind fun bt324 => (if 0 ≤ (wrap64 (96 + bt324.1)) then (if (wrap64 (96 + bt324.1) : Int).toNat ≤ 281474976710656 then (some (t306, t309, t316, strOfNums (List.replicate (wrap64 (96 + bt324.1) : Int).toNat 0))) else (none)) else (none))) = some (r1, r2, r3, r4) := by rw [if_pos rfl] at H; exact H
   clear H
   have H := H1
   clear H1
   replace H := Option.bind_eq_some_iff.mp H
   obtain ⟨⟨t324, t325, t326, t327⟩, A70, H⟩ := H
   (try dsimp -simprocs only at H)
   have A7 := zA_ A70
   clear A70
   obtain ⟨ji8, hji8⟩ : ∃ j_ : Int, (wrap64 (96 + t324)) = j_ := ⟨_, rfl⟩
   replace H : (if 0 ≤ (ji8) then (if (ji8 : Int).toNat ≤ 281474976710656 then (some (t306, t309, t316, strOfNums (List.replicate (ji8 : Int).toNat 0))) else (none)) else (none)) = some (r1, r2, r3, r4) := by first | (rw [hji8] at H; exact H) | (simp only [hji8] at H ⊢; exact H)
   (try rw [hji8] at A2)
   (try rw [hji8] at A3)
   (try rw [hji8] at A4)
   (try rw [hji8] at A5)
   (try rw [hji8] at A7)
   have hji8w : (IntKind.i64.wrap (96 + t324)) = ji8 := (i64_w _).trans hji8
   by_cases c9 : 0 ≤ (ji8)
   · rw [if_pos c9] at H
     have c9b0 := eq_true c9
     have c9b1 : decide (0 ≤ (ji8)) = true := decide_eq_true c9
     clear c9
     by_cases c10 : (ji8 : Int).toNat ≤ 281474976710656
     · rw [if_pos c10] at H
       have c10b0 := eq_true c10
       have c10b1 : decide ((ji8 : Int).toNat ≤ 281474976710656) = true := decide_eq_true c10
       clear c10
       obtain ⟨y328, hy328⟩ : ∃ y_ : List Int, y_ = (List.replicate (ji8 : Int).toNat 0) := ⟨_, rfl⟩
       replace H : (some (t306, t309, t316, strOfNums y328)) = some (r1, r2, r3, r4) := by first | (rw [hy328]; with_reducible exact H) | (have H2_ := (Option.bind_some _ _).symm.trans H; rw [hy328]; with_reducible exact H2_) | (have H2_ := (Option.bind_some _ _).symm.trans H; with_reducible exact H2_) | with_reducible exact H | (rw [hy328]; exact H) | exact H
       have Ny328 := zA_ hy328
       clear hy328
       simp only [Option.some.injEq, Prod.mk.injEq] at H
       obtain ⟨rfl, rfl, rfl, rfl⟩ := H
       go_enter Try.func5, Try.ntmps5
       try go_wp2_with (first | ((with_reducible refine gate_dst (N := 2) rfl ?_); refine box_event ?hg (N := 2) ?hd (cs := #[.slice none 0 0, .slice none 0 0]) (t := 26) ?hr ?_; (case hd => exact (by rfl)); (case hg => exact (by rfl)); (case hr => exact βMb); intro gb300 hg w11 hbox hb; have BK300 := zA_ (hbox); have GW300 := zA_ ((by rw [hg]; exact (below_size (zh_ HB.out)) : w.heap.size ≤ gb300)); have GE300 := zA_ ((by rw [hg]; exact (below_size (zh_ HB.out)) : w.heap.size ≤ gb300)); replace HB := zA_ (below_step (zh_ HB.out) hb); clear hb hbox hg) | ((with_reducible refine gate_callee (f := 43) rfl ?_); refine goesL_ (some 9) rfl rfl Try.func43 βPb rfl #[.slice A0 l0.length c0] rfl zs_ ?_; (with_reducible refine (spec_l01Source.calls k _ _ l0 t301 t302 t303 t304 w _ ?side1 ?side2 ?side3 A2.out).mono ?_); (case side1 => exact βtb); (case side2 => exact HR0.out); (case side3 => exact HC0.out); rintro e w12 ⟨g305, rfl, hi, hb, hb2⟩; refine ⟨_, rfl, ?_⟩; replace HB := zA_ (hb); have HI305 := zA_ (hi); have NB305_300 := zA_ (IsS101.ne_blk hi (blk_below (g := gb300) (o := .cells #[.slice none 0 0, .slice none 0 0] 26 (0, 0)) (zb_ BK300.out) hb2) (by decide)); have NB300_305 := zA_ (Ne.symm (IsS101.ne_blk hi (blk_below (g := gb300) (o := .cells #[.slice none 0 0, .slice none 0 0] 26 (0, 0)) (zb_ BK300.out) hb2) (by decide))); replace BK300 := zA_ (blk_below (g := gb300) (o := .cells #[.slice none 0 0, .slice none 0 0] 26 (0, 0)) (zb_ BK300.out) hb2); (try clear hb); (try clear hb2); (try clear hk); (try clear hi)) | ((with_reducible refine gate_callee (f := 44) rfl ?_); refine goesL_ (some 11) rfl rfl Try.func44 βPb rfl #[.pointer (some ⟨g305, 0, none⟩)] rfl zs_ ?_; (with_reducible refine (spec_l01Src_l03Flash.calls k g305 t301 t302 t303 t304 t306 t309 t312 t313 t314 w _ ?side1 ?side2 A3.out).mono ?_); (case side1 => exact βna); (case side2 => exact βJa); rintro e w13 ⟨v307, v310, rfl, ho0, ho1, hi, hb, hk⟩; refine ⟨_, rfl, ?_⟩; replace BK300 := zA_ (KeepBut.blk hk (g' := gb300) (o := .cells #[.slice none 0 0, .slice none 0 0] 26 (0, 0)) (zb_ BK300.out) NB300_305.out (by simp)); have HO308 := zA_ (Kd.R_lower ho0 (below_size βJa)); have HO311 := zA_ (Kd.R_lower ho1 (below_size βJa)); replace HB := zA_ (hb); replace HI305 := zA_ (hi); (try clear hb); (try clear hb2); (try clear hk); (try clear hi); (try clear ho0); (try clear ho1)) | ((with_reducible refine gate_dst (N := 6) rfl ?_); refine box_event ?hg (N := 6) ?hd (cs := #[.slice none 0 0, .slice none 0 0]) (t := 26) ?hr ?_; (case hd => exact (by rfl)); (case hg => exact (by rfl)); (case hr => exact βMb); intro gb315 hg w14 hbox hb; replace HO308 := zR_ HO308.out hb; replace HO311 := zR_ HO311.out hb; have BK315 := zA_ (hbox); have GW315 := zA_ ((by rw [hg]; exact (below_size βJa) : w.heap.size ≤ gb315)); have GE315 := zA_ ((by rw [hg]; exact (below_size βJa) : w.heap.size ≤ gb315)); replace HB := zA_ (below_step βJa hb); have NB300_315 := zA_ ((by rw [hg]; exact Nat.ne_of_lt (blk_lt (g := gb300) (o := .cells #[.slice none 0 0, .slice none 0 0] 26 (0, 0)) (zb_ BK300.out)) : gb300 ≠ gb315)); have NB315_300 := zA_ ((by rw [hg]; exact Nat.ne_of_gt (blk_lt (g := gb300) (o := .cells #[.slice none 0 0, .slice none 0 0] 26 (0, 0)) (zb_ BK300.out)) : gb315 ≠ gb300)); replace BK300 := zB_ BK300.out hb; have NB305_315 := zA_ ((by rw [hg]; exact Nat.ne_of_lt (IsS101.lt (show IsS101 w _ g305 t301 t312 t313 t314 from by repeat (first | (with_reducible first | exact HI305.out | apply IsS101.alloc | apply IsS101.drewN | apply IsS101.drew | apply IsS101.set_1 | apply IsS101.set_2 | apply IsS101.set_3 | refine IsS101.far ?_ NB305_300.out _) | exact HI305.out))) : g305 ≠ gb315)); have NB315_305 := zA_ ((by rw [hg]; exact Nat.ne_of_gt (IsS101.lt (show IsS101 w _ g305 t301 t312 t313 t314 from by repeat (first | (with_reducible first | exact HI305.out | apply IsS101.alloc | apply IsS101.drewN | apply IsS101.drew | apply IsS101.set_1 | apply IsS101.set_2 | apply IsS101.set_3 | refine IsS101.far ?_ NB305_300.out _) | exact HI305.out))) : gb315 ≠ g305)); replace HI305 := zA_ (IsS101.below βna hb); clear hb hbox hg; obtain ⟨Ao15, co15, eo15⟩ := Kd.R_slice HO308.out; subst eo15; have hnb16 := NB315_300.out; have hnc16 := NB300_315.out; have hnb17 := NB315_305.out; have hnc17 := NB305_315.out; have hcz18_0 := cz_ BK315.out 0 (.slice none 0 0) rfl; have hcz18_1 := cz_ BK315.out 1 (.slice none 0 0) rfl; have hfz18_0 := blk_frozen BK315.out 0; have hfz18_1 := blk_frozen BK315.out 1; obtain ⟨Ao19, co19, eo19⟩ := Kd.R_slice HO311.out; subst eo19) | ((with_reducible refine gate_callee (f := 45) rfl ?_); refine goesL_ (some 13) rfl rfl Try.func45 βPb rfl #[.pointer (some ⟨g305, 0, none⟩), .int .i64 8] rfl zs_ ?_; (with_reducible refine (spec_l01Src_n.calls g305 t301 t312 t313 t314 8 t316 t317 t318 t319 w _ ?side1 ?side2 A4.out).mono ?_); (case side1 => exact βS); (case side2 => exact βka); rintro e w20 ⟨rfl, hi, hb, hk⟩; refine ⟨_, rfl, ?_⟩; replace BK300 := zA_ (KeepBut.blk hk (g' := gb300) (o := .cells #[.slice none 0 0, .slice none 0 0] 26 (0, 0)) (zf2_ NB300_315.out NB300_315.out BK300.out) NB300_305.out (by simp)); replace HO308 := zA_ (Kd.R_mono (Kd.R_keep (IsS101.apart (show IsS101 w _ g305 t301 t312 t313 t314 from by repeat (first | (with_reducible first | exact HI305.out | apply IsS101.alloc | apply IsS101.drewN | apply IsS101.drew | apply IsS101.set_1 | apply IsS101.set_2 | apply IsS101.set_3 | refine IsS101.far ?_ NB305_300.out _ | refine IsS101.far ?_ NB305_315.out _) | exact HI305.out)) (by (with_reducible repeat (first | apply Kd.R_alloc | apply Kd.R_drewN | apply Kd.R_drew)); exact (Kd.R_mono (Kd.R_far (p := ⟨gb315, 1, none⟩) (Kd.R_far (p := ⟨gb315, 0, none⟩) (Kd.R_types HO308.out BK315.out (by decide)) (fun _ hk => hk.2) (.slice Ao15 t306.length co15)) (fun _ hk => hk.2) (.slice Ao19 t309.length co19)) (fun _ h_ => h_.1))) (by decide)) hk (fun _ h => h.2)) (fun _ h => h.1)); replace HO311 := zA_ (Kd.R_mono (Kd.R_keep (IsS101.apart (show IsS101 w _ g305 t301 t312 t313 t314 from by repeat (first | (with_reducible first | exact HI305.out | apply IsS101.alloc | apply IsS101.drewN | apply IsS101.drew | apply IsS101.set_1 | apply IsS101.set_2 | apply IsS101.set_3 | refine IsS101.far ?_ NB305_300.out _ | refine IsS101.far ?_ NB305_315.out _) | exact HI305.out)) (by (with_reducible repeat (first | apply Kd.R_alloc | apply Kd.R_drewN | apply Kd.R_drew)); exact (Kd.R_mono (Kd.R_far (p := ⟨gb315, 1, none⟩) (Kd.R_far (p := ⟨gb315, 0, none⟩) (Kd.R_types HO311.out BK315.out (by decide)) (fun _ hk => hk.2) (.slice Ao15 t306.length co15)) (fun _ hk => hk.2) (.slice Ao19 t309.length co19)) (fun _ h_ => h_.1))) (by decide)) hk (fun _ h => h.2)) (fun _ h => h.1)); replace BK315 := zA_ (KeepBut.blk hk (g' := gb315) (o := .cells #[.slice Ao15 t306.length co15, .slice Ao19 t309.length co19] 26 (0, 0)) (by (with_reducible repeat (first | refine blk_drewN ?_ _ | refine blk_drew ?_ | refine blk_alloc ?_ _)); refine blk_put (cs := #[.slice Ao15 t306.length co15, .slice none 0 0]) ?_ 1 _ (by first | rfl | (simp only [← hji8]; rfl)); (with_reducible repeat (first | refine blk_drewN ?_ _ | refine blk_drew ?_ | refine blk_alloc ?_ _)); refine blk_put (cs := #[.slice none 0 0, .slice none 0 0]) ?_ 0 _ (by first | rfl | (simp only [← hji8]; rfl)); (with_reducible repeat (first | refine blk_drewN ?_ _ | refine blk_drew ?_ | refine blk_alloc ?_ _)); exact BK315.out) NB315_305.out (by simp)); replace HB := zA_ (hb); replace HI305 := zA_ (hi); (try clear hb); (try clear hb2); (try clear hk); (try clear hi)) | ((with_reducible refine gate_callee (f := 46) rfl ?_); refine goesL_ (some 15) rfl rfl Try.func46 βPb rfl #[.pointer (some ⟨g305, 0, none⟩), .int .i64 10] rfl zs_ ?_; (with_reducible refine (spec_l01Src_one.calls g305 t301 t317 t318 t319 10 true t321 t322 t323 w _ ?side1 ?side2 A5.out).mono ?_); (case side1 => exact βS); (case side2 => exact βka); rintro e w21 ⟨rfl, hi, hb, hk⟩; refine ⟨_, rfl, ?_⟩; replace BK300 := zA_ (KeepBut.blk hk (g' := gb300) (o := .cells #[.slice none 0 0, .slice none 0 0] 26 (0, 0)) (zb_ BK300.out) NB300_305.out (by simp)); replace HO308 := zA_ (Kd.R_mono (Kd.R_keep (IsS101.apart (show IsS101 w _ g305 t301 t317 t318 t319 from by repeat (first | (with_reducible first | exact HI305.out | apply IsS101.alloc | apply IsS101.drewN | apply IsS101.drew | apply IsS101.set_1 | apply IsS101.set_2 | apply IsS101.set_3 | refine IsS101.far ?_ NB305_300.out _ | refine IsS101.far ?_ NB305_315.out _) | exact HI305.out)) (zr_ HO308.out) (by decide)) hk (fun _ h => h.2)) (fun _ h => h.1)); replace HO311 := zA_ (Kd.R_mono (Kd.R_keep (IsS101.apart (show IsS101 w _ g305 t301 t317 t318 t319 from by repeat (first | (with_reducible first | exact HI305.out | apply IsS101.alloc | apply IsS101.drewN | apply IsS101.drew | apply IsS101.set_1 | apply IsS101.set_2 | apply IsS101.set_3 | refine IsS101.far ?_ NB305_300.out _ | refine IsS101.far ?_ NB305_315.out _) | exact HI305.out)) (zr_ HO311.out) (by decide)) hk (fun _ h => h.2)) (fun _ h => h.1)); replace BK315 := zA_ (KeepBut.blk hk (g' := gb315) (o := .cells #[.slice Ao15 t306.length co15, .slice Ao19 t309.length co19] 26 (0, 0)) (zb_ BK315.out) NB315_305.out (by simp)); replace HB := zA_ (hb); replace HI305 := zA_ (hi); (try clear hb); (try clear hb2); (try clear hk); (try clear hi)))
       replace HO308 := zA_ (Kd.R_drew HO308.out)
       replace HO311 := zA_ (Kd.R_drew HO311.out)
       replace BK300 := zA_ (blk_drew BK300.out)
       replace BK315 := zA_ (blk_drew BK315.out)
       replace HI305 := zA_ (IsS101.drew HI305.out)
       replace HB := zA_ (below_drew1 HB.out)
       refine start_ (n := 10) (S := fun w' => w'.cell? ⟨gb315, 0, none⟩ = some (.slice Ao15 t306.length co15) ∧ w'.cell? ⟨gb315, 1, none⟩ = some (.slice Ao19 t309.length co19)) (ds := []) (mr_ [0, 10]) βPb rfl rfl ⟨cy_ BK315.out 0, cy_ BK315.out 1⟩ (fun hHeld => ?_); refine with_tabW spec_DrawFlashWrite.tab5 spec_DrawFlashWrite.bits5 (fun HT_ HW_ => ?_)
       generalize w21.drew = w22 at HO308 HO311 BK300 BK315 HI305 HB hHeld ⊢
       refine pure_ (i := 1) (N := some 17) (v := ?_) (a' := ?_) (mr_ [0, 1, 1, 8]) rfl rfl (any_of HT_.out βPb) (fun _ _ _ h => h) (Or.inl ⟨(by rfl), ?_⟩) ?_ ?_
       rotate_left; exact pv_; rotate_left; exact pp_
       refine pure_ (i := 2) (N := some 18) (v := ?_) (a' := ?_) (mr_ [0, 1, 2, 7]) rfl rfl (any_of HT_.out βPb) (fun _ _ _ h => h) (Or.inl ⟨(by rfl), ?_⟩) ?_ ?_
       rotate_left; exact pv_; rotate_left; exact pp_
       refine take_ (i := 0) (N := some 16) (v := ?_) (a' := ?_) (mr_ [3, 7]) rfl rfl (take_ofW HT_.out HW_.out βPb) (fun _ _ _ h => h) (Or.inl ⟨(by rfl), ?_⟩) hHeld ?_ ?_
       rotate_left
       · rintro w' ⟨s0, s1⟩
         go_simp
         with_reducible rfl
       rotate_left
       exact pp_
       refine one_ (i := 3) (N := some 19) (mr_ [4, 6]) rfl rfl (one_of HT_.out βPb) (by decide) (fun K hK => ?_)
       refine goes_ Try.func45 βPb rfl #[.pointer (some ⟨g305, 0, none⟩), .int .i64 2] (by rfl) rfl rfl zs_ ?_
       with_reducible refine (spec_l01Src_n.calls g305 t301 t321 t322 t323 2 t324 t325 t326 t327 w _ ?side1 ?side2 A7.out).mono ?_
       (case side1 => exact βS)
       (case side2 => exact βka)
       rintro e w23 ⟨rfl, hi, hb, hk⟩
       refine ⟨_, rfl, ?_⟩
       replace BK300 := zA_ (KeepBut.blk hk (g' := gb300) (o := .cells #[.slice none 0 0, .slice none 0 0] 26 (0, 0)) (zb_ BK300.out) NB300_305.out (by simp))
       replace HO308 := zA_ (Kd.R_mono (Kd.R_keep (IsS101.apart (show IsS101 w _ g305 t301 t321 t322 t323 from by repeat (first | (with_reducible first | exact HI305.out | apply IsS101.alloc | apply IsS101.drewN | apply IsS101.drew | apply IsS101.set_1 | apply IsS101.set_2 | apply IsS101.set_3 | refine IsS101.far ?_ NB305_300.out _ | refine IsS101.far ?_ NB305_315.out _) | exact HI305.out)) (zr_ HO308.out) (by decide)) hk (fun _ h => h.2)) (fun _ h => h.1))
       replace HO311 := zA_ (Kd.R_mono (Kd.R_keep (IsS101.apart (show IsS101 w _ g305 t301 t321 t322 t323 from by repeat (first | (with_reducible first | exact HI305.out | apply IsS101.alloc | apply IsS101.drewN | apply IsS101.drew | apply IsS101.set_1 | apply IsS101.set_2 | apply IsS101.set_3 | refine IsS101.far ?_ NB305_300.out _ | refine IsS101.far ?_ NB305_315.out _) | exact HI305.out)) (zr_ HO311.out) (by decide)) hk (fun _ h => h.2)) (fun _ h => h.1))
       replace BK315 := zA_ (KeepBut.blk hk (g' := gb315) (o := .cells #[.slice Ao15 t306.length co15, .slice Ao19 t309.length co19] 26 (0, 0)) (zb_ BK315.out) NB315_305.out (by simp))
       replace HB := zA_ (hb)
       replace HI305 := zA_ (hi)
       (try clear hb)
       (try clear hb2)
       (try clear hk)
       (try clear hi)
       refine hK.out _ _ ⟨cy_ BK315.out 0, cy_ BK315.out 1⟩ (fun hHeld => ?_)
       clear hK K
       refine norm_ (a' := ?_) ?_ ?_
       rotate_left
       · show Act.put _ (some 19) _ = _
         simp only [Act.put, List.setIfInBounds_toArray, List.set_cons_zero, List.set_cons_succ, i64_w, i32_w]
         rfl
       refine pure_ (i := 4) (N := some 20) (v := ?_) (a' := ?_) (mr_ [5, 5]) rfl rfl (any_of HT_.out βPb) (fun _ _ _ h => h) (Or.inl ⟨(by rfl), ?_⟩) ?_ ?_
       rotate_left; exact pv_; rotate_left; exact pp_
       refine join_ (σ := Value) 1 (mr_ [9, 1]) (fun s_ => [(21, s_), (22, .string (strOfNums y328)), (3, .int .i64 t316)]) (fun s_ w' => (w'.cell? ⟨gb315, 0, none⟩ = some (.slice Ao15 t306.length co15) ∧ w'.cell? ⟨gb315, 1, none⟩ = some (.slice Ao19 t309.length co19)) ∧ (Kd.R Kd.string 9 w' w.heap.size (fun _ => True) (.slice Ao15 t306.length co15) t306) ∧ (Kd.R k83 83 w' w.heap.size (fun _ => True) (.slice Ao19 t309.length co19) t309) ∧ (Kd.R (Kd.int .u8) 5 w' w.heap.size (fun _ => True) s_ y328) ∧ (w'.heap[gb300]? = some (.cells #[.slice Ao15 t306.length co15, .slice Ao19 t309.length co19] 26 (0, 0))) ∧ (w'.heap[gb315]? = some (.cells #[.slice Ao15 t306.length co15, .slice Ao19 t309.length co19] 26 (0, 0))) ∧ (IsS101 w w' g305 t301 t325 t326 t327) ∧ (Below w.heap.size w w')) ?_ ?_
       rotate_left
       · intro hCont
         refine two_ (i := 5) (j := 7) (Ni := some 21) (Nj := none) (mr_ [6, 4]) (mr_ [5, 2, 1, 2]) rfl rfl rfl rfl (two_of HT_.out βPb) (by decide) (by decide) (fun K hK => ?_) (fun K hK => ?_)
         · skip
           refine Kd.R_make_step (Kd.int .u8) _ 5 (by rfl) (N := 21) rfl 22 _ _ rfl ji8 rfl rfl Try.underlying22 (.int .u8 0) 1 info5 rfl (by decide) (by omega) 0 (ok := fun _ => True) (okp := fun _ => True) rfl (fun _ hk => hk) trivial (of_decide_eq_true βKb) (Nat.le_trans (Nat.mul_le_mul_right _ (of_decide_eq_true βKb : ji8.toNat ≤ 281474976710656)) (by omega)) (Below.refl _ _) (Nat.le_refl _) ?_
           intro v329 w24 ho25 hb hg_ hnew_
           clear hg_ hnew_
           (first | rw [← Ny328.out] at ho25 | (simp only [Int.reduceToNat] at ho25; rw [← Ny328.out] at ho25))
           replace HO308 := zR_ HO308.out hb
           replace HO311 := zR_ HO311.out hb
           have HO330 := zA_ (Kd.R_lower ho25 (below_size βka))
           replace BK300 := zB_ BK300.out hb
           replace BK315 := zB_ BK315.out hb
           replace HB := zA_ (below_step βka hb)
           replace HI305 := zA_ (IsS101.below βS hb)
           clear hb ho25
           refine hK.out _ _ ⟨cy_ BK315.out 0, cy_ BK315.out 1⟩ (fun hHeld => ?_)
           clear hK K
           refine norm_ (a' := ?_) ?_ ?_
           rotate_left
           · show Act.put _ (some 21) _ = _
             simp only [Act.put, List.setIfInBounds_toArray, List.set_cons_zero, List.set_cons_succ, i64_w, i32_w]
             rfl
           refine two_ (i := 6) (j := 7) (Ni := some 22) (Nj := none) (mr_ [7, 3]) (mr_ [6, 1, 1, 2]) rfl rfl rfl rfl (two_of HT_.out βPb) (by decide) (by decide) (fun K hK => ?_) (fun K hK => ?_)
           · skip
             have hcv26 := own_string (P := Try.prog) Try.underlying22 Try.underlying5 Try.underlying9 (Kd.own_of_R HO330.out)
             refine value_ (w1 := ?_) (v := ?_) (by rfl) rfl ?_ ?_
             rotate_left 2
             · go_simp
               constructor
               · rfl
               · rfl
             clear hcv26
             refine hK.out _ _ ⟨cy_ BK315.out 0, cy_ BK315.out 1⟩ (fun hHeld => ?_)
             clear hK K
             refine norm_ (a' := ?_) ?_ ?_
             rotate_left
             · show Act.put _ (some 22) _ = _
               simp only [Act.put, List.setIfInBounds_toArray, List.set_cons_zero, List.set_cons_succ, i64_w, i32_w]
               rfl
             refine one_ (i := 7) (N := none) (mr_ [8, 2]) rfl rfl (one_of HT_.out βPb) (by decide) (fun K hK => ?_)
             have hs27 := cz_ BK300.out 0 (.slice none 0 0) rfl
             have hfs27 := blk_frozen BK300.out 0
             have hns27_1 := NB315_300.out
             have hms27_1 := NB300_315.out
             have hs28 := cz_ BK300.out 1 (.slice none 0 0) rfl
             have hfs28 := blk_frozen BK300.out 1
             have hns28_1 := NB315_300.out
             have hms28_1 := NB300_315.out
             refine skip_ (w1 := ?_) (by rfl) rfl ?_ ?_
             rotate_left
             · go_simp
               rfl
             refine hK.out _ _ ⟨((cell_far (p := ⟨gb300, _, none⟩) NB315_300.out _).trans (((cell_far (p := ⟨gb300, _, none⟩) NB315_300.out _).trans (hHeld.1)))), ((cell_far (p := ⟨gb300, _, none⟩) NB315_300.out _).trans (((cell_far (p := ⟨gb300, _, none⟩) NB315_300.out _).trans (hHeld.2))))⟩ (fun hHeld => ?_)
             clear hK K
             refine pure_ (i := 8) (N := some 3) (v := ?_) (a' := ?_) (mr_ [9, 1]) rfl rfl (any_of HT_.out βPb) (fun _ _ _ h => h) (Or.inl ⟨(by rfl), ?_⟩) ?_ ?_
             rotate_left; exact pv_; rotate_left; exact pp_
             exact norm_ βEb (hCont (v329) _ ⟨hHeld, βt, βu, βv, βc, (zf2_ NB315_300.out NB315_300.out BK315.out), βS, βka⟩)
           · skip
             have hs26 := cz_ BK300.out 0 (.slice none 0 0) rfl
             have hfs26 := blk_frozen BK300.out 0
             have hns26_1 := NB315_300.out
             have hms26_1 := NB300_315.out
             have hs27 := cz_ BK300.out 1 (.slice none 0 0) rfl
             have hfs27 := blk_frozen BK300.out 1
             have hns27_1 := NB315_300.out
             have hms27_1 := NB300_315.out
             refine skip_ (w1 := ?_) (by rfl) rfl ?_ ?_
             rotate_left
             · go_simp
               rfl
             refine hK.out _ _ ⟨((cell_far (p := ⟨gb300, _, none⟩) NB315_300.out _).trans (((cell_far (p := ⟨gb300, _, none⟩) NB315_300.out _).trans (hHeld.1)))), ((cell_far (p := ⟨gb300, _, none⟩) NB315_300.out _).trans (((cell_far (p := ⟨gb300, _, none⟩) NB315_300.out _).trans (hHeld.2))))⟩ (fun hHeld => ?_)
             clear hK K
             refine pure_ (i := 8) (N := some 3) (v := ?_) (a' := ?_) (mr_ [6, 1, 2, 1]) rfl rfl (any_of HT_.out βPb) (fun _ _ _ h => h) (Or.inl ⟨(by rfl), ?_⟩) ?_ ?_
             rotate_left; exact pv_; rotate_left; exact pp_
             refine one_ (i := 6) (N := some 22) (mr_ [9, 1]) rfl rfl (one_of HT_.out βPb) (by decide) (fun K hK => ?_)
             have hcv28 := own_string (P := Try.prog) Try.underlying22 Try.underlying5 Try.underlying9 (Kd.own_of_R (Kd.R_mono (Kd.R_far (p := ⟨gb300, 1, none⟩) (Kd.R_far (p := ⟨gb300, 0, none⟩) (Kd.R_types HO330.out BK300.out (by decide)) (fun _ hk => hk.2) (.slice Ao15 t306.length co15)) (fun _ hk => hk.2) (.slice Ao19 t309.length co19)) (fun _ _ => trivial)))
             refine value_ (w1 := ?_) (v := ?_) (by rfl) rfl ?_ ?_
             rotate_left 2
             · go_simp
               constructor
               · rfl
               · rfl
             clear hcv28
             refine hK.out _ _ ⟨hHeld.1, hHeld.2⟩ (fun hHeld => ?_)
             clear hK K
             refine norm_ (a' := ?_) ?_ ?_
             rotate_left
             · show Act.put _ (some 22) _ = _
               simp only [Act.put, List.setIfInBounds_toArray, List.set_cons_zero, List.set_cons_succ, i64_w, i32_w]
               rfl
             exact norm_ βEb (hCont (v329) _ ⟨hHeld, βt, βu, βv, βc, (zf2_ NB315_300.out NB315_300.out BK315.out), βS, βka⟩)
         · skip
           have hs24 := cz_ BK300.out 0 (.slice none 0 0) rfl
           have hfs24 := blk_frozen BK300.out 0
           have hns24_1 := NB315_300.out
           have hms24_1 := NB300_315.out
           have hs25 := cz_ BK300.out 1 (.slice none 0 0) rfl
           have hfs25 := blk_frozen BK300.out 1
           have hns25_1 := NB315_300.out
           have hms25_1 := NB300_315.out
           refine skip_ (w1 := ?_) (by rfl) rfl ?_ ?_
           rotate_left
           · go_simp
             rfl
           refine hK.out _ _ ⟨((cell_far (p := ⟨gb300, _, none⟩) NB315_300.out _).trans (((cell_far (p := ⟨gb300, _, none⟩) NB315_300.out _).trans (hHeld.1)))), ((cell_far (p := ⟨gb300, _, none⟩) NB315_300.out _).trans (((cell_far (p := ⟨gb300, _, none⟩) NB315_300.out _).trans (hHeld.2))))⟩ (fun hHeld => ?_)
           clear hK K
           refine pure_ (i := 8) (N := some 3) (v := ?_) (a' := ?_) (mr_ [5, 2, 2, 1]) rfl rfl (any_of HT_.out βPb) (fun _ _ _ h => h) (Or.inl ⟨(by rfl), ?_⟩) ?_ ?_
           rotate_left; exact pv_; rotate_left; exact pp_
           refine one_ (i := 5) (N := some 21) (mr_ [6, 1, 2, 1]) rfl rfl (one_of HT_.out βPb) (by decide) (fun K hK => ?_)
           refine Kd.R_make_step (Kd.int .u8) _ 5 (by rfl) (N := 21) rfl 22 _ _ rfl ji8 rfl rfl Try.underlying22 (.int .u8 0) 1 info5 rfl (by decide) (by omega) 0 (ok := fun _ => True) (okp := fun _ => True) rfl (fun _ hk => hk) trivial (of_decide_eq_true βKb) (Nat.le_trans (Nat.mul_le_mul_right _ (of_decide_eq_true βKb : ji8.toNat ≤ 281474976710656)) (by omega)) (Below.refl _ _) (Nat.le_refl _) ?_
           intro v329 w26 ho27 hb hg_ hnew_
           clear hg_ hnew_
           (first | rw [← Ny328.out] at ho27 | (simp only [Int.reduceToNat] at ho27; rw [← Ny328.out] at ho27))
           replace HO308 := zA_ (Kd.R_below (by (with_reducible repeat (first | apply Kd.R_alloc | apply Kd.R_drewN | apply Kd.R_drew)); exact (Kd.R_mono (Kd.R_far (p := ⟨gb300, 1, none⟩) (Kd.R_far (p := ⟨gb300, 0, none⟩) (Kd.R_types HO308.out BK300.out (by decide)) (fun _ hk => hk.2) (.slice Ao15 t306.length co15)) (fun _ hk => hk.2) (.slice Ao19 t309.length co19)) (fun _ h_ => h_.1))) hb)
           replace HO311 := zA_ (Kd.R_below (by (with_reducible repeat (first | apply Kd.R_alloc | apply Kd.R_drewN | apply Kd.R_drew)); exact (Kd.R_mono (Kd.R_far (p := ⟨gb300, 1, none⟩) (Kd.R_far (p := ⟨gb300, 0, none⟩) (Kd.R_types HO311.out BK300.out (by decide)) (fun _ hk => hk.2) (.slice Ao15 t306.length co15)) (fun _ hk => hk.2) (.slice Ao19 t309.length co19)) (fun _ h_ => h_.1))) hb)
           have HO330 := zA_ (Kd.R_lower ho27 (below_size βka))
           replace BK300 := zA_ (blk_below (g := gb300) (o := .cells #[.slice Ao15 t306.length co15, .slice Ao19 t309.length co19] 26 (0, 0)) βc hb)
           replace BK315 := zB2_ NB315_300.out NB315_300.out BK315.out hb
           replace HB := zA_ (below_step βka hb)
           replace HI305 := zA_ (IsS101.below (show IsS101 w ((w23.setCell ⟨gb300, 0, none⟩ (.slice Ao15 t306.length co15)).setCell ⟨gb300, 1, none⟩ (.slice Ao19 t309.length co19)) g305 t301 t325 t326 t327 from by repeat (first | (with_reducible first | exact HI305.out | apply IsS101.alloc | apply IsS101.drewN | apply IsS101.drew | apply IsS101.set_1 | apply IsS101.set_2 | apply IsS101.set_3 | refine IsS101.far ?_ NB305_300.out _ | refine IsS101.far ?_ NB305_315.out _) | exact HI305.out)) hb)
           clear hb ho27
           refine hK.out _ _ ⟨cy_ BK315.out 0, cy_ BK315.out 1⟩ (fun hHeld => ?_)
           clear hK K
           refine norm_ (a' := ?_) ?_ ?_
           rotate_left
           · show Act.put _ (some 21) _ = _
             simp only [Act.put, List.setIfInBounds_toArray, List.set_cons_zero, List.set_cons_succ, i64_w, i32_w]
             rfl
           refine one_ (i := 6) (N := some 22) (mr_ [9, 1]) rfl rfl (one_of HT_.out βPb) (by decide) (fun K hK => ?_)
           have hcv28 := own_string (P := Try.prog) Try.underlying22 Try.underlying5 Try.underlying9 (Kd.own_of_R HO330.out)
           refine value_ (w1 := ?_) (v := ?_) (by rfl) rfl ?_ ?_
           rotate_left 2
           · go_simp
             constructor
             · rfl
             · rfl
           clear hcv28
           refine hK.out _ _ ⟨cy_ BK315.out 0, cy_ BK315.out 1⟩ (fun hHeld => ?_)
           clear hK K
           refine norm_ (a' := ?_) ?_ ?_
           rotate_left
           · show Act.put _ (some 22) _ = _
             simp only [Act.put, List.setIfInBounds_toArray, List.set_cons_zero, List.set_cons_succ, i64_w, i32_w]
             rfl
           exact norm_ βEb (hCont (v329) _ ⟨hHeld, (zr_ HO308.out), (zr_ HO311.out), (zr_ HO330.out), (zb_ BK300.out), (zb_ BK315.out), βS, βka⟩)
       rintro v329 w29 ⟨hS_, h0_, h1_, h2_, h3_, h4_, h5_, h6_⟩
       replace HO308 : Aside0 (Kd.R Kd.string 9 w29 w.heap.size (fun _ => True) (.slice Ao15 t306.length co15) t306) := ⟨h0_⟩
       replace HO311 : Aside0 (Kd.R k83 83 w29 w.heap.size (fun _ => True) (.slice Ao19 t309.length co19) t309) := ⟨h1_⟩
       have HO330 : Aside0 (Kd.R (Kd.int .u8) 5 w29 w.heap.size (fun _ => True) v329 y328) := ⟨h2_⟩
       replace BK300 : Aside0 (w29.heap[gb300]? = some (.cells #[.slice Ao15 t306.length co15, .slice Ao19 t309.length co19] 26 (0, 0))) := ⟨h3_⟩
       replace BK315 : Aside0 (w29.heap[gb315]? = some (.cells #[.slice Ao15 t306.length co15, .slice Ao19 t309.length co19] 26 (0, 0))) := ⟨h4_⟩
       replace HI305 : Aside0 (IsS101 w w29 g305 t301 t325 t326 t327) := ⟨h5_⟩
       replace HB : Aside0 (Below w.heap.size w w29) := ⟨h6_⟩
       clear h0_ h1_ h2_ h3_ h4_ h5_ h6_
       have hHeld : w29.cell? ⟨gb315, 0, none⟩ = some (.slice Ao15 t306.length co15) ∧ w29.cell? ⟨gb315, 1, none⟩ = some (.slice Ao19 t309.length co19) := hS_
       refine norm_ (a' := ?_) ?_ ?_
       rotate_left
       · simp only [putAll, Act.put, List.setIfInBounds_toArray, List.set_cons_zero, List.set_cons_succ]
         rfl
       refine pure_ (i := 9) (N := some 4) (v := ?_) (a' := ?_) (mr_ [10]) rfl rfl (any_of HT_.out βPb) (fun _ _ _ h => h) (Or.inl ⟨(by rfl), ?_⟩) ?_ ?_
       rotate_left; exact pv_; rotate_left; exact pp_
       refine done_ (done_of HT_.out βPb) ?_
       try go_wp2
       refine bodyPost_ret (results_ctt rfl _ _ gb300 26 #[.slice Ao15 t306.length co15, .slice Ao19 t309.length co19] (0, 0) _ rfl (zb_ BK300.out) Try.underlying26 rfl βPb) rfl ?_
       exact ⟨_, _, (by first | rfl | (simp [errW_none, errW_some] <;> rfl) | (simp only [← hji8]; first | rfl | (simp [errW_none, errW_some] <;> rfl)) | (simp [*, errW_none, errW_some] <;> rfl)), (by (with_reducible repeat (first | apply Kd.R_alloc | apply Kd.R_drewN | apply Kd.R_drew)); exact HO308.out), (by (with_reducible repeat (first | apply Kd.R_alloc | apply Kd.R_drewN | apply Kd.R_drew)); exact HO311.out), βka⟩
     · rw [if_neg c10] at H
       exact absurd H (by simp)
   · rw [if_neg c9] at H
     exact absurd H (by simp)
 · replace c6 := Bool.eq_false_iff.mpr c6
   subst c6
   have H1 : ((spec_l01Src_n.f t301 t321 t322 t323 5).bind fun bt331 => ((spec_l01Src_bytes.f k t301 bt331.2.1 bt331.2.2.1 bt331.2.2.2 bt331.1).bind fun bt335 => (some (t306, t309, t316, bt335.1)))) = some (r1, r2, r3, r4) := by rw [if_neg (show ¬ (false = true) by decide)] at H; exact H
   clear H
   have H := H1
   clear H1
   replace H := Option.bind_eq_some_iff.mp H
   obtain ⟨⟨t331, t332, t333, t334⟩, A300, H⟩ := H
   (try dsimp -simprocs only at H)
   have A30 := zA_ A300
   clear A300
   replace H := Option.bind_eq_some_iff.mp H
   obtain ⟨⟨t335, t336, t337, t338⟩, A310, H⟩ := H
   (try dsimp -simprocs only at H)
   have A31 := zA_ A310
   clear A310
   simp only [Option.some.injEq, Prod.mk.injEq] at H
   obtain ⟨rfl, rfl, rfl, rfl⟩ := H
   go_enter Try.func5, Try.ntmps5
   try go_wp2_with (first | ((with_reducible refine gate_dst (N := 2) rfl ?_); refine box_event ?hg (N := 2) ?hd (cs := #[.slice none 0 0, .slice none 0 0]) (t := 26) ?hr ?_; (case hd => exact (by rfl)); (case hg => exact (by rfl)); (case hr => exact βMb); intro gb300 hg w32 hbox hb; have BK300 := zA_ (hbox); have GW300 := zA_ ((by rw [hg]; exact (below_size (zh_ HB.out)) : w.heap.size ≤ gb300)); have GE300 := zA_ ((by rw [hg]; exact (below_size (zh_ HB.out)) : w.heap.size ≤ gb300)); replace HB := zA_ (below_step (zh_ HB.out) hb); clear hb hbox hg) | ((with_reducible refine gate_callee (f := 43) rfl ?_); refine goesL_ (some 9) rfl rfl Try.func43 βPb rfl #[.slice A0 l0.length c0] rfl zs_ ?_; (with_reducible refine (spec_l01Source.calls k _ _ l0 t301 t302 t303 t304 w _ ?side1 ?side2 ?side3 A2.out).mono ?_); (case side1 => exact βtb); (case side2 => exact HR0.out); (case side3 => exact HC0.out); rintro e w33 ⟨g305, rfl, hi, hb, hb2⟩; refine ⟨_, rfl, ?_⟩; replace HB := zA_ (hb); have HI305 := zA_ (hi); have NB305_300 := zA_ (IsS101.ne_blk hi (blk_below (g := gb300) (o := .cells #[.slice none 0 0, .slice none 0 0] 26 (0, 0)) (zb_ BK300.out) hb2) (by decide)); have NB300_305 := zA_ (Ne.symm (IsS101.ne_blk hi (blk_below (g := gb300) (o := .cells #[.slice none 0 0, .slice none 0 0] 26 (0, 0)) (zb_ BK300.out) hb2) (by decide))); replace BK300 := zA_ (blk_below (g := gb300) (o := .cells #[.slice none 0 0, .slice none 0 0] 26 (0, 0)) (zb_ BK300.out) hb2); (try clear hb); (try clear hb2); (try clear hk); (try clear hi)) | ((with_reducible refine gate_callee (f := 44) rfl ?_); refine goesL_ (some 11) rfl rfl Try.func44 βPb rfl #[.pointer (some ⟨g305, 0, none⟩)] rfl zs_ ?_; (with_reducible refine (spec_l01Src_l03Flash.calls k g305 t301 t302 t303 t304 t306 t309 t312 t313 t314 w _ ?side1 ?side2 A3.out).mono ?_); (case side1 => exact βna); (case side2 => exact βJa); rintro e w34 ⟨v307, v310, rfl, ho0, ho1, hi, hb, hk⟩; refine ⟨_, rfl, ?_⟩; replace BK300 := zA_ (KeepBut.blk hk (g' := gb300) (o := .cells #[.slice none 0 0, .slice none 0 0] 26 (0, 0)) (zb_ BK300.out) NB300_305.out (by simp)); have HO308 := zA_ (Kd.R_lower ho0 (below_size βJa)); have HO311 := zA_ (Kd.R_lower ho1 (below_size βJa)); replace HB := zA_ (hb); replace HI305 := zA_ (hi); (try clear hb); (try clear hb2); (try clear hk); (try clear hi); (try clear ho0); (try clear ho1)) | ((with_reducible refine gate_dst (N := 6) rfl ?_); refine box_event ?hg (N := 6) ?hd (cs := #[.slice none 0 0, .slice none 0 0]) (t := 26) ?hr ?_; (case hd => exact (by rfl)); (case hg => exact (by rfl)); (case hr => exact βMb); intro gb315 hg w35 hbox hb; replace HO308 := zR_ HO308.out hb; replace HO311 := zR_ HO311.out hb; have BK315 := zA_ (hbox); have GW315 := zA_ ((by rw [hg]; exact (below_size βJa) : w.heap.size ≤ gb315)); have GE315 := zA_ ((by rw [hg]; exact (below_size βJa) : w.heap.size ≤ gb315)); replace HB := zA_ (below_step βJa hb); have NB300_315 := zA_ ((by rw [hg]; exact Nat.ne_of_lt (blk_lt (g := gb300) (o := .cells #[.slice none 0 0, .slice none 0 0] 26 (0, 0)) (zb_ BK300.out)) : gb300 ≠ gb315)); have NB315_300 := zA_ ((by rw [hg]; exact Nat.ne_of_gt (blk_lt (g := gb300) (o := .cells #[.slice none 0 0, .slice none 0 0] 26 (0, 0)) (zb_ BK300.out)) : gb315 ≠ gb300)); replace BK300 := zB_ BK300.out hb; have NB305_315 := zA_ ((by rw [hg]; exact Nat.ne_of_lt (IsS101.lt (show IsS101 w _ g305 t301 t312 t313 t314 from by repeat (first | (with_reducible first | exact HI305.out | apply IsS101.alloc | apply IsS101.drewN | apply IsS101.drew | apply IsS101.set_1 | apply IsS101.set_2 | apply IsS101.set_3 | refine IsS101.far ?_ NB305_300.out _) | exact HI305.out))) : g305 ≠ gb315)); have NB315_305 := zA_ ((by rw [hg]; exact Nat.ne_of_gt (IsS101.lt (show IsS101 w _ g305 t301 t312 t313 t314 from by repeat (first | (with_reducible first | exact HI305.out | apply IsS101.alloc | apply IsS101.drewN | apply IsS101.drew | apply IsS101.set_1 | apply IsS101.set_2 | apply IsS101.set_3 | refine IsS101.far ?_ NB305_300.out _) | exact HI305.out))) : gb315 ≠ g305)); replace HI305 := zA_ (IsS101.below βna hb); clear hb hbox hg; obtain ⟨Ao36, co36, eo36⟩ := Kd.R_slice HO308.out; subst eo36; have hnb37 := NB315_300.out; have hnc37 := NB300_315.out; have hnb38 := NB315_305.out; have hnc38 := NB305_315.out; have hcz39_0 := cz_ BK315.out 0 (.slice none 0 0) rfl; have hcz39_1 := cz_ BK315.out 1 (.slice none 0 0) rfl; have hfz39_0 := blk_frozen BK315.out 0; have hfz39_1 := blk_frozen BK315.out 1; obtain ⟨Ao40, co40, eo40⟩ := Kd.R_slice HO311.out; subst eo40) | ((with_reducible refine gate_callee (f := 45) rfl ?_); refine goesL_ (some 13) rfl rfl Try.func45 βPb rfl #[.pointer (some ⟨g305, 0, none⟩), .int .i64 8] rfl zs_ ?_; (with_reducible refine (spec_l01Src_n.calls g305 t301 t312 t313 t314 8 t316 t317 t318 t319 w _ ?side1 ?side2 A4.out).mono ?_); (case side1 => exact βS); (case side2 => exact βka); rintro e w41 ⟨rfl, hi, hb, hk⟩; refine ⟨_, rfl, ?_⟩; replace BK300 := zA_ (KeepBut.blk hk (g' := gb300) (o := .cells #[.slice none 0 0, .slice none 0 0] 26 (0, 0)) (zf2_ NB300_315.out NB300_315.out BK300.out) NB300_305.out (by simp)); replace HO308 := zA_ (Kd.R_mono (Kd.R_keep (IsS101.apart (show IsS101 w _ g305 t301 t312 t313 t314 from by repeat (first | (with_reducible first | exact HI305.out | apply IsS101.alloc | apply IsS101.drewN | apply IsS101.drew | apply IsS101.set_1 | apply IsS101.set_2 | apply IsS101.set_3 | refine IsS101.far ?_ NB305_300.out _ | refine IsS101.far ?_ NB305_315.out _) | exact HI305.out)) (by (with_reducible repeat (first | apply Kd.R_alloc | apply Kd.R_drewN | apply Kd.R_drew)); exact (Kd.R_mono (Kd.R_far (p := ⟨gb315, 1, none⟩) (Kd.R_far (p := ⟨gb315, 0, none⟩) (Kd.R_types HO308.out BK315.out (by decide)) (fun _ hk => hk.2) (.slice Ao36 t306.length co36)) (fun _ hk => hk.2) (.slice Ao40 t309.length co40)) (fun _ h_ => h_.1))) (by decide)) hk (fun _ h => h.2)) (fun _ h => h.1)); replace HO311 := zA_ (Kd.R_mono (Kd.R_keep (IsS101.apart (show IsS101 w _ g305 t301 t312 t313 t314 from by repeat (first | (with_reducible first | exact HI305.out | apply IsS101.alloc | apply IsS101.drewN | apply IsS101.drew | apply IsS101.set_1 | apply IsS101.set_2 | apply IsS101.set_3 | refine IsS101.far ?_ NB305_300.out _ | refine IsS101.far ?_ NB305_315.out _) | exact HI305.out)) (by (with_reducible repeat (first | apply Kd.R_alloc | apply Kd.R_drewN | apply Kd.R_drew)); exact (Kd.R_mono (Kd.R_far (p := ⟨gb315, 1, none⟩) (Kd.R_far (p := ⟨gb315, 0, none⟩) (Kd.R_types HO311.out BK315.out (by decide)) (fun _ hk => hk.2) (.slice Ao36 t306.length co36)) (fun _ hk => hk.2) (.slice Ao40 t309.length co40)) (fun _ h_ => h_.1))) (by decide)) hk (fun _ h => h.2)) (fun _ h => h.1)); replace BK315 := zA_ (KeepBut.blk hk (g' := gb315) (o := .cells #[.slice Ao36 t306.length co36, .slice Ao40 t309.length co40] 26 (0, 0)) (by (with_reducible repeat (first | refine blk_drewN ?_ _ | refine blk_drew ?_ | refine blk_alloc ?_ _)); refine blk_put (cs := #[.slice Ao36 t306.length co36, .slice none 0 0]) ?_ 1 _ rfl; (with_reducible repeat (first | refine blk_drewN ?_ _ | refine blk_drew ?_ | refine blk_alloc ?_ _)); refine blk_put (cs := #[.slice none 0 0, .slice none 0 0]) ?_ 0 _ rfl; (with_reducible repeat (first | refine blk_drewN ?_ _ | refine blk_drew ?_ | refine blk_alloc ?_ _)); exact BK315.out) NB315_305.out (by simp)); replace HB := zA_ (hb); replace HI305 := zA_ (hi); (try clear hb); (try clear hb2); (try clear hk); (try clear hi)) | ((with_reducible refine gate_callee (f := 46) rfl ?_); refine goesL_ (some 15) rfl rfl Try.func46 βPb rfl #[.pointer (some ⟨g305, 0, none⟩), .int .i64 10] rfl zs_ ?_; (with_reducible refine (spec_l01Src_one.calls g305 t301 t317 t318 t319 10 false t321 t322 t323 w _ ?side1 ?side2 A5.out).mono ?_); (case side1 => exact βS); (case side2 => exact βka); rintro e w42 ⟨rfl, hi, hb, hk⟩; refine ⟨_, rfl, ?_⟩; replace BK300 := zA_ (KeepBut.blk hk (g' := gb300) (o := .cells #[.slice none 0 0, .slice none 0 0] 26 (0, 0)) (zb_ BK300.out) NB300_305.out (by simp)); replace HO308 := zA_ (Kd.R_mono (Kd.R_keep (IsS101.apart (show IsS101 w _ g305 t301 t317 t318 t319 from by repeat (first | (with_reducible first | exact HI305.out | apply IsS101.alloc | apply IsS101.drewN | apply IsS101.drew | apply IsS101.set_1 | apply IsS101.set_2 | apply IsS101.set_3 | refine IsS101.far ?_ NB305_300.out _ | refine IsS101.far ?_ NB305_315.out _) | exact HI305.out)) (zr_ HO308.out) (by decide)) hk (fun _ h => h.2)) (fun _ h => h.1)); replace HO311 := zA_ (Kd.R_mono (Kd.R_keep (IsS101.apart (show IsS101 w _ g305 t301 t317 t318 t319 from by repeat (first | (with_reducible first | exact HI305.out | apply IsS101.alloc | apply IsS101.drewN | apply IsS101.drew | apply IsS101.set_1 | apply IsS101.set_2 | apply IsS101.set_3 | refine IsS101.far ?_ NB305_300.out _ | refine IsS101.far ?_ NB305_315.out _) | exact HI305.out)) (zr_ HO311.out) (by decide)) hk (fun _ h => h.2)) (fun _ h => h.1)); replace BK315 := zA_ (KeepBut.blk hk (g' := gb315) (o := .cells #[.slice Ao36 t306.length co36, .slice Ao40 t309.length co40] 26 (0, 0)) (zb_ BK315.out) NB315_305.out (by simp)); replace HB := zA_ (hb); replace HI305 := zA_ (hi); (try clear hb); (try clear hb2); (try clear hk); (try clear hi)))
   replace HO308 := zA_ (Kd.R_drew HO308.out)
   replace HO311 := zA_ (Kd.R_drew HO311.out)
   replace BK300 := zA_ (blk_drew BK300.out)
   replace BK315 := zA_ (blk_drew BK315.out)
   replace HI305 := zA_ (IsS101.drew HI305.out)
   replace HB := zA_ (below_drew1 HB.out)
   refine start_ (n := 9) (S := fun w' => w'.cell? ⟨gb315, 0, none⟩ = some (.slice Ao36 t306.length co36) ∧ w'.cell? ⟨gb315, 1, none⟩ = some (.slice Ao40 t309.length co40)) (ds := []) (mr_ [0, 9]) βPb rfl rfl ⟨cy_ BK315.out 0, cy_ BK315.out 1⟩ (fun hHeld => ?_); refine with_tabW spec_DrawFlashWrite.tab6 spec_DrawFlashWrite.bits6 (fun HT_ HW_ => ?_)
   generalize w42.drew = w43 at HO308 HO311 BK300 BK315 HI305 HB hHeld ⊢
   refine pure_ (i := 1) (N := some 24) (v := ?_) (a' := ?_) (mr_ [0, 1, 1, 7]) rfl rfl (any_of HT_.out βPb) (fun _ _ _ h => h) (Or.inl ⟨(by rfl), ?_⟩) ?_ ?_
   rotate_left; exact pv_; rotate_left; exact pp_
   refine pure_ (i := 2) (N := some 25) (v := ?_) (a' := ?_) (mr_ [0, 1, 2, 6]) rfl rfl (any_of HT_.out βPb) (fun _ _ _ h => h) (Or.inl ⟨(by rfl), ?_⟩) ?_ ?_
   rotate_left; exact pv_; rotate_left; exact pp_
   refine pure_ (i := 3) (N := some 26) (v := ?_) (a' := ?_) (mr_ [0, 1, 3, 5]) rfl rfl (any_of HT_.out βPb) (fun _ _ _ h => h) (Or.inl ⟨(by rfl), ?_⟩) ?_ ?_
   rotate_left; exact pv_; rotate_left; exact pp_
   refine take_ (i := 0) (N := some 23) (v := ?_) (a' := ?_) (mr_ [4, 5]) rfl rfl (take_ofW HT_.out HW_.out βPb) (fun _ _ _ h => h) (Or.inl ⟨(by rfl), ?_⟩) hHeld ?_ ?_
   rotate_left
   · rintro w' ⟨s0, s1⟩
     go_simp
     with_reducible rfl
   rotate_left
   exact pp_
   refine one_ (i := 4) (N := some 27) (mr_ [5, 4]) rfl rfl (one_of HT_.out βPb) (by decide) (fun K hK => ?_)
   refine goes_ Try.func45 βPb rfl #[.pointer (some ⟨g305, 0, none⟩), .int .i64 5] (by rfl) rfl rfl zs_ ?_
   with_reducible refine (spec_l01Src_n.calls g305 t301 t321 t322 t323 5 t331 t332 t333 t334 w _ ?side1 ?side2 A30.out).mono ?_
   (case side1 => exact βS)
   (case side2 => exact βka)
   rintro e w44 ⟨rfl, hi, hb, hk⟩
   refine ⟨_, rfl, ?_⟩
   replace BK300 := zA_ (KeepBut.blk hk (g' := gb300) (o := .cells #[.slice none 0 0, .slice none 0 0] 26 (0, 0)) (zb_ BK300.out) NB300_305.out (by simp))
   replace HO308 := zA_ (Kd.R_mono (Kd.R_keep (IsS101.apart (show IsS101 w _ g305 t301 t321 t322 t323 from by repeat (first | (with_reducible first | exact HI305.out | apply IsS101.alloc | apply IsS101.drewN | apply IsS101.drew | apply IsS101.set_1 | apply IsS101.set_2 | apply IsS101.set_3 | refine IsS101.far ?_ NB305_300.out _ | refine IsS101.far ?_ NB305_315.out _) | exact HI305.out)) (zr_ HO308.out) (by decide)) hk (fun _ h => h.2)) (fun _ h => h.1))
   replace HO311 := zA_ (Kd.R_mono (Kd.R_keep (IsS101.apart (show IsS101 w _ g305 t301 t321 t322 t323 from by repeat (first | (with_reducible first | exact HI305.out | apply IsS101.alloc | apply IsS101.drewN | apply IsS101.drew | apply IsS101.set_1 | apply IsS101.set_2 | apply IsS101.set_3 | refine IsS101.far ?_ NB305_300.out _ | refine IsS101.far ?_ NB305_315.out _) | exact HI305.out)) (zr_ HO311.out) (by decide)) hk (fun _ h => h.2)) (fun _ h => h.1))
   replace BK315 := zA_ (KeepBut.blk hk (g' := gb315) (o := .cells #[.slice Ao36 t306.length co36, .slice Ao40 t309.length co40] 26 (0, 0)) (zb_ BK315.out) NB315_305.out (by simp))
   replace HB := zA_ (hb)
   replace HI305 := zA_ (hi)
   (try clear hb)
   (try clear hb2)
   (try clear hk)
   (try clear hi)
   refine hK.out _ _ ⟨cy_ BK315.out 0, cy_ BK315.out 1⟩ (fun hHeld => ?_)
   clear hK K
   refine norm_ (a' := ?_) ?_ ?_
   rotate_left
   · show Act.put _ (some 27) _ = _
     simp only [Act.put, List.setIfInBounds_toArray, List.set_cons_zero, List.set_cons_succ, i64_w, i32_w]
     rfl
   refine one_ (i := 5) (N := some 28) (mr_ [6, 3]) rfl rfl (one_of HT_.out βPb) (by decide) (fun K hK => ?_)
   refine goes_ Try.func47 βPb rfl #[.pointer (some ⟨g305, 0, none⟩), .int .i64 t331] (by rfl) rfl rfl zs_ ?_
   with_reducible refine (spec_l01Src_bytes.calls k g305 t301 t332 t333 t334 t331 t335 t336 t337 t338 w _ ?side1 ?side2 A31.out).mono ?_
   (case side1 => exact βS)
   (case side2 => exact βka)
   rintro e w45 ⟨rfl, hi, hb, hk⟩
   refine ⟨_, rfl, ?_⟩
   replace BK300 := zA_ (KeepBut.blk hk (g' := gb300) (o := .cells #[.slice none 0 0, .slice none 0 0] 26 (0, 0)) (zb_ BK300.out) NB300_305.out (by simp))
   replace HO308 := zA_ (Kd.R_mono (Kd.R_keep (IsS101.apart (show IsS101 w _ g305 t301 t332 t333 t334 from by repeat (first | (with_reducible first | exact HI305.out | apply IsS101.alloc | apply IsS101.drewN | apply IsS101.drew | apply IsS101.set_1 | apply IsS101.set_2 | apply IsS101.set_3 | refine IsS101.far ?_ NB305_300.out _ | refine IsS101.far ?_ NB305_315.out _) | exact HI305.out)) (zr_ HO308.out) (by decide)) hk (fun _ h => h.2)) (fun _ h => h.1))
   replace HO311 := zA_ (Kd.R_mono (Kd.R_keep (IsS101.apart (show IsS101 w _ g305 t301 t332 t333 t334 from by repeat (first | (with_reducible first | exact HI305.out | apply IsS101.alloc | apply IsS101.drewN | apply IsS101.drew | apply IsS101.set_1 | apply IsS101.set_2 | apply IsS101.set_3 | refine IsS101.far ?_ NB305_300.out _ | refine IsS101.far ?_ NB305_315.out _) | exact HI305.out)) (zr_ HO311.out) (by decide)) hk (fun _ h => h.2)) (fun _ h => h.1))
   replace BK315 := zA_ (KeepBut.blk hk (g' := gb315) (o := .cells #[.slice Ao36 t306.length co36, .slice Ao40 t309.length co40] 26 (0, 0)) (zb_ BK315.out) NB315_305.out (by simp))
   replace HB := zA_ (hb)
   replace HI305 := zA_ (hi)
   (try clear hb)
   (try clear hb2)
   (try clear hk)
   (try clear hi)
   refine hK.out _ _ ⟨cy_ BK315.out 0, cy_ BK315.out 1⟩ (fun hHeld => ?_)
   clear hK K
   refine norm_ (a' := ?_) ?_ ?_
   rotate_left
   · show Act.put _ (some 28) _ = _
     simp only [Act.put, List.setIfInBounds_toArray, List.set_cons_zero, List.set_cons_succ, i64_w, i32_w]
     rfl
   refine one_ (i := 6) (N := none) (mr_ [7, 2]) rfl rfl (one_of HT_.out βPb) (by decide) (fun K hK => ?_)
   have hs46 := cz_ BK300.out 0 (.slice none 0 0) rfl
   have hfs46 := blk_frozen BK300.out 0
   have hns46_1 := NB315_300.out
   have hms46_1 := NB300_315.out
   have hs47 := cz_ BK300.out 1 (.slice none 0 0) rfl
   have hfs47 := blk_frozen BK300.out 1
   have hns47_1 := NB315_300.out
   have hms47_1 := NB300_315.out
   refine skip_ (w1 := ?_) (by rfl) rfl ?_ ?_
   rotate_left
   · go_simp
     rfl
   refine hK.out _ _ ⟨((cell_far (p := ⟨gb300, _, none⟩) NB315_300.out _).trans (((cell_far (p := ⟨gb300, _, none⟩) NB315_300.out _).trans (hHeld.1)))), ((cell_far (p := ⟨gb300, _, none⟩) NB315_300.out _).trans (((cell_far (p := ⟨gb300, _, none⟩) NB315_300.out _).trans (hHeld.2))))⟩ (fun hHeld => ?_)
   clear hK K
   refine pure_ (i := 7) (N := some 3) (v := ?_) (a' := ?_) (mr_ [8, 1]) rfl rfl (any_of HT_.out βPb) (fun _ _ _ h => h) (Or.inl ⟨(by rfl), ?_⟩) ?_ ?_
   rotate_left; exact pv_; rotate_left; exact pp_
   refine pure_ (i := 8) (N := some 4) (v := ?_) (a' := ?_) (mr_ [9]) rfl rfl (any_of HT_.out βPb) (fun _ _ _ h => h) (Or.inl ⟨(by rfl), ?_⟩) ?_ ?_
   rotate_left; exact pv_; rotate_left; exact pp_
   refine done_ (done_of HT_.out βPb) ?_
   try go_wp2
   refine bodyPost_ret (results_ctt rfl _ _ gb300 26 #[.slice Ao36 t306.length co36, .slice Ao40 t309.length co40] (0, 0) _ rfl (by (with_reducible repeat (first | refine blk_drewN ?_ _ | refine blk_drew ?_ | refine blk_alloc ?_ _)); refine blk_put (cs := #[.slice Ao36 t306.length co36, .slice none 0 0]) ?_ 1 _ rfl; (with_reducible repeat (first | refine blk_drewN ?_ _ | refine blk_drew ?_ | refine blk_alloc ?_ _)); refine blk_put (cs := #[.slice none 0 0, .slice none 0 0]) ?_ 0 _ rfl; (with_reducible repeat (first | refine blk_drewN ?_ _ | refine blk_drew ?_ | refine blk_alloc ?_ _)); exact BK300.out) Try.underlying26 rfl βPb) rfl ?_
   exact ⟨_, _, βFb, (by (with_reducible repeat (first | apply Kd.R_alloc | apply Kd.R_drewN | apply Kd.R_drew)); exact Kd.R_mono (Kd.R_far (p := ⟨gb300, 1, none⟩) (Kd.R_far (p := ⟨gb300, 0, none⟩) (Kd.R_types HO308.out BK300.out (by decide)) (fun _ hk => hk.2) (.slice Ao36 t306.length co36)) (fun _ hk => hk.2) (.slice Ao40 t309.length co40)) (fun _ hk => trivial)), (by (with_reducible repeat (first | apply Kd.R_alloc | apply Kd.R_drewN | apply Kd.R_drew)); exact Kd.R_mono (Kd.R_far (p := ⟨gb300, 1, none⟩) (Kd.R_far (p := ⟨gb300, 0, none⟩) (Kd.R_types HO311.out BK300.out (by decide)) (fun _ hk => hk.2) (.slice Ao36 t306.length co36)) (fun _ hk => hk.2) (.slice Ao40 t309.length co40)) (fun _ hk => trivial)), βka⟩
def impl_within.f (a0 : Int) (a1 : Int) (a2 : Int) : Option (Bool) := if a0 ≥ a1 then (some (decide (a0 ≤ a2))) else (some false)
theorem impl_within.calls (a0 : Int) (a1 : Int) (a2 : Int) (r : Bool) (w : World) (h : impl_within.f a0 a1 a2 = some r) :
 Calls Try.prog 64 #[.int .i64 a0, .int .i64 a1, .int .i64 a2] w fun e w' => e = .returned (.bool r) ∧ Drawn0 w w' := by
 have H : (if a0 ≥ a1 then (some (decide (a0 ≤ a2))) else (some false)) = some r := h
 clear h
 by_cases c4 : a0 ≥ a1
 · rw [if_pos c4] at H
   have c4b0 : decide (a1 ≤ a0) = true := decide_eq_true c4
   clear c4
   obtain rfl := Option.some.inj H
   go_enter Try.func64, Try.ntmps64
   go_wp2
   go_ret
   exact ⟨βLb, βIb⟩
 · rw [if_neg c4] at H
   have c4b0 : decide (a1 ≤ a0) = false := decide_eq_false c4
   clear c4
   obtain rfl := Option.some.inj H
   go_enter Try.func64, Try.ntmps64
   go_wp2
   go_ret
   exact ⟨βLb, βIb⟩
def impl_size_string.f (l0 : List ByteArray) : Option (Int) := some (l0.length : Int)
theorem impl_size_string.calls (A0 : Option Addr) (c0 : Nat) (l0 : List ByteArray) (r : Int) (w : World) (hr0 : Kd.C Kd.string w A0 l0.length l0) (hc0 : l0.length ≤ c0) (h : impl_size_string.f l0 = some r) :
 Calls Try.prog 84 #[.slice A0 l0.length c0] w fun e w' => e = .returned (.int .i64 r) ∧ Drawn0 w w' := by
 have HR0 := zA_ hr0
 have HC0 := zA_ hc0
 clear hr0 hc0
 have H : (some (l0.length : Int)) = some r := h
 clear h
 obtain rfl := Option.some.inj H
 go_enter Try.func84, Try.ntmps84
 go_wp2
 go_ret
 exact ⟨βLb, βIb⟩
def impl_Flash_has.f (l0_0 : List ByteArray) (l0_1 : List (S83)) (a1 : Int) : Option (Bool) := (impl_size_string.f l0_0).bind fun t340 => ((impl_within.f a1 0 (wrap64 (t340 - 1))).bind fun t341 => (some t341))
theorem impl_Flash_has.calls (A0_0 : Option Addr) (c0_0 : Nat) (l0_0 : List ByteArray) (A0_1 : Option Addr) (c0_1 : Nat) (l0_1 : List (S83)) (a1 : Int) (r : Bool) (w : World) (hr0_0 : Kd.C Kd.string w A0_0 l0_0.length l0_0) (hc0_0 : l0_0.length ≤ c0_0) (hr0_1 : Kd.C k83 w A0_1 l0_1.length l0_1) (hc0_1 : l0_1.length ≤ c0_1) (h : impl_Flash_has.f l0_0 l0_1 a1 = some r) :
 Calls Try.prog 49 #[.agg #[.slice A0_0 l0_0.length c0_0, .slice A0_1 l0_1.length c0_1], .int .i64 a1] w fun e w' => e = .returned (.bool r) ∧ Below w.heap.size w w' := by
 have hu26 := Try.underlying26
 have HR0_0 := zA_ hr0_0
 have HC0_0 := zA_ hc0_0
 clear hr0_0 hc0_0
 have HR0_1 := zA_ hr0_1
 have HC0_1 := zA_ hc0_1
 clear hr0_1 hc0_1
 have HB := zA_ (Below.refl w.heap.size w)
 have H : ((impl_size_string.f l0_0).bind fun t340 => ((impl_within.f a1 0 (wrap64 (t340 - 1))).bind fun t341 => (some t341))) = some r := h
 clear h
 replace H := Option.bind_eq_some_iff.mp H
 obtain ⟨t340, A30, H⟩ := H
 (try dsimp -simprocs only at H)
 have A3 := zA_ A30
 clear A30
 replace H := Option.bind_eq_some_iff.mp H
 obtain ⟨t341, A40, H⟩ := H
 (try dsimp -simprocs only at H)
 have A4 := zA_ A40
 clear A40
 obtain rfl := Option.some.inj H
 go_enter Try.func49, Try.ntmps49
 go_wp2_with (first | ((with_reducible refine gate_dst (N := 2) rfl ?_); refine box_event ?hg (N := 2) ?hd (cs := #[.slice A0_0 l0_0.length c0_0, .slice A0_1 l0_1.length c0_1]) (t := 26) ?hr ?_; (case hd => exact (by rfl)); (case hg => exact (by rfl)); (case hr => exact βMb); intro gb339 hg w5 hbox hb; have BK339 := zA_ (hbox); have GW339 := zA_ ((by rw [hg]; exact (below_size (zh_ HB.out)) : w.heap.size ≤ gb339)); have GE339 := zA_ ((by rw [hg]; exact (below_size (zh_ HB.out)) : w.heap.size ≤ gb339)); replace HB := zA_ (below_step (zh_ HB.out) hb); clear hb hbox hg; have hcz6_0 := cz_ BK339.out 0 (.slice A0_0 l0_0.length c0_0) rfl; have hcz6_1 := cz_ BK339.out 1 (.slice A0_1 l0_1.length c0_1) rfl; have hfz6_0 := blk_frozen BK339.out 0; have hfz6_1 := blk_frozen BK339.out 1) | ((with_reducible refine gate_callee (f := 84) rfl ?_); refine goesL_ (some 8) rfl rfl Try.func84 βPb rfl #[.slice A0_0 l0_0.length c0_0] rfl zs_ ?_; (with_reducible refine (impl_size_string.calls _ _ l0_0 t340 _ ?side1 ?side2 A3.out).mono ?_); (case side1 => exact zc_ (Kd.C_below HR0_0.out HB.out)); (case side2 => exact HC0_0.out); rintro e w' ⟨rfl, ⟨nd, rfl⟩⟩; refine ⟨_, rfl, ?_⟩) | ((with_reducible refine gate_callee (f := 64) rfl ?_); refine goesL_ (some 10) rfl rfl Try.func64 βPb rfl #[.int .i64 a1, .int .i64 0, .int .i64 (wrap64 (t340 - 1))] rfl zs_ ?_; (with_reducible refine (impl_within.calls a1 0 (wrap64 (t340 - 1)) t341 _ A4.out).mono ?_); rintro e w' ⟨rfl, ⟨nd, rfl⟩⟩; refine ⟨_, rfl, ?_⟩))
 go_ret
 exact ⟨βFb, (by repeat (first | (with_reducible first | exact HB.out | apply below_alloc | apply pw_below_drewN | apply below_drew1 | refine below_set ?_ GE339.out) | exact HB.out))⟩
def idxFrom {α : Type} (p : α → Bool) : List α → Int → Int
 | [], _ => -1
 | x :: r, i => if p x = true then i else idxFrom p r (i + 1)
theorem idxFrom_drop {α : Type} (l : List α) (k : Nat) (h : k < l.length) : l.drop k = l[k] :: l.drop (k + 1) := by simp
theorem idxFrom_nonneg {α : Type} (p : α → Bool) : ∀ (l : List α) (i : Int), 0 ≤ i → (0 ≤ idxFrom p l i ↔ l.any p = true) := by
 intro l
 induction l with
 | nil => intro i h; simp [idxFrom]
 | cons x r ih =>
  intro i h
  rw [idxFrom, List.any_cons]
  by_cases hx : p x = true
  · rw [if_pos hx, hx]; simp [h]
  · rw [if_neg hx, ih (i + 1) (by omega), Bool.eq_false_iff.2 hx]; simp
theorem slices_IndexFunc_83.calls (I : World → Prop) (p : S83 → Bool) (g : Nat) (cap : Array Value) (eg : ∀ args w, (callFunc g args).run Try.prog w = .ok (.enter g args) w) (Ad : Option Addr) (c : Nat) (l : List S83) (w : World)
 (hR : Kd.C k83 w Ad l.length l) (hc : l.length ≤ c) (hbig : l.length ≤ 9223372036854775807) (hw : I w) (hI : ∀ W, I W → Below w.heap.size w W)
 (hp : ∀ (W : World), I W → ∀ x ∈ l, Calls Try.prog g (#[.agg #[.int .i64 x.f0, .string x.f1]] ++ cap) W fun e w' => e = .returned (.bool (p x)) ∧ I w') :
 Calls Try.prog 101 #[.slice Ad l.length c, .func (.func g) #[] cap] w fun e w' => e = .returned (.int .i64 (idxFrom p l 0)) ∧ I w' := by
 have HR := zA_ hR
 clear hR
 go_enter Try.func101, Try.ntmps101
 go_wp2
 go_loopg [5, 8] l.length (fun gg _ s8 wr => ∃ kk : Nat, kk ≤ l.length ∧ l.length - kk ≤ gg ∧ s8 = .int .i64 kk ∧ Aside0 (I wr) ∧ Aside0 (idxFrom p l 0 = idxFrom p (l.drop kk) kk))
 case atStart => exact ⟨0, Nat.zero_le _, (by omega), rfl, ⟨hw⟩, ⟨(by simp)⟩⟩
 case round =>
  obtain ⟨kk, hkk, hg, rfl, IW, IX⟩ := hrel
  by_cases hlt : kk < l.length
  · have hltz : (kk : Int) < (l.length : Int) := by omega
    obtain ⟨ad, rfl, hx0, hx1⟩ := at_T83 HR.out (kk : Int) (by omega) hltz
    have hy : rd_T83 l (kk : Int) = l[kk] := by simp [rd_T83, hlt]
    rw [hy] at hx0; replace hx0 := ((hI wr IW.out).cell (World.block_lt_of_cell? _ _ hx0)).trans hx0; simp only [Int.toNat_natCast] at hx0
    rw [hy] at hx1; replace hx1 := ((hI wr IW.out).cell (World.block_lt_of_cell? _ _ hx1)).trans hx1; simp only [Int.toNat_natCast] at hx1
    have hcall := hp wr IW.out l[kk] (List.getElem_mem hlt)
    have IX2 := IX.out
    rw [idxFrom_drop l kk hlt, idxFrom] at IX2
    clear hp IX hy
    generalize l[kk] = y at hx0 hx1 hcall IX2
    have IX3 := zA_ IX2
    clear IX2
    cases hq : p y with
    | true =>
     rw [hq] at hcall
     go_wp2_with (go_at_fn g; refine hcall.mono ?_; rintro e w' ⟨rfl, hb'⟩)
     go_ret
     exact ⟨(by rw [IX3.out, if_pos hq]; rfl), hb'⟩
    | false =>
     rw [hq] at hcall
     go_wp2_with (go_at_fn g; refine hcall.mono ?_; rintro e w' ⟨rfl, hb'⟩)
     go_roundg (l.length - (kk + 1))
     case measure => omega
     case rel => exact ⟨kk + 1, (by omega), (by omega), (by go_num), ⟨hb'⟩, ⟨(by rw [IX3.out, hq]; simp)⟩⟩
  · have hltz : ¬ (kk : Int) < (l.length : Int) := by omega
    have : kk = l.length := by omega
    subst this
    go_wp2
    go_ret
    exact ⟨(by rw [IX.out]; simp [idxFrom]), IW.out⟩
def impl_Flash_dirty.is (b : Int) (x : S83) : Bool := x.f0 == b
def impl_Flash_dirty.f (l0_0 : List ByteArray) (l0_1 : List S83) (a1 : Int) : Option Int := if l0_1.length ≤ 9223372036854775807 then some (idxFrom (impl_Flash_dirty.is a1) l0_1 0) else none
theorem impl_Flash_dirty.pred (a1 : Int) (gb : Nat) (W0 W : World) (hc : W0.cell? ⟨gb, 0, none⟩ = some (.int .i64 a1)) (hB : Below W0.heap.size W0 W) (x : S83) :
 Calls Try.prog 102 (#[.agg #[.int .i64 x.f0, .string x.f1]] ++ #[.pointer (some ⟨gb, 0, none⟩)]) W fun e w' => e = .returned (.bool (impl_Flash_dirty.is a1 x)) ∧ Below W0.heap.size W0 w' := by
 have hc' := (hB.cell (World.block_lt_of_cell? _ _ hc)).trans hc
 have hc2 : ∀ o, (W.alloc o).cell? ⟨gb, 0, none⟩ = some (.int .i64 a1) := fun o => (Below.cell (below_alloc (Below.refl _ W) o) (World.block_lt_of_cell? _ _ hc')).trans hc'
 show Calls Try.prog 102 #[.agg #[.int .i64 x.f0, .string x.f1], .pointer (some ⟨gb, 0, none⟩)] W _
 have HB := zA_ hB
 clear hB hc
 unfold impl_Flash_dirty.is
 go_enter Try.func102, Try.ntmps102
 go_wp2
 all_goals (go_ret; exact ⟨rfl, βGb⟩)
theorem impl_Flash_dirty.calls (A0_0 : Option Addr) (c0_0 : Nat) (l0_0 : List ByteArray) (A0_1 : Option Addr) (c0_1 : Nat) (l0_1 : List S83) (a1 : Int) (r : Int) (w : World) (hr0_0 : Kd.C Kd.string w A0_0 l0_0.length l0_0) (hc0_0 : l0_0.length ≤ c0_0) (hr0_1 : Kd.C k83 w A0_1 l0_1.length l0_1) (hc0_1 : l0_1.length ≤ c0_1) (h : impl_Flash_dirty.f l0_0 l0_1 a1 = some r) :
 Calls Try.prog 87 #[.agg #[.slice A0_0 l0_0.length c0_0, .slice A0_1 l0_1.length c0_1], .int .i64 a1] w fun e w' => e = .returned (.int .i64 r) ∧ Below w.heap.size w w' := by
 unfold impl_Flash_dirty.f at h
 by_cases hbig : l0_1.length ≤ 9223372036854775807
 · rw [if_pos hbig] at h
   obtain rfl := Option.some.inj h
   clear h
   have eg : ∀ args w, (callFunc 102 args).run Try.prog w = .ok (.enter 102 args) w := enters_of Try.func102 βPb rfl
   have hcon := fun (W : World) (hR : Kd.C k83 W A0_1 l0_1.length l0_1) (gb : Nat) (hc : W.cell? ⟨gb, 0, none⟩ = some (.int .i64 a1)) => slices_IndexFunc_83.calls (fun W' => Below W.heap.size W W') (impl_Flash_dirty.is a1) 102 #[.pointer (some ⟨gb, 0, none⟩)] eg A0_1 c0_1 l0_1 W hR hc0_1 hbig (Below.refl _ _) (fun _ h => h) (fun W' hb x _ => impl_Flash_dirty.pred a1 gb W W' hc hb x)
   have HR0 := zA_ hr0_1
   clear hr0_0 hc0_0 hr0_1 hbig
   go_enter Try.func87, Try.ntmps87
   go_wp2_with (go_at_call 101; refine (hcon _ βyb _ (by go_simp)).mono ?_; rintro e w' ⟨rfl, hb'⟩)
   go_ret
   exact ⟨rfl, below_step βDb hb'⟩
 · rw [if_neg hbig] at h; cases h
theorem slices_IndexFunc_s.calls (I : World → Prop) (p : ByteArray → Bool) (g : Nat) (cap : Array Value) (eg : ∀ args w, (callFunc g args).run Try.prog w = .ok (.enter g args) w) (Ad : Option Addr) (c : Nat) (l : List ByteArray) (w : World)
 (hR : Kd.string.C w Ad l.length l) (hc : l.length ≤ c) (hbig : l.length ≤ 9223372036854775807) (hw : I w) (hI : ∀ W, I W → Below w.heap.size w W)
 (hp : ∀ (W : World), I W → ∀ x ∈ l, Calls Try.prog g (#[.string x] ++ cap) W fun e w' => e = .returned (.bool (p x)) ∧ I w') :
 Calls Try.prog 100 #[.slice Ad l.length c, .func (.func g) #[] cap] w fun e w' => e = .returned (.int .i64 (idxFrom p l 0)) ∧ I w' := by
 have HR := zA_ hR
 clear hR
 go_enter Try.func100, Try.ntmps100
 go_wp2
 go_loopg [5, 8] l.length (fun gg _ s8 wr => ∃ kk : Nat, kk ≤ l.length ∧ l.length - kk ≤ gg ∧ s8 = .int .i64 kk ∧ Aside0 (I wr) ∧ Aside0 (idxFrom p l 0 = idxFrom p (l.drop kk) kk))
 case atStart => exact ⟨0, Nat.zero_le _, (by omega), rfl, ⟨hw⟩, ⟨(by simp)⟩⟩
 case round =>
  obtain ⟨kk, hkk, hg, rfl, IW, IX⟩ := hrel
  by_cases hlt : kk < l.length
  · have hltz : (kk : Int) < (l.length : Int) := by omega
    obtain ⟨ad, rfl, hx⟩ := Kd.at_string HR.out (kk : Int) (by omega) hltz
    have hx' := ((hI wr IW.out).cell (World.block_lt_of_cell? _ _ hx)).trans hx
    have hy : rdOf ByteArray.empty l (kk : Int) = l[kk] := by simp [rdOf, hlt]
    rw [hy] at hx hx'
    simp only [Int.toNat_natCast, Nat.mul_one] at hx'
    have hcall := hp wr IW.out l[kk] (List.getElem_mem hlt)
    have IX2 := IX.out
    rw [idxFrom_drop l kk hlt, idxFrom] at IX2
    clear hp IX hy hx
    generalize l[kk] = y at hx' hcall IX2
    have IX3 := zA_ IX2
    clear IX2
    cases hq : p y with
    | true =>
     rw [hq] at hcall
     go_wp2_with (go_at_fn g; refine hcall.mono ?_; rintro e w' ⟨rfl, hb'⟩)
     go_ret
     exact ⟨(by rw [IX3.out, if_pos hq]; rfl), hb'⟩
    | false =>
     rw [hq] at hcall
     go_wp2_with (go_at_fn g; refine hcall.mono ?_; rintro e w' ⟨rfl, hb'⟩)
     go_roundg (l.length - (kk + 1))
     case measure => omega
     case rel => exact ⟨kk + 1, (by omega), (by omega), (by go_num), ⟨hb'⟩, ⟨(by rw [IX3.out, hq]; simp)⟩⟩
  · have hltz : ¬ (kk : Int) < (l.length : Int) := by omega
    have : kk = l.length := by omega
    subst this
    go_wp2
    go_ret
    exact ⟨(by rw [IX.out]; simp [idxFrom]), IW.out⟩
theorem slices_ContainsFunc_s.calls (I : World → Prop) (p : ByteArray → Bool) (g : Nat) (cap : Array Value) (eg : ∀ args w, (callFunc g args).run Try.prog w = .ok (.enter g args) w) (Ad : Option Addr) (c : Nat) (l : List ByteArray) (w : World)
 (hR : Kd.string.C w Ad l.length l) (hc : l.length ≤ c) (hbig : l.length ≤ 9223372036854775807) (hw : I w) (hI : ∀ W, I W → Below w.heap.size w W)
 (hp : ∀ (W : World), I W → ∀ x ∈ l, Calls Try.prog g (#[.string x] ++ cap) W fun e w' => e = .returned (.bool (p x)) ∧ I w') :
 Calls Try.prog 85 #[.slice Ad l.length c, .func (.func g) #[] cap] w fun e w' => e = .returned (.bool (l.any p)) ∧ I w' := by
 have hcon := slices_IndexFunc_s.calls I p g cap eg Ad c l w hR hc hbig hw hI hp
 have hn := zA_ (idxFrom_nonneg p l 0 (by omega))
 clear hp hR
 generalize idxFrom p l 0 = r at hcon hn
 go_enter Try.func85, Try.ntmps85
 go_wp2_with (go_at_call 100; refine hcon.mono ?_; rintro e w' ⟨rfl, hb'⟩)
 go_ret
 refine ⟨?_, hb'⟩
 have : decide (0 ≤ r) = l.any p := by rw [Bool.eq_iff_iff, decide_eq_true_iff]; exact hn.out
 rw [← this]; rfl
theorem slices_ContainsFunc_s.quiet (p : ByteArray → Bool) (g : Nat) (cap : Array Value) (eg : ∀ args w, (callFunc g args).run Try.prog w = .ok (.enter g args) w) (Ad : Option Addr) (c : Nat) (l : List ByteArray) (w : World)
 (hR : Kd.string.C w Ad l.length l) (hc : l.length ≤ c) (hbig : l.length ≤ 9223372036854775807)
 (hp : ∀ (W : World), ∀ x ∈ l, Calls Try.prog g (#[.string x] ++ cap) W fun e w' => e = .returned (.bool (p x)) ∧ Drawn0 W w') :
 Calls Try.prog 85 #[.slice Ad l.length c, .func (.func g) #[] cap] w fun e w' => e = .returned (.bool (l.any p)) ∧ Drawn0 w w' :=
 slices_ContainsFunc_s.calls (fun W => Drawn0 w W) p g cap eg Ad c l w hR hc hbig ⟨0, rfl⟩ (fun W ⟨⟨n, hn⟩⟩ => by rw [hn]; exact pw_below_drewN (Below.refl _ _) n)
  (fun W ⟨⟨n, hn⟩⟩ x hx => (hp W x hx).mono fun e w' ⟨he, ⟨m, hm⟩⟩ => ⟨he, ⟨n + m, (by rw [hm, hn]; exact World.drewN_drewN _ _ _)⟩⟩)
def impl_isFlash.long (s : ByteArray) : Bool := decide ((s.size : Int) > 96)
def impl_isFlash.has (n : Int) (a : Int) : Bool := decide (0 ≤ a ∧ a ≤ n - 1)
def impl_isFlash.scan (n : Int) (L : List S83) : List S83 → Int → Bool
 | [], _ => true
 | x :: r, i => if impl_isFlash.has n x.f0 = true then (if (x.f1.size : Int) > 96 then false else if idxFrom (impl_Flash_dirty.is x.f0) L 0 < i then false else impl_isFlash.scan n L r (i + 1)) else false
def impl_isFlash.head (l0_0 : List ByteArray) (l0_1 : List S83) : Bool := decide (1 ≤ (l0_0.length : Int) ∧ (l0_0.length : Int) ≤ 40) && (decide ((l0_1.length : Int) ≤ (l0_0.length : Int)) && !(l0_0.any impl_isFlash.long))
def impl_isFlash.f (l0_0 : List ByteArray) (l0_1 : List S83) : Option Bool :=
 if l0_0.length ≤ 9223372036854775807 ∧ l0_1.length ≤ 9223372036854775807 then some (impl_isFlash.head l0_0 l0_1 && impl_isFlash.scan l0_0.length l0_1 l0_1 0) else none
theorem impl_isFlash.pred (s : ByteArray) (W : World) : Calls Try.prog 86 #[.string s] W fun e w' => e = .returned (.bool (impl_isFlash.long s)) ∧ Drawn0 W w' := by
 unfold impl_isFlash.long
 go_enter Try.func86, Try.ntmps86
 go_wp2
 all_goals (go_ret; exact ⟨rfl, ⟨0, rfl⟩⟩)
theorem impl_isFlash.within_ (a lo hi : Int) (d : Bool) (hd : decide (lo ≤ a ∧ a ≤ hi) = d) : impl_within.f a lo hi = some d := by
 rw [← hd]
 unfold impl_within.f
 by_cases h1 : a ≥ lo
 · rw [if_pos h1]; congr 1; rw [Bool.eq_iff_iff]; simp; omega
 · rw [if_neg h1]; congr 1; rw [eq_comm, decide_eq_false_iff_not]; omega
theorem impl_isFlash.calls (A0_0 : Option Addr) (c0_0 : Nat) (l0_0 : List ByteArray) (A0_1 : Option Addr) (c0_1 : Nat) (l0_1 : List S83) (r : Bool) (w : World) (hr0_0 : Kd.C Kd.string w A0_0 l0_0.length l0_0) (hc0_0 : l0_0.length ≤ c0_0) (hr0_1 : Kd.C k83 w A0_1 l0_1.length l0_1) (hc0_1 : l0_1.length ≤ c0_1) (h : impl_isFlash.f l0_0 l0_1 = some r) :
 Calls Try.prog 48 #[.agg #[.slice A0_0 l0_0.length c0_0, .slice A0_1 l0_1.length c0_1]] w fun e w' => e = .returned (.bool r) ∧ Below w.heap.size w w' := by
 unfold impl_isFlash.f at h
 by_cases hbig : l0_0.length ≤ 9223372036854775807 ∧ l0_1.length ≤ 9223372036854775807
 · rw [if_pos hbig] at h
   obtain rfl := Option.some.inj h
   clear h
   have HBIG := zA_ hbig
   have hu30 := Try.underlying26
   have HR0 := zA_ hr0_0
   have HC0 := zA_ hc0_0
   have HR1 := zA_ hr0_1
   have HC1 := zA_ hc0_1
   have HS := zA_ (show impl_size_string.f l0_0 = some (l0_0.length : Int) from rfl)
   have eg : ∀ args w, (callFunc 86 args).run Try.prog w = .ok (.enter 86 args) w := enters_of Try.func86 βPb rfl
   have hcon := fun W hR => slices_ContainsFunc_s.quiet impl_isFlash.long 86 #[] eg A0_0 c0_0 l0_0 W hR hc0_0 hbig.1 (fun W x _ => impl_isFlash.pred x W)
   clear hr0_0 hc0_0 hr0_1 hc0_1 eg
   unfold impl_isFlash.head
   by_cases h1 : 1 ≤ (l0_0.length : Int) ∧ (l0_0.length : Int) ≤ 40
   · have HD := zA_ (impl_isFlash.within_ (l0_0.length : Int) 1 40 true (decide_eq_true h1))
     rw [decide_eq_true h1, Bool.true_and]
     by_cases h2 : (l0_1.length : Int) ≤ (l0_0.length : Int)
     · have h2b : decide ((l0_1.length : Int) > (l0_0.length : Int)) = false := decide_eq_false (by omega)
       have h2c : decide (l0_0.length < l0_1.length) = false := decide_eq_false (by omega)
       rw [decide_eq_true h2, Bool.true_and]
       clear h1 hbig h2
       generalize l0_0.any impl_isFlash.long = v at hcon ⊢
       cases v with
       | true =>
        go_enter Try.func48, Try.ntmps48
        go_wp2_with (first
         | (go_at_call 84; refine (impl_size_string.calls A0_0 c0_0 l0_0 _ _ βyb HC0.out HS.out).mono ?_; rintro e w1 ⟨rfl, ⟨n1, rfl⟩⟩)
         | (go_at_call 64; refine (impl_within.calls _ _ _ _ _ HD.out).mono ?_; rintro e w1 ⟨rfl, ⟨n2, rfl⟩⟩)
         | (go_at_call 85; refine (hcon _ βyb).mono ?_; rintro e w' ⟨rfl, ⟨n3, rfl⟩⟩))
        go_ret
        exact ⟨rfl, βDb⟩
       | false =>
        have HB0 := zA_ (blk_new w (.cells #[.slice A0_0 l0_0.length c0_0, .slice A0_1 l0_1.length c0_1] 26))
        go_enter Try.func48, Try.ntmps48
        go_wp2_with (first
         | (go_at_call 84; refine (impl_size_string.calls A0_0 c0_0 l0_0 _ _ βyb HC0.out HS.out).mono ?_; rintro e w1 ⟨rfl, ⟨n1, rfl⟩⟩)
         | (go_at_call 64; refine (impl_within.calls _ _ _ _ _ HD.out).mono ?_; rintro e w1 ⟨rfl, ⟨n2, rfl⟩⟩)
         | (go_at_call 85; refine (hcon _ βyb).mono ?_; rintro e w' ⟨rfl, ⟨n3, rfl⟩⟩))
        clear hcon h2b h2c HD HS
        go_loopg [3, 4, 27] l0_1.length (fun gg _ _ v27 wr => ∃ kk : Nat, v27 = .int .i64 kk ∧ Aside0 (kk ≤ l0_1.length) ∧ Aside0 (l0_1.length - kk ≤ gg) ∧ Aside0 (Below w.heap.size w wr) ∧ Aside0 (wr.heap[w.heap.size]? = some (.cells #[.slice A0_0 l0_0.length c0_0, .slice A0_1 l0_1.length c0_1] 26 (0, 0))) ∧ Aside0 (impl_isFlash.scan l0_0.length l0_1 l0_1 0 = impl_isFlash.scan l0_0.length l0_1 (l0_1.drop kk) kk))
        case atStart => exact ⟨0, rfl, ⟨Nat.zero_le _⟩, ⟨Nat.le_refl _⟩, ⟨βDb⟩, HB0, ⟨rfl⟩⟩
        case round =>
         clear HB0
         obtain ⟨kk, rfl, HK, HG, HB, HX, HS⟩ := hrel
         by_cases hlt : kk < l0_1.length
         · have hltz : decide ((kk : Int) < (l0_1.length : Int)) = true := decide_eq_true (by omega)
           have p0 : (0 : Int) ≤ (kk : Int) := by omega
           have qq0 : (kk : Int) < (l0_1.length : Int) := by omega
           obtain ⟨ad, rfl, hx0, hx1⟩ := at_T83 HR1.out (kk : Int) p0 qq0
           have hy : rd_T83 l0_1 (kk : Int) = l0_1[kk] := by simp [rd_T83, hlt]
           rw [hy] at hx0; replace hx0 := bc_ HB.out hx0; simp only [Int.toNat_natCast] at hx0
           rw [hy] at hx1; replace hx1 := bc_ HB.out hx1; simp only [Int.toNat_natCast] at hx1
           have HS2 := HS.out
           rw [idxFrom_drop l0_1 kk hlt, impl_isFlash.scan] at HS2
           clear HS hy
           generalize l0_1[kk] = x at hx0 hx1 HS2
           have hh : impl_Flash_has.f l0_0 l0_1 x.f0 = some (impl_isFlash.has l0_0.length x.f0) := by
            unfold impl_Flash_has.f
            rw [show impl_size_string.f l0_0 = some (l0_0.length : Int) from rfl, Option.bind_some, show wrap64 ((l0_0.length : Int) - 1) = (l0_0.length : Int) - 1 from by have := HBIG.out; unfold wrap64; omega, impl_isFlash.within_ x.f0 0 ((l0_0.length : Int) - 1) _ rfl]
            rfl
           have htch : impl_Flash_dirty.f l0_0 l0_1 x.f0 = some (idxFrom (impl_Flash_dirty.is x.f0) l0_1 0) := by unfold impl_Flash_dirty.f; rw [if_pos HBIG.out.2]
           have e27 : wrap64 ((kk : Int) + 1) = ((kk + 1 : Nat) : Int) := by have := HBIG.out; unfold wrap64; omega
           generalize idxFrom (impl_Flash_dirty.is x.f0) l0_1 0 = tv at htch HS2
           generalize impl_isFlash.has l0_0.length x.f0 = hv at hh HS2
           have HT := zA_ htch
           have HH := zA_ hh
           have HWB := zA_ (blk_alloc HX.out (.cells #[.int .i64 x.f0, .string x.f1] 83))
           have HWN := zA_ (blk_new wr (.cells #[.int .i64 x.f0, .string x.f1] 83))
           have hb0 : ∀ o, (wr.alloc o).cell? ⟨w.heap.size, 0, none⟩ = some (.slice A0_0 l0_0.length c0_0) := fun o => (blk_cell (blk_alloc HX.out o) 0).trans rfl
           have hb1 : ∀ o, (wr.alloc o).cell? ⟨w.heap.size, 1, none⟩ = some (.slice (some ad) l0_1.length c0_1) := fun o => (blk_cell (blk_alloc HX.out o) 1).trans rfl
           clear htch hh
           cases hv with
           | false =>
            go_wp2_with (go_at_call 49; refine (impl_Flash_has.calls A0_0 c0_0 l0_0 (some ad) c0_1 l0_1 x.f0 _ _ (Kd.C_below HR0.out βGb) HC0.out (Kd.C_below HR1.out βGb) HC1.out HH.out).mono ?_; rintro e w2 ⟨rfl, hb2⟩; have HB2 := zA_ (show Below w.heap.size w w2 from below_then βGb (below_size βGb) hb2); have hkB := blk_below (by exact HWB.out) hb2; have hkN := blk_below (by exact HWN.out) hb2; have HKB := zA_ hkB; have q0 : w2.cell? ⟨w.heap.size, 0, none⟩ = some (.slice A0_0 l0_0.length c0_0) := (blk_cell hkB 0).trans rfl; have q1 : w2.cell? ⟨w.heap.size, 1, none⟩ = some (.slice (some ad) l0_1.length c0_1) := (blk_cell hkB 1).trans rfl; have m0 : w2.cell? ⟨wr.heap.size, 0, none⟩ = some (.int .i64 x.f0) := (blk_cell hkN 0).trans rfl; have m1 : w2.cell? ⟨wr.heap.size, 1, none⟩ = some (.string x.f1) := (blk_cell hkN 1).trans rfl; clear hb2 hkB hkN)
            go_ret
            exact ⟨(by rw [HS2]; rfl), HB2.out⟩
           | true =>
            by_cases h9 : (x.f1.size : Int) > 96
            · have hl1 : decide ((x.f1.size : Int) > 96) = true := decide_eq_true h9
              have hl2 : decide (96 < x.f1.size) = true := decide_eq_true (by omega)
              rw [if_pos rfl, if_pos h9] at HS2
              clear h9
              have HS := zA_ HS2
              clear HS2
              go_wp2_with (go_at_call 49; refine (impl_Flash_has.calls A0_0 c0_0 l0_0 (some ad) c0_1 l0_1 x.f0 _ _ (Kd.C_below HR0.out βGb) HC0.out (Kd.C_below HR1.out βGb) HC1.out HH.out).mono ?_; rintro e w2 ⟨rfl, hb2⟩; have HB2 := zA_ (show Below w.heap.size w w2 from below_then βGb (below_size βGb) hb2); have hkB := blk_below (by exact HWB.out) hb2; have hkN := blk_below (by exact HWN.out) hb2; have HKB := zA_ hkB; have q0 : w2.cell? ⟨w.heap.size, 0, none⟩ = some (.slice A0_0 l0_0.length c0_0) := (blk_cell hkB 0).trans rfl; have q1 : w2.cell? ⟨w.heap.size, 1, none⟩ = some (.slice (some ad) l0_1.length c0_1) := (blk_cell hkB 1).trans rfl; have m0 : w2.cell? ⟨wr.heap.size, 0, none⟩ = some (.int .i64 x.f0) := (blk_cell hkN 0).trans rfl; have m1 : w2.cell? ⟨wr.heap.size, 1, none⟩ = some (.string x.f1) := (blk_cell hkN 1).trans rfl; clear hb2 hkB hkN)
              go_ret
              exact ⟨(by rw [HS.out]; rfl), HB2.out⟩
            · have hl1 : decide ((x.f1.size : Int) > 96) = false := decide_eq_false h9
              have hl2 : decide (96 < x.f1.size) = false := decide_eq_false (by omega)
              rw [if_pos rfl, if_neg h9] at HS2
              clear h9
              by_cases ht : tv < (kk : Int)
              · have htb : decide (tv < (kk : Int)) = true := decide_eq_true ht
                rw [if_pos ht] at HS2
                have HS := zA_ HS2
                clear HS2 ht
                go_wp2_with (first | (go_at_call 49; refine (impl_Flash_has.calls A0_0 c0_0 l0_0 (some ad) c0_1 l0_1 x.f0 _ _ (Kd.C_below HR0.out βGb) HC0.out (Kd.C_below HR1.out βGb) HC1.out HH.out).mono ?_; rintro e w2 ⟨rfl, hb2⟩; have HB2 := zA_ (show Below w.heap.size w w2 from below_then βGb (below_size βGb) hb2); have hkB := blk_below (by exact HWB.out) hb2; have hkN := blk_below (by exact HWN.out) hb2; have HKB := zA_ hkB; have q0 : w2.cell? ⟨w.heap.size, 0, none⟩ = some (.slice A0_0 l0_0.length c0_0) := (blk_cell hkB 0).trans rfl; have q1 : w2.cell? ⟨w.heap.size, 1, none⟩ = some (.slice (some ad) l0_1.length c0_1) := (blk_cell hkB 1).trans rfl; have m0 : w2.cell? ⟨wr.heap.size, 0, none⟩ = some (.int .i64 x.f0) := (blk_cell hkN 0).trans rfl; have m1 : w2.cell? ⟨wr.heap.size, 1, none⟩ = some (.string x.f1) := (blk_cell hkN 1).trans rfl; clear hb2 hkB hkN) | (go_at_call 87; refine (impl_Flash_dirty.calls A0_0 c0_0 l0_0 (some ad) c0_1 l0_1 x.f0 tv _ (Kd.C_below HR0.out βHb) HC0.out (Kd.C_below HR1.out βHb) HC1.out HT.out).mono ?_; rintro e w3 ⟨rfl, hb3⟩; have HB3 := zA_ (show Below w.heap.size w w3 from below_then βHb (below_size βHb) hb3); have HKB3 := zA_ (blk_below (by exact HKB.out) hb3); clear hb3))
                go_ret
                exact ⟨(by rw [HS.out]; rfl), HB3.out⟩
              · have htb : decide (tv < (kk : Int)) = false := decide_eq_false ht
                rw [if_neg ht] at HS2
                have HS := zA_ HS2
                clear HS2 ht
                go_wp2_with (first | (go_at_call 49; refine (impl_Flash_has.calls A0_0 c0_0 l0_0 (some ad) c0_1 l0_1 x.f0 _ _ (Kd.C_below HR0.out βGb) HC0.out (Kd.C_below HR1.out βGb) HC1.out HH.out).mono ?_; rintro e w2 ⟨rfl, hb2⟩; have HB2 := zA_ (show Below w.heap.size w w2 from below_then βGb (below_size βGb) hb2); have hkB := blk_below (by exact HWB.out) hb2; have hkN := blk_below (by exact HWN.out) hb2; have HKB := zA_ hkB; have q0 : w2.cell? ⟨w.heap.size, 0, none⟩ = some (.slice A0_0 l0_0.length c0_0) := (blk_cell hkB 0).trans rfl; have q1 : w2.cell? ⟨w.heap.size, 1, none⟩ = some (.slice (some ad) l0_1.length c0_1) := (blk_cell hkB 1).trans rfl; have m0 : w2.cell? ⟨wr.heap.size, 0, none⟩ = some (.int .i64 x.f0) := (blk_cell hkN 0).trans rfl; have m1 : w2.cell? ⟨wr.heap.size, 1, none⟩ = some (.string x.f1) := (blk_cell hkN 1).trans rfl; clear hb2 hkB hkN) | (go_at_call 87; refine (impl_Flash_dirty.calls A0_0 c0_0 l0_0 (some ad) c0_1 l0_1 x.f0 tv _ (Kd.C_below HR0.out βHb) HC0.out (Kd.C_below HR1.out βHb) HC1.out HT.out).mono ?_; rintro e w3 ⟨rfl, hb3⟩; have HB3 := zA_ (show Below w.heap.size w w3 from below_then βHb (below_size βHb) hb3); have HKB3 := zA_ (blk_below (by exact HKB.out) hb3); clear hb3))
                go_roundg (l0_1.length - (kk + 1))
                case measure => have := HG.out; omega
                case rel => exact ⟨kk + 1, (by rw [e27]), ⟨(by omega)⟩, ⟨Nat.le_refl _⟩, HB3, HKB3, ⟨(by have e : ((kk + 1 : Nat) : Int) = (kk : Int) + 1 := (by omega); rw [HS.out, e])⟩⟩
         · have hltz : decide ((kk : Int) < (l0_1.length : Int)) = false := decide_eq_false (by omega)
           have hk : kk = l0_1.length := by have := HK.out; omega
           have HS2 := HS.out
           rw [hk, List.drop_length, impl_isFlash.scan] at HS2
           go_wp2
           go_ret
           exact ⟨(by rw [HS2]; rfl), HB.out⟩
     · have h2b : decide ((l0_1.length : Int) > (l0_0.length : Int)) = true := decide_eq_true (by omega)
       have h2c : decide (l0_0.length < l0_1.length) = true := decide_eq_true (by omega)
       rw [decide_eq_false h2]
       clear h1 hbig h2
       go_enter Try.func48, Try.ntmps48
       go_wp2_with (first
        | (go_at_call 84; refine (impl_size_string.calls A0_0 c0_0 l0_0 _ _ βyb HC0.out HS.out).mono ?_; rintro e w1 ⟨rfl, ⟨n1, rfl⟩⟩)
        | (go_at_call 64; refine (impl_within.calls _ _ _ _ _ HD.out).mono ?_; rintro e w1 ⟨rfl, ⟨n2, rfl⟩⟩))
       go_ret
       exact ⟨rfl, βDb⟩
   · have HD := zA_ (impl_isFlash.within_ (l0_0.length : Int) 1 40 false (decide_eq_false h1))
     rw [decide_eq_false h1]
     clear h1 hbig
     go_enter Try.func48, Try.ntmps48
     go_wp2_with (first
      | (go_at_call 84; refine (impl_size_string.calls A0_0 c0_0 l0_0 _ _ βyb HC0.out HS.out).mono ?_; rintro e w1 ⟨rfl, ⟨n1, rfl⟩⟩)
      | (go_at_call 64; refine (impl_within.calls _ _ _ _ _ HD.out).mono ?_; rintro e w1 ⟨rfl, ⟨n2, rfl⟩⟩))
     go_ret
     exact ⟨rfl, βDb⟩
 · rw [if_neg hbig] at h; cases h
def slices_Clone_string_string.f (l0 : List ByteArray) : Option (List ByteArray) := if l0.length * 16 ≤ 140737488355328 then some l0 else none
theorem slices_Clone_string_string.some_ (ad : Addr) (c0 : Nat) (l0 : List ByteArray) (w : World) (hr0 : Kd.C Kd.string w (some ad) l0.length l0) (hc0 : l0.length ≤ c0) (hb : l0.length * 16 ≤ 140737488355328) :
 Calls Try.prog 88 #[.slice (some ad) l0.length c0] w fun e w' => ∃ v0_ : Value, e = .returned (v0_) ∧ Kd.R Kd.string 9 w' w.heap.size (fun _ => True) v0_ l0 ∧ Below w.heap.size w w' := by
 have HR0 := zA_ hr0
 have HC0 := zA_ hc0
 have HL := zA_ hb
 clear hr0 hc0 hb
 have HB := zA_ (Below.refl w.heap.size w)
 obtain ⟨y1, hy1⟩ : ∃ y_ : List ByteArray, y_ = ([] : List ByteArray) := ⟨_, rfl⟩
 have Ny1 := zA_ hy1
 clear hy1
 have hq : ∀ W : World, (binOp .eql 23 (.slice (some ad) l0.length c0) (.slice none 0 0)).run Try.prog W = .ok (.bool false) W := fun W => Lib.run_eql_slice_nil W _ _ (some ad) _ _ _ _ Try.underlying23
 go_enter Try.func88, Try.ntmps88
 go_wp2_with (first | ((with_reducible refine gate_dst (N := 5) rfl ?_); refine Kd.R_lit Kd.string _ 9 ?hg (N := 5) ?hd (xs := ([] : List ByteArray)) (inner := []) (ok := fun _ => True) (okp := fun _ => True) ?hr ?hp (fun _ hk => hk) trivial (Below.refl _ _) (Nat.le_refl _) (by simp) ?_; (case hd => exact (by rfl)); (case hg => exact (by rfl)); (case hr => exact βMb); (case hp => exact (Reps.none _ _)); intro v2 w2 ho3 hb hg_ hnew_; clear hg_ hnew_; (first | rw [← Ny1.out] at ho3 | (simp only [Int.reduceToNat] at ho3; rw [← Ny1.out] at ho3)); have HO3 := zA_ (Kd.R_lower ho3 (below_size (zh_ HB.out))); replace HB := zA_ (below_step (zh_ HB.out) hb); clear hb ho3) | ((with_reducible refine gate_builtin (b := .append) (xs := #[.tmp 5, .tmp 6]) rfl ?_); at_builtin; refine Kd.R_append_rows Kd.string (w0 := w) w.heap.size rfl (.tmp 5) (.tmp 6) 23 9 (.string ⟨#[]⟩) 16 rfl Try.underlying23 info9 rfl (by decide) (by omega) v2 y1 l0 _ _ _ (fun _ => True) (fun _ => False) rfl rfl ?aO ?aR (fun _ _ h => h) (fun _ h => h.elim) ?aF ?aB ?aS ?aL ?_; (case aR => exact βob); (case aB => exact (zh_ HB.out)); (case aF => exact (fun _ _ => trivial)); (case aO => exact (zr_ HO3.out)); (case aS => exact (below_size (zh_ HB.out))); (case aL => exact (by have h1 := HL.out; have h2 := Ny1.out; subst h2; simpa using h1)); intro v4 w4 ho hb hg hat; replace HB := zA_ (hb); have HO4 := zA_ (ho); clear HO3; clear ho hb hg hat))
 go_ret
 have e1 : y1 ++ l0 = l0 := by rw [Ny1.out, List.nil_append]
 rw [e1] at HO4
 exact ⟨_, rfl, HO4.out, HB.out⟩
theorem slices_Clone_string_string.calls (A0 : Option Addr) (c0 : Nat) (l0 : List ByteArray) (r : List ByteArray) (w : World) (hr0 : Kd.C Kd.string w A0 l0.length l0) (hc0 : l0.length ≤ c0) (h : slices_Clone_string_string.f l0 = some r) :
 Calls Try.prog 88 #[.slice A0 l0.length c0] w fun e w' => ∃ v0_ : Value, e = .returned (v0_) ∧ Kd.R Kd.string 9 w' w.heap.size (fun _ => True) v0_ r ∧ Below w.heap.size w w' := by
 unfold slices_Clone_string_string.f at h
 by_cases hb : l0.length * 16 ≤ 140737488355328
 · rw [if_pos hb] at h
   obtain rfl := Option.some.inj h
   cases A0 with
   | some ad => exact slices_Clone_string_string.some_ ad c0 l0 w hr0 hc0 hb
   | none =>
    have hl : l0.length = 0 := by
     rcases Nat.eq_zero_or_pos l0.length with h0 | h0
     · exact h0
     · obtain ⟨ad, _, e, _⟩ := Kd.C_get hr0 ByteArray.empty 0 (by omega) (by omega)
       cases e
    obtain rfl : l0 = [] := List.eq_nil_of_length_eq_zero hl
    clear hr0 h hb hl
    have hq : ∀ W : World, (binOp .eql 23 (.slice none 0 c0) (.slice none 0 0)).run Try.prog W = .ok (.bool true) W := fun W => Lib.run_eql_slice_nil W _ _ none _ _ _ _ Try.underlying23
    go_enter Try.func88, Try.ntmps88
    go_wp2
    all_goals (try go_ret)
    all_goals exact ⟨_, rfl, Kd.R_nil _ _ _ _ _, (by repeat (first | exact Below.refl _ _ | apply below_alloc | apply pw_below_drewN | apply below_drew1))⟩
 · rw [if_neg hb] at h; cases h
def slices_Clone_S83.f (l0 : List S83) : Option (List S83) := if l0.length * 24 ≤ 140737488355328 then some l0 else none
theorem slices_Clone_S83.some_ (ad : Addr) (c0 : Nat) (l0 : List S83) (w : World) (hr0 : Kd.C k83 w (some ad) l0.length l0) (hc0 : l0.length ≤ c0) (hb : l0.length * 24 ≤ 140737488355328) :
 Calls Try.prog 89 #[.slice (some ad) l0.length c0] w fun e w' => ∃ v0_ : Value, e = .returned (v0_) ∧ Kd.R k83 83 w' w.heap.size (fun _ => True) v0_ l0 ∧ Below w.heap.size w w' := by
 have HR0 := zA_ hr0
 have HC0 := zA_ hc0
 have HL := zA_ hb
 clear hr0 hc0 hb
 have HB := zA_ (Below.refl w.heap.size w)
 obtain ⟨y1, hy1⟩ : ∃ y_ : List S83, y_ = ([] : List S83) := ⟨_, rfl⟩
 have Ny1 := zA_ hy1
 clear hy1
 have hq : ∀ W : World, (binOp .eql 24 (.slice (some ad) l0.length c0) (.slice none 0 0)).run Try.prog W = .ok (.bool false) W := fun W => Lib.run_eql_slice_nil W _ _ (some ad) _ _ _ _ Try.underlying24
 go_enter Try.func89, Try.ntmps89
 go_wp2_with (first | ((with_reducible refine gate_dst (N := 5) rfl ?_); refine Kd.R_lit k83 _ 83 ?hg (N := 5) ?hd (xs := ([] : List S83)) (inner := []) (ok := fun _ => True) (okp := fun _ => True) ?hr ?hp (fun _ hk => hk) trivial (Below.refl _ _) (Nat.le_refl _) (by simp) ?_; (case hd => exact (by rfl)); (case hg => exact (by rfl)); (case hr => exact βMb); (case hp => exact (Reps.none _ _)); intro v2 w2 ho3 hb hg_ hnew_; clear hg_ hnew_; (first | rw [← Ny1.out] at ho3 | (simp only [Int.reduceToNat] at ho3; rw [← Ny1.out] at ho3)); have HO3 := zA_ (Kd.R_lower ho3 (below_size (zh_ HB.out))); replace HB := zA_ (below_step (zh_ HB.out) hb); clear hb ho3) | ((with_reducible refine gate_builtin (b := .append) (xs := #[.tmp 5, .tmp 6]) rfl ?_); at_builtin; refine Kd.R_append_rows k83 (w0 := w) w.heap.size rfl (.tmp 5) (.tmp 6) 24 83 (.agg #[(.int .i64 0), (.string ⟨#[]⟩)]) 24 rfl Try.underlying24 info83 rfl (by decide) (by omega) v2 y1 l0 _ _ _ (fun _ => True) (fun _ => False) rfl rfl ?aO ?aR (fun _ _ h => h) (fun _ h => h.elim) ?aF ?aB ?aS ?aL ?_; (case aR => exact βob); (case aB => exact (zh_ HB.out)); (case aF => exact (fun _ _ => trivial)); (case aO => exact (zr_ HO3.out)); (case aS => exact (below_size (zh_ HB.out))); (case aL => exact (by have h1 := HL.out; have h2 := Ny1.out; subst h2; simpa using h1)); intro v4 w4 ho hb hg hat; replace HB := zA_ (hb); have HO4 := zA_ (ho); clear HO3; clear ho hb hg hat))
 go_ret
 have e1 : y1 ++ l0 = l0 := by rw [Ny1.out, List.nil_append]
 rw [e1] at HO4
 exact ⟨_, rfl, HO4.out, HB.out⟩
theorem slices_Clone_S83.calls (A0 : Option Addr) (c0 : Nat) (l0 : List S83) (r : List S83) (w : World) (hr0 : Kd.C k83 w A0 l0.length l0) (hc0 : l0.length ≤ c0) (h : slices_Clone_S83.f l0 = some r) :
 Calls Try.prog 89 #[.slice A0 l0.length c0] w fun e w' => ∃ v0_ : Value, e = .returned (v0_) ∧ Kd.R k83 83 w' w.heap.size (fun _ => True) v0_ r ∧ Below w.heap.size w w' := by
 unfold slices_Clone_S83.f at h
 by_cases hb : l0.length * 24 ≤ 140737488355328
 · rw [if_pos hb] at h
   obtain rfl := Option.some.inj h
   cases A0 with
   | some ad => exact slices_Clone_S83.some_ ad c0 l0 w hr0 hc0 hb
   | none =>
    have hl : l0.length = 0 := by
     rcases Nat.eq_zero_or_pos l0.length with h0 | h0
     · exact h0
     · obtain ⟨ad, _, e, _⟩ := Kd.C_get hr0 z83 0 (by omega) (by omega)
       cases e
    obtain rfl : l0 = [] := List.eq_nil_of_length_eq_zero hl
    clear hr0 h hb hl
    have hq : ∀ W : World, (binOp .eql 24 (.slice none 0 c0) (.slice none 0 0)).run Try.prog W = .ok (.bool true) W := fun W => Lib.run_eql_slice_nil W _ _ none _ _ _ _ Try.underlying24
    go_enter Try.func89, Try.ntmps89
    go_wp2
    all_goals (try go_ret)
    all_goals exact ⟨_, rfl, Kd.R_nil _ _ _ _ _, (by repeat (first | exact Below.refl _ _ | apply below_alloc | apply pw_below_drewN | apply below_drew1))⟩
 · rw [if_neg hb] at h; cases h
def impl_cloneFlash.f (l0_0 : List ByteArray) (l0_1 : List (S83)) : Option (List ByteArray × (List (S83))) := (slices_Clone_string_string.f l0_0).bind fun t344 => ((slices_Clone_S83.f l0_1).bind fun t347 => (some (t344, t347)))
def impl_cloneFlash.T1 : Bool × List (List Nat × List Nat) := (true, [([], []), ([0], [0]), ([1], [1]), ([], []), ([3], [3]), ([4, 2], [4]), ([2, 5], [2, 5]), ([6, 5, 0, 1, 2, 3, 4, 5, 6], [6])])
def impl_cloneFlash.B1 : List Nat := [0, 1, 3, 0, 8, 31, 63, 127]
theorem impl_cloneFlash.tab1 : rtab .any (opsOf Try.f50 1) = impl_cloneFlash.T1 := by kernel_rfl
theorem impl_cloneFlash.bits1 : waitsOk impl_cloneFlash.T1.2 impl_cloneFlash.B1 = true := by kernel_rfl
theorem impl_cloneFlash.calls (A0_0 : Option Addr) (c0_0 : Nat) (l0_0 : List ByteArray) (A0_1 : Option Addr) (c0_1 : Nat) (l0_1 : List (S83)) (r1 : List ByteArray) (r2 : List (S83)) (w : World) (hr0_0 : Kd.C Kd.string w A0_0 l0_0.length l0_0) (hc0_0 : l0_0.length ≤ c0_0) (hr0_1 : Kd.C k83 w A0_1 l0_1.length l0_1) (hc0_1 : l0_1.length ≤ c0_1) (h : impl_cloneFlash.f l0_0 l0_1 = some (r1, r2)) :
 Calls Try.prog 50 #[.agg #[.slice A0_0 l0_0.length c0_0, .slice A0_1 l0_1.length c0_1]] w fun e w' => ∃ v0_ v1_ : Value, e = .returned (.agg #[v0_, v1_]) ∧ Kd.R Kd.string 9 w' w.heap.size (fun _ => True) v0_ r1 ∧ Kd.R k83 83 w' w.heap.size (fun _ => True) v1_ r2 ∧ Below w.heap.size w w' := by
 have hu26 := Try.underlying26
 have HR0_0 := zA_ hr0_0
 have HC0_0 := zA_ hc0_0
 clear hr0_0 hc0_0
 have HR0_1 := zA_ hr0_1
 have HC0_1 := zA_ hc0_1
 clear hr0_1 hc0_1
 have HB := zA_ (Below.refl w.heap.size w)
 have H : ((slices_Clone_string_string.f l0_0).bind fun t344 => ((slices_Clone_S83.f l0_1).bind fun t347 => (some (t344, t347)))) = some (r1, r2) := h
 clear h
 replace H := Option.bind_eq_some_iff.mp H
 obtain ⟨t344, A20, H⟩ := H
 (try dsimp -simprocs only at H)
 have A2 := zA_ A20
 clear A20
 replace H := Option.bind_eq_some_iff.mp H
 obtain ⟨t347, A30, H⟩ := H
 (try dsimp -simprocs only at H)
 have A3 := zA_ A30
 clear A30
 simp only [Option.some.injEq, Prod.mk.injEq] at H
 obtain ⟨rfl, rfl⟩ := H
 go_enter Try.func50, Try.ntmps50
 try go_wp2_with (first | ((with_reducible refine gate_dst (N := 1) rfl ?_); refine box_event ?hg (N := 1) ?hd (cs := #[.slice A0_0 l0_0.length c0_0, .slice A0_1 l0_1.length c0_1]) (t := 26) ?hr ?_; (case hd => exact (by rfl)); (case hg => exact (by rfl)); (case hr => exact βMb); intro gb342 hg w4 hbox hb; have BK342 := zA_ (hbox); have GW342 := zA_ ((by rw [hg]; exact (below_size (zh_ HB.out)) : w.heap.size ≤ gb342)); have GE342 := zA_ ((by rw [hg]; exact (below_size (zh_ HB.out)) : w.heap.size ≤ gb342)); replace HB := zA_ (below_step (zh_ HB.out) hb); clear hb hbox hg) | ((with_reducible refine gate_dst (N := 2) rfl ?_); refine box_event ?hg (N := 2) ?hd (cs := #[.slice none 0 0, .slice none 0 0]) (t := 26) ?hr ?_; (case hd => exact (by rfl)); (case hg => exact (by rfl)); (case hr => exact βMb); intro gb343 hg w5 hbox hb; have BK343 := zA_ (hbox); have GW343 := zA_ ((by rw [hg]; exact (below_size (zg1_ HB.out GE342.out)) : w.heap.size ≤ gb343)); have GE343 := zA_ ((by rw [hg]; exact (below_size (zg1_ HB.out GE342.out)) : w.heap.size ≤ gb343)); replace HB := zA_ (below_step (zg1_ HB.out GE342.out) hb); have NB342_343 := zA_ ((by rw [hg]; exact Nat.ne_of_lt (blk_lt (g := gb342) (o := .cells #[.slice A0_0 l0_0.length c0_0, .slice A0_1 l0_1.length c0_1] 26 (0, 0)) (zb_ BK342.out)) : gb342 ≠ gb343)); have NB343_342 := zA_ ((by rw [hg]; exact Nat.ne_of_gt (blk_lt (g := gb342) (o := .cells #[.slice A0_0 l0_0.length c0_0, .slice A0_1 l0_1.length c0_1] 26 (0, 0)) (zb_ BK342.out)) : gb343 ≠ gb342)); replace BK342 := zB_ BK342.out hb; clear hb hbox hg))
 replace BK342 := zA_ (blk_drew BK342.out)
 replace BK343 := zA_ (blk_drew BK343.out)
 replace HB := zA_ (below_drew1 HB.out)
 refine start_ (n := 8) (S := fun w' => w'.cell? ⟨gb342, 0, none⟩ = some (.slice A0_0 l0_0.length c0_0) ∧ w'.cell? ⟨gb342, 1, none⟩ = some (.slice A0_1 l0_1.length c0_1)) (ds := []) (mr_ [0, 8]) βPb rfl rfl ⟨cy_ BK342.out 0, cy_ BK342.out 1⟩ (fun hHeld => ?_); refine with_tabW impl_cloneFlash.tab1 impl_cloneFlash.bits1 (fun HT_ HW_ => ?_)
 generalize w5.drew = w6 at BK342 BK343 HB hHeld ⊢
 refine pure_ (i := 0) (N := some 3) (v := ?_) (a' := ?_) (mr_ [1, 7]) rfl rfl (any_of HT_.out βPb) (fun _ _ _ h => h) (Or.inl ⟨(by rfl), ?_⟩) ?_ ?_
 rotate_left; exact pv_; rotate_left; exact pp_
 refine pure_ (i := 3) (N := some 6) (v := ?_) (a' := ?_) (mr_ [1, 2, 1, 4]) rfl rfl (any_of HT_.out βPb) (fun _ _ _ h => h) (Or.inl ⟨(by rfl), ?_⟩) ?_ ?_
 rotate_left; exact pv_; rotate_left; exact pp_
 refine take_ (i := 1) (N := some 4) (v := ?_) (a' := ?_) (mr_ [2, 1, 1, 4]) rfl rfl (take_ofW HT_.out HW_.out βPb) (fun _ _ _ h => h) (Or.inl ⟨(by rfl), ?_⟩) hHeld ?_ ?_
 rotate_left
 · rintro w' ⟨s0, s1⟩
   go_simp
   with_reducible rfl
 rotate_left
 exact pp_
 refine take_ (i := 4) (N := some 7) (v := ?_) (a' := ?_) (mr_ [2, 1, 2, 3]) rfl rfl (take_ofW HT_.out HW_.out βPb) (fun _ _ _ h => h) (Or.inl ⟨(by rfl), ?_⟩) hHeld ?_ ?_
 rotate_left
 · rintro w' ⟨s0, s1⟩
   go_simp
   with_reducible rfl
 rotate_left
 exact pp_
 refine one_ (i := 2) (N := some 5) (mr_ [5, 3]) rfl rfl (one_of HT_.out βPb) (by decide) (fun K hK => ?_)
 refine goes_ Try.func88 βPb rfl #[.slice A0_0 l0_0.length c0_0] (by rfl) rfl rfl zs_ ?_
 with_reducible refine (slices_Clone_string_string.calls _ _ l0_0 t344 _ ?side1 ?side2 A2.out).mono ?_
 (case side1 => exact zc_ (Kd.C_below HR0_0.out HB.out))
 (case side2 => exact HC0_0.out)
 rintro e w7 ⟨v345, rfl, ho0, hb⟩
 refine ⟨_, rfl, ?_⟩
 have HO346 := zA_ (Kd.R_lower ho0 (below_size (zg2_ HB.out GE342.out GE343.out)))
 replace BK342 := zB_ BK342.out hb
 replace BK343 := zB_ BK343.out hb
 replace HB := zA_ (below_step (zg2_ HB.out GE342.out GE343.out) hb)
 (try clear hb)
 (try clear hb2)
 (try clear hk)
 (try clear hi)
 (try clear ho0)
 refine hK.out _ _ ⟨cy_ BK342.out 0, cy_ BK342.out 1⟩ (fun hHeld => ?_)
 clear hK K
 refine norm_ (a' := ?_) ?_ ?_
 rotate_left
 · show Act.put _ (some 5) _ = _
   simp only [Act.put, List.setIfInBounds_toArray, List.set_cons_zero, List.set_cons_succ, i64_w, i32_w]
   rfl
 refine one_ (i := 5) (N := some 8) (mr_ [6, 2]) rfl rfl (one_of HT_.out βPb) (by decide) (fun K hK => ?_)
 refine goes_ Try.func89 βPb rfl #[.slice A0_1 l0_1.length c0_1] (by rfl) rfl rfl zs_ ?_
 with_reducible refine (slices_Clone_S83.calls _ _ l0_1 t347 _ ?side1 ?side2 A3.out).mono ?_
 (case side1 => exact zc_ (Kd.C_below HR0_1.out HB.out))
 (case side2 => exact HC0_1.out)
 rintro e w8 ⟨v348, rfl, ho0, hb⟩
 refine ⟨_, rfl, ?_⟩
 replace HO346 := zR_ HO346.out hb
 have HO349 := zA_ (Kd.R_lower ho0 (below_size (zg2_ HB.out GE342.out GE343.out)))
 replace BK342 := zB_ BK342.out hb
 replace BK343 := zB_ BK343.out hb
 replace HB := zA_ (below_step (zg2_ HB.out GE342.out GE343.out) hb)
 (try clear hb)
 (try clear hb2)
 (try clear hk)
 (try clear hi)
 (try clear ho0)
 obtain ⟨Ao9, co9, eo9⟩ := Kd.R_slice HO349.out
 (first | subst eo9 | (injection eo9 with f1_ f2_ f3_; have f4_ := f1_.symm; have f5_ := f3_.symm; clear f1_ f2_ f3_; subst f4_; subst f5_))
 obtain ⟨Ao10, co10, eo10⟩ := Kd.R_slice HO346.out
 (first | subst eo10 | (injection eo10 with f1_ f2_ f3_; have f4_ := f1_.symm; have f5_ := f3_.symm; clear f1_ f2_ f3_; subst f4_; subst f5_))
 refine hK.out _ _ ⟨cy_ BK342.out 0, cy_ BK342.out 1⟩ (fun hHeld => ?_)
 clear hK K
 refine norm_ (a' := ?_) ?_ ?_
 rotate_left
 · show Act.put _ (some 8) _ = _
   simp only [Act.put, List.setIfInBounds_toArray, List.set_cons_zero, List.set_cons_succ, i64_w, i32_w]
   rfl
 refine pure_ (i := 6) (N := some 9) (v := ?_) (a' := ?_) (mr_ [7, 1]) rfl rfl (any_of HT_.out βPb) (fun _ _ _ h => h) (Or.inl ⟨(by rfl), ?_⟩) ?_ ?_
 rotate_left; exact pv_; rotate_left; exact pp_
 refine one_ (i := 7) (N := none) (mr_ [8]) rfl rfl (one_of HT_.out βPb) (by decide) (fun K hK => ?_)
 have hs11 := cz_ BK343.out 0 (.slice none 0 0) rfl
 have hfs11 := blk_frozen BK343.out 0
 have hns11_0 := NB342_343.out
 have hms11_0 := NB343_342.out
 have hs12 := cz_ BK343.out 1 (.slice none 0 0) rfl
 have hfs12 := blk_frozen BK343.out 1
 have hns12_0 := NB342_343.out
 have hms12_0 := NB343_342.out
 refine skip_ (w1 := ?_) (by rfl) rfl ?_ ?_
 rotate_left
 · go_simp
   rfl
 refine hK.out _ _ ⟨((cell_far (p := ⟨gb343, _, none⟩) NB342_343.out _).trans (((cell_far (p := ⟨gb343, _, none⟩) NB342_343.out _).trans (hHeld.1)))), ((cell_far (p := ⟨gb343, _, none⟩) NB342_343.out _).trans (((cell_far (p := ⟨gb343, _, none⟩) NB342_343.out _).trans (hHeld.2))))⟩ (fun hHeld => ?_)
 clear hK K
 refine done_ (done_of HT_.out βPb) ?_
 try go_wp2
 refine bodyPost_ret (results_cell_row rfl _ _ gb343 26 #[.slice Ao10 t344.length co10, .slice Ao9 t347.length co9] (0, 0) _ rfl (by (with_reducible repeat (first | refine blk_drewN ?_ _ | refine blk_drew ?_ | refine blk_alloc ?_ _)); refine blk_put (cs := #[.slice Ao10 t344.length co10, .slice none 0 0]) ?_ 1 _ rfl; (with_reducible repeat (first | refine blk_drewN ?_ _ | refine blk_drew ?_ | refine blk_alloc ?_ _)); refine blk_put (cs := #[.slice none 0 0, .slice none 0 0]) ?_ 0 _ rfl; (with_reducible repeat (first | refine blk_drewN ?_ _ | refine blk_drew ?_ | refine blk_alloc ?_ _)); exact BK343.out) Try.underlying26 rfl βPb) rfl ?_
 exact ⟨_, _, βFb, (by (with_reducible repeat (first | apply Kd.R_alloc | apply Kd.R_drewN | apply Kd.R_drew)); exact Kd.R_mono (Kd.R_far (p := ⟨gb343, 1, none⟩) (Kd.R_far (p := ⟨gb343, 0, none⟩) (Kd.R_types HO346.out BK343.out (by decide)) (fun _ hk => hk.2) (.slice Ao10 t344.length co10)) (fun _ hk => hk.2) (.slice Ao9 t347.length co9)) (fun _ hk => trivial)), (by (with_reducible repeat (first | apply Kd.R_alloc | apply Kd.R_drewN | apply Kd.R_drew)); exact Kd.R_mono (Kd.R_far (p := ⟨gb343, 1, none⟩) (Kd.R_far (p := ⟨gb343, 0, none⟩) (Kd.R_types HO349.out BK343.out (by decide)) (fun _ hk => hk.2) (.slice Ao10 t344.length co10)) (fun _ hk => hk.2) (.slice Ao9 t347.length co9)) (fun _ hk => trivial)), (by repeat (first | (with_reducible first | exact HB.out | apply below_alloc | apply pw_below_drewN | apply below_drew1 | refine below_set ?_ GE342.out | refine below_set ?_ GE343.out) | exact HB.out))⟩
end Go.Proofs.Ytboobfpmmaaogaa.Q
