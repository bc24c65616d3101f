/- For each Go function that the laws of this text reach: a Lean function, and the proof that the Go function returns what the Lean function tells, wherever it tells some value. Written by a program of this session. -/
import Derived.Test.YtibnmnkembbgeaaKFnExactFlashCrash0
import Derived.Test.YtibnmnkembbgeaaKFnExactFlashCrash3
namespace Go.Proofs.Ytibnmnkembbgeaa.Q
open Go.RowKit Go.Proofs.YtibnmnkembbgeaaW.PrintWords Go.Proofs.YtibnmnkembbgeaaW.PrintLast Go.Proofs.YtibnmnkembbgeaaW.PrintMore
attribute [local go_sem] max2_int min2_int max_two min_two max_three min_three max_four min_four Instr.field asAgg   -- for this text's walks alone
set_option linter.unusedVariables false
set_option linter.unusedSimpArgs false
/-! ### impl_isFlash: function 74 -/
set_option maxHeartbeats 8000000 in
/-- A loop over texts with a predicate that keeps I. -/
theorem slices_IndexFunc_s.calls (I : World → Prop) (p : ByteArray → Bool) (g : Nat) (cap : Array Value) (eg : ∀ args w, (callFunc g args).run Try.prog w = .ok (.enter g args) w) (Ad : Option Addr) (c : Nat) (l : List ByteArray) (w : World)
  (hR : Kd.string.C w Ad l.length l) (hc : l.length ≤ c) (hbig : l.length ≤ 9223372036854775807) (hw : I w) (hI : ∀ W, I W → Below w.heap.size w W)
  (hp : ∀ (W : World), I W → ∀ x ∈ l, Calls Try.prog g (#[.string x] ++ cap) W fun e w' => e = .returned (.bool (p x)) ∧ I w') :
  Calls Try.prog 143 #[.slice Ad l.length c, .func (.func g) #[] cap] w fun e w' => e = .returned (.int .i64 (idxFrom p l 0)) ∧ I w' := by
 have HR := Aside0.mk hR
 clear hR
 go_enter Try.func143, Try.ntmps143
 go_wp2
 go_loopg [5, 8] l.length (fun gg _ s8 wr => ∃ kk : Nat, kk ≤ l.length ∧ l.length - kk ≤ gg ∧ s8 = .int .i64 kk ∧ Aside0 (I wr) ∧ Aside0 (idxFrom p l 0 = idxFrom p (l.drop kk) kk))
 case atStart => exact ⟨0, Nat.zero_le _, by omega, rfl, ⟨hw⟩, ⟨by simp⟩⟩
 case round =>
  obtain ⟨kk, hkk, hg, rfl, IW, IX⟩ := hrel
  by_cases hlt : kk < l.length
  ·
   have hltz : (kk : Int) < (l.length : Int) := by omega
   obtain ⟨ad, rfl, hx⟩ := Kd.at_string HR.out (kk : Int) (by omega) hltz
   have hx' := ((hI wr IW.out).cell (World.block_lt_of_cell? _ _ hx)).trans hx
   have hy : rdOf ByteArray.empty l (kk : Int) = l[kk] := by simp [rdOf, hlt]
   rw [hy] at hx hx'
   simp only [Int.toNat_natCast, Nat.mul_one] at hx'
   have hcall := hp wr IW.out l[kk] (List.getElem_mem hlt)
   have IX2 := IX.out
   rw [idxFrom_drop l kk hlt, idxFrom] at IX2
   clear hp IX hy hx
   generalize l[kk] = y at hx' hcall IX2
   have IX3 := Aside0.mk IX2
   clear IX2
   cases hq : p y with
   | true =>
    rw [hq] at hcall
    go_wp2_with (go_at_fn g; refine hcall.mono ?_; rintro e w' ⟨rfl, hb'⟩)
    go_ret
    exact ⟨by rw [IX3.out, if_pos hq]; rfl, hb'⟩
   | false =>
    rw [hq] at hcall
    go_wp2_with (go_at_fn g; refine hcall.mono ?_; rintro e w' ⟨rfl, hb'⟩)
    go_roundg (l.length - (kk + 1))
    case measure => omega
    case rel => exact ⟨kk + 1, by omega, by omega, by go_num, ⟨hb'⟩, ⟨by rw [IX3.out, hq]; simp⟩⟩
  ·
   have hltz : ¬ (kk : Int) < (l.length : Int) := by omega
   have : kk = l.length := by omega
   subst this
   go_wp2
   go_ret
   exact ⟨by rw [IX.out]; simp [idxFrom], IW.out⟩

set_option maxHeartbeats 8000000 in
theorem slices_ContainsFunc_s.calls (I : World → Prop) (p : ByteArray → Bool) (g : Nat) (cap : Array Value) (eg : ∀ args w, (callFunc g args).run Try.prog w = .ok (.enter g args) w) (Ad : Option Addr) (c : Nat) (l : List ByteArray) (w : World)
  (hR : Kd.string.C w Ad l.length l) (hc : l.length ≤ c) (hbig : l.length ≤ 9223372036854775807) (hw : I w) (hI : ∀ W, I W → Below w.heap.size w W)
  (hp : ∀ (W : World), I W → ∀ x ∈ l, Calls Try.prog g (#[.string x] ++ cap) W fun e w' => e = .returned (.bool (p x)) ∧ I w') :
  Calls Try.prog 127 #[.slice Ad l.length c, .func (.func g) #[] cap] w fun e w' => e = .returned (.bool (l.any p)) ∧ I w' := by
 have hcon := slices_IndexFunc_s.calls I p g cap eg Ad c l w hR hc hbig hw hI hp
 have hn := Aside0.mk (idxFrom_nonneg p l 0 (by omega))
 clear hp hR
 generalize idxFrom p l 0 = r at hcon hn
 go_enter Try.func127, Try.ntmps127
 go_wp2_with (go_at_call 143; refine hcon.mono ?_; rintro e w' ⟨rfl, hb'⟩)
 go_ret
 refine ⟨?_, hb'⟩
 have : decide (0 ≤ r) = l.any p := by rw [Bool.eq_iff_iff, decide_eq_true_iff]; exact hn.out
 rw [← this]; rfl
theorem slices_ContainsFunc_s.quiet (p : ByteArray → Bool) (g : Nat) (cap : Array Value) (eg : ∀ args w, (callFunc g args).run Try.prog w = .ok (.enter g args) w) (Ad : Option Addr) (c : Nat) (l : List ByteArray) (w : World)
  (hR : Kd.string.C w Ad l.length l) (hc : l.length ≤ c) (hbig : l.length ≤ 9223372036854775807)
  (hp : ∀ (W : World), ∀ x ∈ l, Calls Try.prog g (#[.string x] ++ cap) W fun e w' => e = .returned (.bool (p x)) ∧ Drawn0 W w') :
  Calls Try.prog 127 #[.slice Ad l.length c, .func (.func g) #[] cap] w fun e w' => e = .returned (.bool (l.any p)) ∧ Drawn0 w w' :=
 slices_ContainsFunc_s.calls (fun W => Drawn0 w W) p g cap eg Ad c l w hR hc hbig ⟨0, rfl⟩ (fun W ⟨⟨n, hn⟩⟩ => by rw [hn]; exact pw_below_drewN (Below.refl _ _) n)
  (fun W ⟨⟨n, hn⟩⟩ x hx => (hp W x hx).mono fun e w' ⟨he, ⟨m, hm⟩⟩ => ⟨he, ⟨n + m, by rw [hm, hn]; exact World.drewN_drewN _ _ _⟩⟩)

def impl_isFlash.long (s : ByteArray) : Bool := decide ((s.size : Int) > 96)
def impl_isFlash.has (n : Int) (a : Int) : Bool := decide (0 ≤ a ∧ a ≤ n - 1)
def impl_isFlash.scan (n : Int) (L : List S92) : List S92 → Int → Bool
 | [], _ => true
 | x :: r, i => if impl_isFlash.has n x.f0 = true then (if (x.f1.size : Int) > 96 then false else if idxFrom (impl_Flash_dirty.is x.f0) L 0 < i then false else impl_isFlash.scan n L r (i + 1)) else false
def impl_isFlash.head (l0_0 : List ByteArray) (l0_1 : List S92) : Bool := decide (1 ≤ (l0_0.length : Int) ∧ (l0_0.length : Int) ≤ 40) && (decide ((l0_1.length : Int) ≤ (l0_0.length : Int)) && !(l0_0.any impl_isFlash.long))
def impl_isFlash.f (l0_0 : List ByteArray) (l0_1 : List S92) : Option Bool :=
 if l0_0.length ≤ 9223372036854775807 ∧ l0_1.length ≤ 9223372036854775807 then some (impl_isFlash.head l0_0 l0_1 && impl_isFlash.scan l0_0.length l0_1 l0_1 0) else none
theorem impl_isFlash.pred (s : ByteArray) (W : World) : Calls Try.prog 128 #[.string s] W fun e w' => e = .returned (.bool (impl_isFlash.long s)) ∧ Drawn0 W w' := by
 unfold impl_isFlash.long
 go_enter Try.func128, Try.ntmps128
 go_wp2
 all_goals (go_ret; exact ⟨rfl, ⟨0, rfl⟩⟩)
theorem impl_isFlash.within_ (a lo hi : Int) (d : Bool) (hd : decide (lo ≤ a ∧ a ≤ hi) = d) : impl_within.f a lo hi = some d := by
 rw [← hd]
 unfold impl_within.f
 by_cases h1 : a ≥ lo
 ·
  rw [if_pos h1]; congr 1; rw [Bool.eq_iff_iff]; simp; omega
 ·
  rw [if_neg h1]; congr 1; rw [eq_comm, decide_eq_false_iff_not]; omega
set_option maxHeartbeats 8000000 in
set_option maxRecDepth 100000 in
theorem impl_isFlash.calls (A0_0 : Option Addr) (c0_0 : Nat) (l0_0 : List ByteArray) (A0_1 : Option Addr) (c0_1 : Nat) (l0_1 : List S92) (r : Bool) (w : World) (hr0_0 : Kd.C Kd.string w A0_0 l0_0.length l0_0) (hc0_0 : l0_0.length ≤ c0_0) (hr0_1 : Kd.C k92 w A0_1 l0_1.length l0_1) (hc0_1 : l0_1.length ≤ c0_1) (h : impl_isFlash.f l0_0 l0_1 = some r) :
  Calls Try.prog 74 #[.agg #[.slice A0_0 l0_0.length c0_0, .slice A0_1 l0_1.length c0_1]] w fun e w' => e = .returned (.bool r) ∧ Below w.heap.size w w' := by
 unfold impl_isFlash.f at h
 by_cases hbig : l0_0.length ≤ 9223372036854775807 ∧ l0_1.length ≤ 9223372036854775807
 ·
  rw [if_pos hbig] at h
  obtain rfl := Option.some.inj h
  clear h
  have HBIG := Aside0.mk hbig
  have hu30 := Try.underlying30
  have HR0 := Aside0.mk hr0_0
  have HC0 := Aside0.mk hc0_0
  have HR1 := Aside0.mk hr0_1
  have HC1 := Aside0.mk hc0_1
  have HS := Aside0.mk (show impl_size_string.f l0_0 = some (l0_0.length : Int) from rfl)
  have eg : ∀ args w, (callFunc 128 args).run Try.prog w = .ok (.enter 128 args) w := enters_of Try.func128 (by kernel_rfl) rfl
  have hcon := fun W hR => slices_ContainsFunc_s.quiet impl_isFlash.long 128 #[] eg A0_0 c0_0 l0_0 W hR hc0_0 hbig.1 (fun W x _ => impl_isFlash.pred x W)
  clear hr0_0 hc0_0 hr0_1 hc0_1 eg
  unfold impl_isFlash.head
  by_cases h1 : 1 ≤ (l0_0.length : Int) ∧ (l0_0.length : Int) ≤ 40
  ·
   have HD := Aside0.mk (impl_isFlash.within_ (l0_0.length : Int) 1 40 true (decide_eq_true h1))
   rw [decide_eq_true h1, Bool.true_and]
   by_cases h2 : (l0_1.length : Int) ≤ (l0_0.length : Int)
   ·
    have h2b : decide ((l0_1.length : Int) > (l0_0.length : Int)) = false := decide_eq_false (by omega)
    have h2c : decide (l0_0.length < l0_1.length) = false := decide_eq_false (by omega)
    rw [decide_eq_true h2, Bool.true_and]
    clear h1 hbig h2
    generalize l0_0.any impl_isFlash.long = v at hcon ⊢
    cases v with
    | true =>
     go_enter Try.func74, Try.ntmps74
     go_wp2_with (first
      | (go_at_call 126; refine (impl_size_string.calls A0_0 c0_0 l0_0 _ _ (by repeat (first | exact HR0.out | (with_reducible refine Kd.C_alloc ?_ _) | (with_reducible refine Kd.C_drewN ?_ _) | (with_reducible refine Kd.C_drew ?_))) HC0.out HS.out).mono ?_; rintro e w1 ⟨rfl, ⟨n1, rfl⟩⟩)
      | (go_at_call 116; refine (impl_within.calls _ _ _ _ _ HD.out).mono ?_; rintro e w1 ⟨rfl, ⟨n2, rfl⟩⟩)
      | (go_at_call 127; refine (hcon _ (by repeat (first | exact HR0.out | (with_reducible refine Kd.C_alloc ?_ _) | (with_reducible refine Kd.C_drewN ?_ _) | (with_reducible refine Kd.C_drew ?_)))).mono ?_; rintro e w' ⟨rfl, ⟨n3, rfl⟩⟩))
     go_ret
     exact ⟨rfl, by repeat (first | exact Below.refl _ _ | apply pw_below_drewN | apply below_drew1 | apply below_alloc)⟩
    | false =>
     have HB0 := Aside0.mk (blk_new w (.cells #[.slice A0_0 l0_0.length c0_0, .slice A0_1 l0_1.length c0_1] 30))
     go_enter Try.func74, Try.ntmps74
     go_wp2_with (first
      | (go_at_call 126; refine (impl_size_string.calls A0_0 c0_0 l0_0 _ _ (by repeat (first | exact HR0.out | (with_reducible refine Kd.C_alloc ?_ _) | (with_reducible refine Kd.C_drewN ?_ _) | (with_reducible refine Kd.C_drew ?_))) HC0.out HS.out).mono ?_; rintro e w1 ⟨rfl, ⟨n1, rfl⟩⟩)
      | (go_at_call 116; refine (impl_within.calls _ _ _ _ _ HD.out).mono ?_; rintro e w1 ⟨rfl, ⟨n2, rfl⟩⟩)
      | (go_at_call 127; refine (hcon _ (by repeat (first | exact HR0.out | (with_reducible refine Kd.C_alloc ?_ _) | (with_reducible refine Kd.C_drewN ?_ _) | (with_reducible refine Kd.C_drew ?_)))).mono ?_; rintro e w' ⟨rfl, ⟨n3, rfl⟩⟩))
     clear hcon h2b h2c HD HS
     go_loopg [3, 4, 27] l0_1.length (fun gg _ _ v27 wr => ∃ kk : Nat, v27 = .int .i64 kk ∧ Aside0 (kk ≤ l0_1.length) ∧ Aside0 (l0_1.length - kk ≤ gg) ∧ Aside0 (Below w.heap.size w wr) ∧ Aside0 (wr.heap[w.heap.size]? = some (.cells #[.slice A0_0 l0_0.length c0_0, .slice A0_1 l0_1.length c0_1] 30 (0, 0))) ∧ Aside0 (impl_isFlash.scan l0_0.length l0_1 l0_1 0 = impl_isFlash.scan l0_0.length l0_1 (l0_1.drop kk) kk))
     case atStart => exact ⟨0, rfl, ⟨Nat.zero_le _⟩, ⟨Nat.le_refl _⟩, ⟨by repeat (first | exact Below.refl _ _ | apply pw_below_drewN | apply below_drew1 | apply below_alloc)⟩, HB0, ⟨rfl⟩⟩
     case round =>
      clear HB0
      obtain ⟨kk, rfl, HK, HG, HB, HX, HS⟩ := hrel
      by_cases hlt : kk < l0_1.length
      ·
       have hltz : decide ((kk : Int) < (l0_1.length : Int)) = true := decide_eq_true (by omega)
       have p0 : (0 : Int) ≤ (kk : Int) := by omega
       have qq0 : (kk : Int) < (l0_1.length : Int) := by omega
       obtain ⟨ad, rfl, hx0, hx1⟩ := at_T92 HR1.out (kk : Int) p0 qq0
       have hy : rd_T92 l0_1 (kk : Int) = l0_1[kk] := by simp [rd_T92, hlt]
       rw [hy] at hx0; replace hx0 := (HB.out.cell (World.block_lt_of_cell? _ _ hx0)).trans hx0; simp only [Int.toNat_natCast] at hx0
       rw [hy] at hx1; replace hx1 := (HB.out.cell (World.block_lt_of_cell? _ _ hx1)).trans hx1; simp only [Int.toNat_natCast] at hx1
       have HS2 := HS.out
       rw [idxFrom_drop l0_1 kk hlt, impl_isFlash.scan] at HS2
       clear HS hy
       generalize l0_1[kk] = x at hx0 hx1 HS2
       have hh : impl_Flash_has.f l0_0 l0_1 x.f0 = some (impl_isFlash.has l0_0.length x.f0) := by
        unfold impl_Flash_has.f
        rw [show impl_size_string.f l0_0 = some (l0_0.length : Int) from rfl, Option.bind_some, show wrap64 ((l0_0.length : Int) - 1) = (l0_0.length : Int) - 1 from by have := HBIG.out; unfold wrap64; omega, impl_isFlash.within_ x.f0 0 ((l0_0.length : Int) - 1) _ rfl]
        rfl
       have htch : impl_Flash_dirty.f l0_0 l0_1 x.f0 = some (idxFrom (impl_Flash_dirty.is x.f0) l0_1 0) := by unfold impl_Flash_dirty.f; rw [if_pos HBIG.out.2]
       have e27 : wrap64 ((kk : Int) + 1) = ((kk + 1 : Nat) : Int) := by have := HBIG.out; unfold wrap64; omega
       generalize idxFrom (impl_Flash_dirty.is x.f0) l0_1 0 = tv at htch HS2
       generalize impl_isFlash.has l0_0.length x.f0 = hv at hh HS2
       have HT := Aside0.mk htch
       have HH := Aside0.mk hh
       have HWB := Aside0.mk (blk_alloc HX.out (.cells #[.int .i64 x.f0, .string x.f1] 92))
       have HWN := Aside0.mk (blk_new wr (.cells #[.int .i64 x.f0, .string x.f1] 92))
       have hb0 : ∀ o, (wr.alloc o).cell? ⟨w.heap.size, 0, none⟩ = some (.slice A0_0 l0_0.length c0_0) := fun o => (blk_cell (blk_alloc HX.out o) 0).trans rfl
       have hb1 : ∀ o, (wr.alloc o).cell? ⟨w.heap.size, 1, none⟩ = some (.slice (some ad) l0_1.length c0_1) := fun o => (blk_cell (blk_alloc HX.out o) 1).trans rfl
       clear htch hh
       cases hv with
       | false =>
        go_wp2_with (go_at_call 89; refine (impl_Flash_has.calls A0_0 c0_0 l0_0 (some ad) c0_1 l0_1 x.f0 _ _ (Kd.C_below HR0.out (by repeat (first | exact HB.out | apply pw_below_drewN | apply below_drew1 | apply below_alloc))) HC0.out (Kd.C_below HR1.out (by repeat (first | exact HB.out | apply pw_below_drewN | apply below_drew1 | apply below_alloc))) HC1.out HH.out).mono ?_; rintro e w2 ⟨rfl, hb2⟩; have HB2 := Aside0.mk (show Below w.heap.size w w2 from below_then (by repeat (first | exact HB.out | apply pw_below_drewN | apply below_drew1 | apply below_alloc)) (below_size (by repeat (first | exact HB.out | apply pw_below_drewN | apply below_drew1 | apply below_alloc))) hb2); have hkB := blk_below (by exact HWB.out) hb2; have hkN := blk_below (by exact HWN.out) hb2; have HKB := Aside0.mk hkB; have q0 : w2.cell? ⟨w.heap.size, 0, none⟩ = some (.slice A0_0 l0_0.length c0_0) := (blk_cell hkB 0).trans rfl; have q1 : w2.cell? ⟨w.heap.size, 1, none⟩ = some (.slice (some ad) l0_1.length c0_1) := (blk_cell hkB 1).trans rfl; have m0 : w2.cell? ⟨wr.heap.size, 0, none⟩ = some (.int .i64 x.f0) := (blk_cell hkN 0).trans rfl; have m1 : w2.cell? ⟨wr.heap.size, 1, none⟩ = some (.string x.f1) := (blk_cell hkN 1).trans rfl; clear hb2 hkB hkN)
        go_ret
        exact ⟨by rw [HS2]; rfl, HB2.out⟩
       | true =>
        by_cases h9 : (x.f1.size : Int) > 96
        ·
         have hl1 : decide ((x.f1.size : Int) > 96) = true := decide_eq_true h9
         have hl2 : decide (96 < x.f1.size) = true := decide_eq_true (by omega)
         rw [if_pos rfl, if_pos h9] at HS2
         clear h9
         have HS := Aside0.mk HS2
         clear HS2
         go_wp2_with (go_at_call 89; refine (impl_Flash_has.calls A0_0 c0_0 l0_0 (some ad) c0_1 l0_1 x.f0 _ _ (Kd.C_below HR0.out (by repeat (first | exact HB.out | apply pw_below_drewN | apply below_drew1 | apply below_alloc))) HC0.out (Kd.C_below HR1.out (by repeat (first | exact HB.out | apply pw_below_drewN | apply below_drew1 | apply below_alloc))) HC1.out HH.out).mono ?_; rintro e w2 ⟨rfl, hb2⟩; have HB2 := Aside0.mk (show Below w.heap.size w w2 from below_then (by repeat (first | exact HB.out | apply pw_below_drewN | apply below_drew1 | apply below_alloc)) (below_size (by repeat (first | exact HB.out | apply pw_below_drewN | apply below_drew1 | apply below_alloc))) hb2); have hkB := blk_below (by exact HWB.out) hb2; have hkN := blk_below (by exact HWN.out) hb2; have HKB := Aside0.mk hkB; have q0 : w2.cell? ⟨w.heap.size, 0, none⟩ = some (.slice A0_0 l0_0.length c0_0) := (blk_cell hkB 0).trans rfl; have q1 : w2.cell? ⟨w.heap.size, 1, none⟩ = some (.slice (some ad) l0_1.length c0_1) := (blk_cell hkB 1).trans rfl; have m0 : w2.cell? ⟨wr.heap.size, 0, none⟩ = some (.int .i64 x.f0) := (blk_cell hkN 0).trans rfl; have m1 : w2.cell? ⟨wr.heap.size, 1, none⟩ = some (.string x.f1) := (blk_cell hkN 1).trans rfl; clear hb2 hkB hkN)
         go_ret
         exact ⟨by rw [HS.out]; rfl, HB2.out⟩
        ·
         have hl1 : decide ((x.f1.size : Int) > 96) = false := decide_eq_false h9
         have hl2 : decide (96 < x.f1.size) = false := decide_eq_false (by omega)
         rw [if_pos rfl, if_neg h9] at HS2
         clear h9
         by_cases ht : tv < (kk : Int)
         ·
          have htb : decide (tv < (kk : Int)) = true := decide_eq_true ht
          rw [if_pos ht] at HS2
          have HS := Aside0.mk HS2
          clear HS2 ht
          go_wp2_with (first | (go_at_call 89; refine (impl_Flash_has.calls A0_0 c0_0 l0_0 (some ad) c0_1 l0_1 x.f0 _ _ (Kd.C_below HR0.out (by repeat (first | exact HB.out | apply pw_below_drewN | apply below_drew1 | apply below_alloc))) HC0.out (Kd.C_below HR1.out (by repeat (first | exact HB.out | apply pw_below_drewN | apply below_drew1 | apply below_alloc))) HC1.out HH.out).mono ?_; rintro e w2 ⟨rfl, hb2⟩; have HB2 := Aside0.mk (show Below w.heap.size w w2 from below_then (by repeat (first | exact HB.out | apply pw_below_drewN | apply below_drew1 | apply below_alloc)) (below_size (by repeat (first | exact HB.out | apply pw_below_drewN | apply below_drew1 | apply below_alloc))) hb2); have hkB := blk_below (by exact HWB.out) hb2; have hkN := blk_below (by exact HWN.out) hb2; have HKB := Aside0.mk hkB; have q0 : w2.cell? ⟨w.heap.size, 0, none⟩ = some (.slice A0_0 l0_0.length c0_0) := (blk_cell hkB 0).trans rfl; have q1 : w2.cell? ⟨w.heap.size, 1, none⟩ = some (.slice (some ad) l0_1.length c0_1) := (blk_cell hkB 1).trans rfl; have m0 : w2.cell? ⟨wr.heap.size, 0, none⟩ = some (.int .i64 x.f0) := (blk_cell hkN 0).trans rfl; have m1 : w2.cell? ⟨wr.heap.size, 1, none⟩ = some (.string x.f1) := (blk_cell hkN 1).trans rfl; clear hb2 hkB hkN) | (go_at_call 129; refine (impl_Flash_dirty.calls A0_0 c0_0 l0_0 (some ad) c0_1 l0_1 x.f0 tv _ (Kd.C_below HR0.out (by repeat (first | exact HB2.out | apply pw_below_drewN | apply below_drew1))) HC0.out (Kd.C_below HR1.out (by repeat (first | exact HB2.out | apply pw_below_drewN | apply below_drew1))) HC1.out HT.out).mono ?_; rintro e w3 ⟨rfl, hb3⟩; have HB3 := Aside0.mk (show Below w.heap.size w w3 from below_then (by repeat (first | exact HB2.out | apply pw_below_drewN | apply below_drew1)) (below_size (by repeat (first | exact HB2.out | apply pw_below_drewN | apply below_drew1))) hb3); have HKB3 := Aside0.mk (blk_below (by exact HKB.out) hb3); clear hb3))
          go_ret
          exact ⟨by rw [HS.out]; rfl, HB3.out⟩
         ·
          have htb : decide (tv < (kk : Int)) = false := decide_eq_false ht
          rw [if_neg ht] at HS2
          have HS := Aside0.mk HS2
          clear HS2 ht
          go_wp2_with (first | (go_at_call 89; refine (impl_Flash_has.calls A0_0 c0_0 l0_0 (some ad) c0_1 l0_1 x.f0 _ _ (Kd.C_below HR0.out (by repeat (first | exact HB.out | apply pw_below_drewN | apply below_drew1 | apply below_alloc))) HC0.out (Kd.C_below HR1.out (by repeat (first | exact HB.out | apply pw_below_drewN | apply below_drew1 | apply below_alloc))) HC1.out HH.out).mono ?_; rintro e w2 ⟨rfl, hb2⟩; have HB2 := Aside0.mk (show Below w.heap.size w w2 from below_then (by repeat (first | exact HB.out | apply pw_below_drewN | apply below_drew1 | apply below_alloc)) (below_size (by repeat (first | exact HB.out | apply pw_below_drewN | apply below_drew1 | apply below_alloc))) hb2); have hkB := blk_below (by exact HWB.out) hb2; have hkN := blk_below (by exact HWN.out) hb2; have HKB := Aside0.mk hkB; have q0 : w2.cell? ⟨w.heap.size, 0, none⟩ = some (.slice A0_0 l0_0.length c0_0) := (blk_cell hkB 0).trans rfl; have q1 : w2.cell? ⟨w.heap.size, 1, none⟩ = some (.slice (some ad) l0_1.length c0_1) := (blk_cell hkB 1).trans rfl; have m0 : w2.cell? ⟨wr.heap.size, 0, none⟩ = some (.int .i64 x.f0) := (blk_cell hkN 0).trans rfl; have m1 : w2.cell? ⟨wr.heap.size, 1, none⟩ = some (.string x.f1) := (blk_cell hkN 1).trans rfl; clear hb2 hkB hkN) | (go_at_call 129; refine (impl_Flash_dirty.calls A0_0 c0_0 l0_0 (some ad) c0_1 l0_1 x.f0 tv _ (Kd.C_below HR0.out (by repeat (first | exact HB2.out | apply pw_below_drewN | apply below_drew1))) HC0.out (Kd.C_below HR1.out (by repeat (first | exact HB2.out | apply pw_below_drewN | apply below_drew1))) HC1.out HT.out).mono ?_; rintro e w3 ⟨rfl, hb3⟩; have HB3 := Aside0.mk (show Below w.heap.size w w3 from below_then (by repeat (first | exact HB2.out | apply pw_below_drewN | apply below_drew1)) (below_size (by repeat (first | exact HB2.out | apply pw_below_drewN | apply below_drew1))) hb3); have HKB3 := Aside0.mk (blk_below (by exact HKB.out) hb3); clear hb3))
          go_roundg (l0_1.length - (kk + 1))
          case measure => have := HG.out; omega
          case rel => exact ⟨kk + 1, by rw [e27], ⟨by omega⟩, ⟨Nat.le_refl _⟩, HB3, HKB3, ⟨by have e : ((kk + 1 : Nat) : Int) = (kk : Int) + 1 := (by omega); rw [HS.out, e]⟩⟩
      ·
       have hltz : decide ((kk : Int) < (l0_1.length : Int)) = false := decide_eq_false (by omega)
       have hk : kk = l0_1.length := by have := HK.out; omega
       have HS2 := HS.out
       rw [hk, List.drop_length, impl_isFlash.scan] at HS2
       go_wp2
       go_ret
       exact ⟨by rw [HS2]; rfl, HB.out⟩
   ·
    have h2b : decide ((l0_1.length : Int) > (l0_0.length : Int)) = true := decide_eq_true (by omega)
    have h2c : decide (l0_0.length < l0_1.length) = true := decide_eq_true (by omega)
    rw [decide_eq_false h2]
    clear h1 hbig h2
    go_enter Try.func74, Try.ntmps74
    go_wp2_with (first
     | (go_at_call 126; refine (impl_size_string.calls A0_0 c0_0 l0_0 _ _ (by repeat (first | exact HR0.out | (with_reducible refine Kd.C_alloc ?_ _) | (with_reducible refine Kd.C_drewN ?_ _) | (with_reducible refine Kd.C_drew ?_))) HC0.out HS.out).mono ?_; rintro e w1 ⟨rfl, ⟨n1, rfl⟩⟩)
     | (go_at_call 116; refine (impl_within.calls _ _ _ _ _ HD.out).mono ?_; rintro e w1 ⟨rfl, ⟨n2, rfl⟩⟩))
    go_ret
    exact ⟨rfl, by repeat (first | exact Below.refl _ _ | apply pw_below_drewN | apply below_drew1 | apply below_alloc)⟩
  ·
   have HD := Aside0.mk (impl_isFlash.within_ (l0_0.length : Int) 1 40 false (decide_eq_false h1))
   rw [decide_eq_false h1]
   clear h1 hbig
   go_enter Try.func74, Try.ntmps74
   go_wp2_with (first
    | (go_at_call 126; refine (impl_size_string.calls A0_0 c0_0 l0_0 _ _ (by repeat (first | exact HR0.out | (with_reducible refine Kd.C_alloc ?_ _) | (with_reducible refine Kd.C_drewN ?_ _) | (with_reducible refine Kd.C_drew ?_))) HC0.out HS.out).mono ?_; rintro e w1 ⟨rfl, ⟨n1, rfl⟩⟩)
    | (go_at_call 116; refine (impl_within.calls _ _ _ _ _ HD.out).mono ?_; rintro e w1 ⟨rfl, ⟨n2, rfl⟩⟩))
   go_ret
   exact ⟨rfl, by repeat (first | exact Below.refl _ _ | apply pw_below_drewN | apply below_drew1 | apply below_alloc)⟩
 ·
  rw [if_neg hbig] at h; cases h


/-! ### slices_Clone_string_string: function 131 -/
def slices_Clone_string_string.f (l0 : List ByteArray) : Option (List ByteArray) := if l0.length * 16 ≤ 140737488355328 then some l0 else none
set_option maxHeartbeats 8000000 in
set_option maxRecDepth 100000 in
theorem slices_Clone_string_string.some_ (ad : Addr) (c0 : Nat) (l0 : List ByteArray) (w : World) (hr0 : Kd.C Kd.string w (some ad) l0.length l0) (hc0 : l0.length ≤ c0) (hb : l0.length * 16 ≤ 140737488355328) :
  Calls Try.prog 131 #[.slice (some ad) l0.length c0] w fun e w' => ∃ v0_ : Value, e = .returned (v0_) ∧ Kd.R Kd.string 9 w' w.heap.size (fun _ => True) v0_ l0 ∧ Below w.heap.size w w' := by
 have HR0 := Aside0.mk hr0
 have HC0 := Aside0.mk hc0
 have HL := Aside0.mk hb
 clear hr0 hc0 hb
 have HB := Aside0.mk (Below.refl w.heap.size w)
 obtain ⟨y1, hy1⟩ : ∃ y_ : List ByteArray, y_ = ([] : List ByteArray) := ⟨_, rfl⟩
 have Ny1 := Aside0.mk hy1
 clear hy1
 have hq : ∀ W : World, (binOp .eql 22 (.slice (some ad) l0.length c0) (.slice none 0 0)).run Try.prog W = .ok (.bool false) W := fun W => Lib.run_eql_slice_nil W _ _ (some ad) _ _ _ _ Try.underlying22
 go_enter Try.func131, Try.ntmps131
 go_wp2_with (first | ((with_reducible refine gate_dst (N := 5) rfl ?_); refine Kd.R_lit Kd.string _ 9 ?hg (N := 5) ?hd (xs := ([] : List ByteArray)) (inner := []) (ok := fun _ => True) (okp := fun _ => True) ?hr ?hp (fun _ hk => hk) trivial (Below.refl _ _) (Nat.le_refl _) (by simp) ?_; (case hd => rfl); (case hg => rfl); (case hr => first | (go_simp; done) | (go_simp; rfl)); (case hp => exact (Reps.none _ _)); intro v2 w2 ho3 hb hg_ hnew_; clear hg_ hnew_; (first | rw [← Ny1.out] at ho3 | (simp only [Int.reduceToNat] at ho3; rw [← Ny1.out] at ho3)); have n0_ := Aside0.mk (Kd.R_lower ho3 (below_size (by repeat (first | (with_reducible first | exact HB.out | apply below_alloc | apply pw_below_drewN | apply below_drew1) | exact HB.out)))); have n1_ := Aside0.mk (below_step (by repeat (first | (with_reducible first | exact HB.out | apply below_alloc | apply pw_below_drewN | apply below_drew1) | exact HB.out)) hb); clear HB; have HO3 := n0_; have HB := n1_; clear n0_ n1_; clear hb ho3) | ((with_reducible refine gate_builtin (b := .append) (xs := #[.tmp 5, .tmp 6]) rfl ?_); at_builtin; refine Kd.R_append_rows Kd.string (w0 := w) w.heap.size rfl (.tmp 5) (.tmp 6) 22 9 (.string ⟨#[]⟩) 16 rfl Try.underlying22 info9 rfl (by decide) (by omega) v2 y1 l0 _ _ _ (fun _ => True) (fun _ => False) rfl rfl ?aO ?aR (fun _ _ h => h) (fun _ h => h.elim) ?aF ?aB ?aS ?aL ?_; (case aR => repeat (first | exact (Kd.C_below HR0.out HB.out) | (with_reducible refine Kd.C_alloc ?_ _) | (with_reducible refine Kd.C_drewN ?_ _) | (with_reducible refine Kd.C_drew ?_))); (case aB => exact (by repeat (first | (with_reducible first | exact HB.out | apply below_alloc | apply pw_below_drewN | apply below_drew1) | exact HB.out))); (case aF => exact (fun _ _ => trivial)); (case aO => exact (by (with_reducible repeat (first | apply Kd.R_alloc | apply Kd.R_drewN | apply Kd.R_drew)); exact HO3.out)); (case aS => exact (below_size (by repeat (first | (with_reducible first | exact HB.out | apply below_alloc | apply pw_below_drewN | apply below_drew1) | exact HB.out)))); (case aL => have h1 := HL.out; have h2 := Ny1.out; subst h2; simpa using h1); intro v4 w4 ho hb hg hat; have n0_ := Aside0.mk (hb); have n1_ := Aside0.mk (ho); clear HB; clear HO3; have HB := n0_; have HO4 := n1_; clear n0_ n1_; clear ho hb hg hat))
 go_ret
 have e1 : y1 ++ l0 = l0 := by rw [Ny1.out, List.nil_append]
 rw [e1] at HO4
 exact ⟨_, rfl, HO4.out, HB.out⟩
set_option maxHeartbeats 8000000 in
set_option maxRecDepth 100000 in
theorem slices_Clone_string_string.calls (A0 : Option Addr) (c0 : Nat) (l0 : List ByteArray) (r : List ByteArray) (w : World) (hr0 : Kd.C Kd.string w A0 l0.length l0) (hc0 : l0.length ≤ c0) (h : slices_Clone_string_string.f l0 = some r) :
  Calls Try.prog 131 #[.slice A0 l0.length c0] w fun e w' => ∃ v0_ : Value, e = .returned (v0_) ∧ Kd.R Kd.string 9 w' w.heap.size (fun _ => True) v0_ r ∧ Below w.heap.size w w' := by
 unfold slices_Clone_string_string.f at h
 by_cases hb : l0.length * 16 ≤ 140737488355328
 ·
  rw [if_pos hb] at h
  obtain rfl := Option.some.inj h
  cases A0 with
  | some ad => exact slices_Clone_string_string.some_ ad c0 l0 w hr0 hc0 hb
  | none =>
   have hl : l0.length = 0 := by
    rcases Nat.eq_zero_or_pos l0.length with h0 | h0
    ·
     exact h0
    ·
     obtain ⟨ad, _, e, _⟩ := Kd.C_get hr0 ByteArray.empty 0 (by omega) (by omega)
     cases e
   obtain rfl : l0 = [] := List.eq_nil_of_length_eq_zero hl
   clear hr0 h hb hl
   have hq : ∀ W : World, (binOp .eql 22 (.slice none 0 c0) (.slice none 0 0)).run Try.prog W = .ok (.bool true) W := fun W => Lib.run_eql_slice_nil W _ _ none _ _ _ _ Try.underlying22
   go_enter Try.func131, Try.ntmps131

   go_wp2
   all_goals (try go_ret)
   all_goals exact ⟨_, rfl, Kd.R_nil _ _ _ _ _, by repeat (first | exact Below.refl _ _ | apply below_alloc | apply pw_below_drewN | apply below_drew1)⟩
 ·
  rw [if_neg hb] at h; cases h


/-! ### impl_Dirty_132: function 132 -/
def slices_Clone_S92.f (l0 : List S92) : Option (List S92) := if l0.length * 24 ≤ 140737488355328 then some l0 else none
set_option maxHeartbeats 8000000 in
set_option maxRecDepth 100000 in
theorem slices_Clone_S92.some_ (ad : Addr) (c0 : Nat) (l0 : List S92) (w : World) (hr0 : Kd.C k92 w (some ad) l0.length l0) (hc0 : l0.length ≤ c0) (hb : l0.length * 24 ≤ 140737488355328) :
  Calls Try.prog 132 #[.slice (some ad) l0.length c0] w fun e w' => ∃ v0_ : Value, e = .returned (v0_) ∧ Kd.R k92 92 w' w.heap.size (fun _ => True) v0_ l0 ∧ Below w.heap.size w w' := by
 have HR0 := Aside0.mk hr0
 have HC0 := Aside0.mk hc0
 have HL := Aside0.mk hb
 clear hr0 hc0 hb
 have HB := Aside0.mk (Below.refl w.heap.size w)
 obtain ⟨y1, hy1⟩ : ∃ y_ : List S92, y_ = ([] : List S92) := ⟨_, rfl⟩
 have Ny1 := Aside0.mk hy1
 clear hy1
 have hq : ∀ W : World, (binOp .eql 28 (.slice (some ad) l0.length c0) (.slice none 0 0)).run Try.prog W = .ok (.bool false) W := fun W => Lib.run_eql_slice_nil W _ _ (some ad) _ _ _ _ Try.underlying28
 go_enter Try.func132, Try.ntmps132
 go_wp2_with (first | ((with_reducible refine gate_dst (N := 5) rfl ?_); refine Kd.R_lit k92 _ 92 ?hg (N := 5) ?hd (xs := ([] : List S92)) (inner := []) (ok := fun _ => True) (okp := fun _ => True) ?hr ?hp (fun _ hk => hk) trivial (Below.refl _ _) (Nat.le_refl _) (by simp) ?_; (case hd => rfl); (case hg => rfl); (case hr => first | (go_simp; done) | (go_simp; rfl)); (case hp => exact (Reps.none _ _)); intro v2 w2 ho3 hb hg_ hnew_; clear hg_ hnew_; (first | rw [← Ny1.out] at ho3 | (simp only [Int.reduceToNat] at ho3; rw [← Ny1.out] at ho3)); have n0_ := Aside0.mk (Kd.R_lower ho3 (below_size (by repeat (first | (with_reducible first | exact HB.out | apply below_alloc | apply pw_below_drewN | apply below_drew1) | exact HB.out)))); have n1_ := Aside0.mk (below_step (by repeat (first | (with_reducible first | exact HB.out | apply below_alloc | apply pw_below_drewN | apply below_drew1) | exact HB.out)) hb); clear HB; have HO3 := n0_; have HB := n1_; clear n0_ n1_; clear hb ho3) | ((with_reducible refine gate_builtin (b := .append) (xs := #[.tmp 5, .tmp 6]) rfl ?_); at_builtin; refine Kd.R_append_rows k92 (w0 := w) w.heap.size rfl (.tmp 5) (.tmp 6) 28 92 (.agg #[(.int .i64 0), (.string ⟨#[]⟩)]) 24 rfl Try.underlying28 info92 rfl (by decide) (by omega) v2 y1 l0 _ _ _ (fun _ => True) (fun _ => False) rfl rfl ?aO ?aR (fun _ _ h => h) (fun _ h => h.elim) ?aF ?aB ?aS ?aL ?_; (case aR => repeat (first | exact (Kd.C_below HR0.out HB.out) | (with_reducible refine Kd.C_alloc ?_ _) | (with_reducible refine Kd.C_drewN ?_ _) | (with_reducible refine Kd.C_drew ?_))); (case aB => exact (by repeat (first | (with_reducible first | exact HB.out | apply below_alloc | apply pw_below_drewN | apply below_drew1) | exact HB.out))); (case aF => exact (fun _ _ => trivial)); (case aO => exact (by (with_reducible repeat (first | apply Kd.R_alloc | apply Kd.R_drewN | apply Kd.R_drew)); exact HO3.out)); (case aS => exact (below_size (by repeat (first | (with_reducible first | exact HB.out | apply below_alloc | apply pw_below_drewN | apply below_drew1) | exact HB.out)))); (case aL => have h1 := HL.out; have h2 := Ny1.out; subst h2; simpa using h1); intro v4 w4 ho hb hg hat; have n0_ := Aside0.mk (hb); have n1_ := Aside0.mk (ho); clear HB; clear HO3; have HB := n0_; have HO4 := n1_; clear n0_ n1_; clear ho hb hg hat))
 go_ret
 have e1 : y1 ++ l0 = l0 := by rw [Ny1.out, List.nil_append]
 rw [e1] at HO4
 exact ⟨_, rfl, HO4.out, HB.out⟩
set_option maxHeartbeats 8000000 in
set_option maxRecDepth 100000 in
theorem slices_Clone_S92.calls (A0 : Option Addr) (c0 : Nat) (l0 : List S92) (r : List S92) (w : World) (hr0 : Kd.C k92 w A0 l0.length l0) (hc0 : l0.length ≤ c0) (h : slices_Clone_S92.f l0 = some r) :
  Calls Try.prog 132 #[.slice A0 l0.length c0] w fun e w' => ∃ v0_ : Value, e = .returned (v0_) ∧ Kd.R k92 92 w' w.heap.size (fun _ => True) v0_ r ∧ Below w.heap.size w w' := by
 unfold slices_Clone_S92.f at h
 by_cases hb : l0.length * 24 ≤ 140737488355328
 ·
  rw [if_pos hb] at h
  obtain rfl := Option.some.inj h
  cases A0 with
  | some ad => exact slices_Clone_S92.some_ ad c0 l0 w hr0 hc0 hb
  | none =>
   have hl : l0.length = 0 := by
    rcases Nat.eq_zero_or_pos l0.length with h0 | h0
    ·
     exact h0
    ·
     obtain ⟨ad, _, e, _⟩ := Kd.C_get hr0 z92 0 (by omega) (by omega)
     cases e
   obtain rfl : l0 = [] := List.eq_nil_of_length_eq_zero hl
   clear hr0 h hb hl
   have hq : ∀ W : World, (binOp .eql 28 (.slice none 0 c0) (.slice none 0 0)).run Try.prog W = .ok (.bool true) W := fun W => Lib.run_eql_slice_nil W _ _ none _ _ _ _ Try.underlying28
   go_enter Try.func132, Try.ntmps132

   go_wp2
   all_goals (try go_ret)
   all_goals exact ⟨_, rfl, Kd.R_nil _ _ _ _ _, by repeat (first | exact Below.refl _ _ | apply below_alloc | apply pw_below_drewN | apply below_drew1)⟩
 ·
  rw [if_neg hb] at h; cases h


/-! ### impl_cloneFlash: function 79 -/
def impl_cloneFlash.f (l0_0 : List ByteArray) (l0_1 : List (S92)) : Option (List ByteArray × (List (S92))) := (slices_Clone_string_string.f l0_0).bind fun t211 => ((slices_Clone_S92.f l0_1).bind fun t214 => (some (t211, t214)))
def impl_cloneFlash.T1 : Bool × List (List Nat × List Nat) := (true, [([], []), ([0], [0]), ([1], [1]), ([], []), ([3], [3]), ([4, 2], [4]), ([2, 5], [2, 5]), ([6, 5, 0, 1, 2, 3, 4, 5, 6], [6])])
def impl_cloneFlash.B1 : List Nat := [0, 1, 3, 0, 8, 31, 63, 127]
theorem impl_cloneFlash.tab1 : rtab .any (opsOf Try.f79 1) = impl_cloneFlash.T1 := by kernel_rfl
theorem impl_cloneFlash.bits1 : waitsOk impl_cloneFlash.T1.2 impl_cloneFlash.B1 = true := by kernel_rfl
set_option maxHeartbeats 8000000 in
set_option maxRecDepth 100000 in
theorem impl_cloneFlash.calls (A0_0 : Option Addr) (c0_0 : Nat) (l0_0 : List ByteArray) (A0_1 : Option Addr) (c0_1 : Nat) (l0_1 : List (S92)) (r1 : List ByteArray) (r2 : List (S92)) (w : World) (hr0_0 : Kd.C Kd.string w A0_0 l0_0.length l0_0) (hc0_0 : l0_0.length ≤ c0_0) (hr0_1 : Kd.C k92 w A0_1 l0_1.length l0_1) (hc0_1 : l0_1.length ≤ c0_1) (h : impl_cloneFlash.f l0_0 l0_1 = some (r1, r2)) :
  Calls Try.prog 79 #[.agg #[.slice A0_0 l0_0.length c0_0, .slice A0_1 l0_1.length c0_1]] w fun e w' => ∃ v0_ v1_ : Value, e = .returned (.agg #[v0_, v1_]) ∧ Kd.R Kd.string 9 w' w.heap.size (fun _ => True) v0_ r1 ∧ Kd.R k92 92 w' w.heap.size (fun _ => True) v1_ r2 ∧ Below w.heap.size w w' := by
 have hu30 := Try.underlying30
 have HR0_0 := Aside0.mk hr0_0
 have HC0_0 := Aside0.mk hc0_0
 clear hr0_0 hc0_0
 have HR0_1 := Aside0.mk hr0_1
 have HC0_1 := Aside0.mk hc0_1
 clear hr0_1 hc0_1
 have HB := Aside0.mk (Below.refl w.heap.size w)
 have H : ((slices_Clone_string_string.f l0_0).bind fun t211 => ((slices_Clone_S92.f l0_1).bind fun t214 => (some (t211, t214)))) = some (r1, r2) := h
 clear h
 replace H := Option.bind_eq_some_iff.mp H
 obtain ⟨t211, A20, H⟩ := H
 replace H : ((slices_Clone_S92.f l0_1).bind fun t214 => (some (t211, t214))) = some (r1, r2) := H
 have A2 := Aside0.mk A20
 clear A20
 replace H := Option.bind_eq_some_iff.mp H
 obtain ⟨t214, A30, H⟩ := H
 replace H : (some (t211, t214)) = some (r1, r2) := H
 have A3 := Aside0.mk A30
 clear A30
 simp only [Option.some.injEq, Prod.mk.injEq] at H
 obtain ⟨rfl, rfl⟩ := H
 go_enter Try.func79, Try.ntmps79
 try go_wp2_with (first | ((with_reducible refine gate_dst (N := 1) rfl ?_); refine box_event ?hg (N := 1) ?hd (cs := #[.slice A0_0 l0_0.length c0_0, .slice A0_1 l0_1.length c0_1]) (t := 30) ?hr ?_; (case hd => rfl); (case hg => rfl); (case hr => first | (go_simp; done) | (go_simp; rfl)); intro gb209 hg w4 hbox hb; have n0_ := Aside0.mk (below_step (by repeat (first | (with_reducible first | exact HB.out | apply below_alloc | apply pw_below_drewN | apply below_drew1) | exact HB.out)) hb); have n1_ := Aside0.mk (hbox); have n2_ := Aside0.mk ((by rw [hg]; exact (below_size (by repeat (first | (with_reducible first | exact HB.out | apply below_alloc | apply pw_below_drewN | apply below_drew1) | exact HB.out))) : w.heap.size ≤ gb209)); have n3_ := Aside0.mk ((by rw [hg]; exact (below_size (by repeat (first | (with_reducible first | exact HB.out | apply below_alloc | apply pw_below_drewN | apply below_drew1) | exact HB.out))) : w.heap.size ≤ gb209)); clear HB; have HB := n0_; have BK209 := n1_; have GW209 := n2_; have GE209 := n3_; clear n0_ n1_ n2_ n3_; clear hb hbox hg) | ((with_reducible refine gate_dst (N := 2) rfl ?_); refine box_event ?hg (N := 2) ?hd (cs := #[.slice none 0 0, .slice none 0 0]) (t := 30) ?hr ?_; (case hd => rfl); (case hg => rfl); (case hr => first | (go_simp; done) | (go_simp; rfl)); intro gb210 hg w5 hbox hb; have n0_ := Aside0.mk (blk_below (g := gb209) (o := .cells #[.slice A0_0 l0_0.length c0_0, .slice A0_1 l0_1.length c0_1] 30 (0, 0)) (by (with_reducible repeat (first | refine blk_drewN ?_ _ | refine blk_drew ?_ | refine blk_alloc ?_ _)); exact BK209.out) hb); have n1_ := Aside0.mk (below_step (by repeat (first | (with_reducible first | exact HB.out | apply below_alloc | apply pw_below_drewN | apply below_drew1 | refine below_set ?_ GE209.out) | exact HB.out)) hb); have n2_ := Aside0.mk (hbox); have n3_ := Aside0.mk ((by rw [hg]; exact (below_size (by repeat (first | (with_reducible first | exact HB.out | apply below_alloc | apply pw_below_drewN | apply below_drew1 | refine below_set ?_ GE209.out) | exact HB.out))) : w.heap.size ≤ gb210)); have n4_ := Aside0.mk ((by rw [hg]; exact (below_size (by repeat (first | (with_reducible first | exact HB.out | apply below_alloc | apply pw_below_drewN | apply below_drew1 | refine below_set ?_ GE209.out) | exact HB.out))) : w.heap.size ≤ gb210)); have n5_ := Aside0.mk ((by rw [hg]; exact Nat.ne_of_lt (blk_lt (g := gb209) (o := .cells #[.slice A0_0 l0_0.length c0_0, .slice A0_1 l0_1.length c0_1] 30 (0, 0)) (by (with_reducible repeat (first | refine blk_drewN ?_ _ | refine blk_drew ?_ | refine blk_alloc ?_ _)); exact BK209.out)) : gb209 ≠ gb210)); have n6_ := Aside0.mk ((by rw [hg]; exact Nat.ne_of_gt (blk_lt (g := gb209) (o := .cells #[.slice A0_0 l0_0.length c0_0, .slice A0_1 l0_1.length c0_1] 30 (0, 0)) (by (with_reducible repeat (first | refine blk_drewN ?_ _ | refine blk_drew ?_ | refine blk_alloc ?_ _)); exact BK209.out)) : gb210 ≠ gb209)); clear BK209; clear HB; have BK209 := n0_; have HB := n1_; have BK210 := n2_; have GW210 := n3_; have GE210 := n4_; have NB209_210 := n5_; have NB210_209 := n6_; clear n0_ n1_ n2_ n3_ n4_ n5_ n6_; clear hb hbox hg))
 have n0_ := Aside0.mk (blk_drew BK209.out)
 have n1_ := Aside0.mk (blk_drew BK210.out)
 have n2_ := Aside0.mk (below_drew1 HB.out)
 clear BK209
 clear BK210
 clear HB
 have BK209 := n0_
 have BK210 := n1_
 have HB := n2_
 clear n0_ n1_ n2_
 refine start_ (n := 8) (S := fun w' => w'.cell? ⟨gb209, 0, none⟩ = some (.slice A0_0 l0_0.length c0_0) ∧ w'.cell? ⟨gb209, 1, none⟩ = some (.slice A0_1 l0_1.length c0_1)) (ds := []) #[false, false, false, false, false, false, false, false] (by kernel_rfl) rfl rfl ⟨(blk_cell BK209.out 0).trans rfl, (blk_cell BK209.out 1).trans rfl⟩ (fun hHeld => ?_); refine with_tabW impl_cloneFlash.tab1 impl_cloneFlash.bits1 (fun HT_ HW_ => ?_)
 generalize w5.drew = w6 at BK209 BK210 HB hHeld ⊢
 refine pure_ (i := 0) (N := some 3) (v := ?_) (a' := ?_) #[true, false, false, false, false, false, false, false] rfl rfl (any_of HT_.out (by kernel_rfl)) (fun _ _ _ h => h) (Or.inl ⟨by rfl, ?_⟩) ?_ ?_
 rotate_left
 ·
  intro w'
  go_simp
  with_reducible rfl
 rotate_left
 ·
  simp only [Act.put, List.setIfInBounds_toArray, List.set_cons_zero, List.set_cons_succ, i64_w, i32_w]
  rfl
 refine pure_ (i := 3) (N := some 6) (v := ?_) (a' := ?_) #[true, false, false, true, false, false, false, false] rfl rfl (any_of HT_.out (by kernel_rfl)) (fun _ _ _ h => h) (Or.inl ⟨by rfl, ?_⟩) ?_ ?_
 rotate_left
 ·
  intro w'
  go_simp
  with_reducible rfl
 rotate_left
 ·
  simp only [Act.put, List.setIfInBounds_toArray, List.set_cons_zero, List.set_cons_succ, i64_w, i32_w]
  rfl
 refine take_ (i := 1) (N := some 4) (v := ?_) (a' := ?_) #[true, true, false, true, false, false, false, false] rfl rfl (take_ofW HT_.out HW_.out (by kernel_rfl)) (fun _ _ _ h => h) (Or.inl ⟨by rfl, ?_⟩) hHeld ?_ ?_
 rotate_left
 ·
  rintro w' ⟨s0, s1⟩
  go_simp
  with_reducible rfl
 rotate_left
 ·
  simp only [Act.put, List.setIfInBounds_toArray, List.set_cons_zero, List.set_cons_succ, i64_w, i32_w]
  rfl
 refine take_ (i := 4) (N := some 7) (v := ?_) (a' := ?_) #[true, true, false, true, true, false, false, false] rfl rfl (take_ofW HT_.out HW_.out (by kernel_rfl)) (fun _ _ _ h => h) (Or.inl ⟨by rfl, ?_⟩) hHeld ?_ ?_
 rotate_left
 ·
  rintro w' ⟨s0, s1⟩
  go_simp
  with_reducible rfl
 rotate_left
 ·
  simp only [Act.put, List.setIfInBounds_toArray, List.set_cons_zero, List.set_cons_succ, i64_w, i32_w]
  rfl
 refine one_ (i := 2) (N := some 5) #[true, true, true, true, true, false, false, false] rfl rfl (one_of HT_.out (by kernel_rfl)) (by decide) (fun K hK => ?_)
 refine goes_ Try.func131 (by kernel_rfl) rfl #[.slice A0_0 l0_0.length c0_0] (by rfl) rfl rfl (by (try simp only [List.map_toArray, List.map_cons, List.map_nil]); first | done | rfl | (simp only [List.length_drop, List.length_take]; rfl)) ?_
 with_reducible refine (slices_Clone_string_string.calls _ _ l0_0 t211 _ ?side1 ?side2 A2.out).mono ?_
 (case side1 => repeat (first | exact (Kd.C_below HR0_0.out HB.out) | (with_reducible refine Kd.C_alloc ?_ _) | (with_reducible refine Kd.C_drewN ?_ _) | (with_reducible refine Kd.C_drew ?_)))
 (case side2 => exact HC0_0.out)
 rintro e w7 ⟨v212, rfl, ho0, hb⟩
 refine ⟨_, rfl, ?_⟩
 have n0_ := Aside0.mk (Kd.R_lower ho0 (below_size (by repeat (first | (with_reducible first | exact HB.out | apply below_alloc | apply pw_below_drewN | apply below_drew1 | refine below_set ?_ GE209.out | refine below_set ?_ GE210.out) | exact HB.out))))
 have n1_ := Aside0.mk (blk_below (g := gb209) (o := .cells #[.slice A0_0 l0_0.length c0_0, .slice A0_1 l0_1.length c0_1] 30 (0, 0)) (by (with_reducible repeat (first | refine blk_drewN ?_ _ | refine blk_drew ?_ | refine blk_alloc ?_ _)); exact BK209.out) hb)
 have n2_ := Aside0.mk (blk_below (g := gb210) (o := .cells #[.slice none 0 0, .slice none 0 0] 30 (0, 0)) (by (with_reducible repeat (first | refine blk_drewN ?_ _ | refine blk_drew ?_ | refine blk_alloc ?_ _)); exact BK210.out) hb)
 have n3_ := Aside0.mk (below_step (by repeat (first | (with_reducible first | exact HB.out | apply below_alloc | apply pw_below_drewN | apply below_drew1 | refine below_set ?_ GE209.out | refine below_set ?_ GE210.out) | exact HB.out)) hb)
 clear BK209
 clear BK210
 clear HB
 have HO213 := n0_
 have BK209 := n1_
 have BK210 := n2_
 have HB := n3_
 clear n0_ n1_ n2_ n3_
 (try clear hb)
 (try clear hb2)
 (try clear hk)
 (try clear hi)
 (try clear ho0)
 refine hK.out _ _ ⟨(blk_cell BK209.out 0).trans rfl, (blk_cell BK209.out 1).trans rfl⟩ (fun hHeld => ?_)
 clear hK K
 refine norm_ (a' := ?_) ?_ ?_
 rotate_left
 ·
  show Act.put _ (some 5) _ = _
  simp only [Act.put, List.setIfInBounds_toArray, List.set_cons_zero, List.set_cons_succ, i64_w, i32_w]
  rfl
 refine one_ (i := 5) (N := some 8) #[true, true, true, true, true, true, false, false] rfl rfl (one_of HT_.out (by kernel_rfl)) (by decide) (fun K hK => ?_)
 refine goes_ Try.func132 (by kernel_rfl) rfl #[.slice A0_1 l0_1.length c0_1] (by rfl) rfl rfl (by (try simp only [List.map_toArray, List.map_cons, List.map_nil]); first | done | rfl | (simp only [List.length_drop, List.length_take]; rfl)) ?_
 with_reducible refine (slices_Clone_S92.calls _ _ l0_1 t214 _ ?side1 ?side2 A3.out).mono ?_
 (case side1 => repeat (first | exact (Kd.C_below HR0_1.out HB.out) | (with_reducible refine Kd.C_alloc ?_ _) | (with_reducible refine Kd.C_drewN ?_ _) | (with_reducible refine Kd.C_drew ?_)))
 (case side2 => exact HC0_1.out)
 rintro e w8 ⟨v215, rfl, ho0, hb⟩
 refine ⟨_, rfl, ?_⟩
 have n0_ := Aside0.mk (Kd.R_below (by (with_reducible repeat (first | apply Kd.R_alloc | apply Kd.R_drewN | apply Kd.R_drew)); exact HO213.out) hb)
 have n1_ := Aside0.mk (Kd.R_lower ho0 (below_size (by repeat (first | (with_reducible first | exact HB.out | apply below_alloc | apply pw_below_drewN | apply below_drew1 | refine below_set ?_ GE209.out | refine below_set ?_ GE210.out) | exact HB.out))))
 have n2_ := Aside0.mk (blk_below (g := gb209) (o := .cells #[.slice A0_0 l0_0.length c0_0, .slice A0_1 l0_1.length c0_1] 30 (0, 0)) (by (with_reducible repeat (first | refine blk_drewN ?_ _ | refine blk_drew ?_ | refine blk_alloc ?_ _)); exact BK209.out) hb)
 have n3_ := Aside0.mk (blk_below (g := gb210) (o := .cells #[.slice none 0 0, .slice none 0 0] 30 (0, 0)) (by (with_reducible repeat (first | refine blk_drewN ?_ _ | refine blk_drew ?_ | refine blk_alloc ?_ _)); exact BK210.out) hb)
 have n4_ := Aside0.mk (below_step (by repeat (first | (with_reducible first | exact HB.out | apply below_alloc | apply pw_below_drewN | apply below_drew1 | refine below_set ?_ GE209.out | refine below_set ?_ GE210.out) | exact HB.out)) hb)
 clear HO213
 clear BK209
 clear BK210
 clear HB
 have HO213 := n0_
 have HO216 := n1_
 have BK209 := n2_
 have BK210 := n3_
 have HB := n4_
 clear n0_ n1_ n2_ n3_ n4_
 (try clear hb)
 (try clear hb2)
 (try clear hk)
 (try clear hi)
 (try clear ho0)
 obtain ⟨Ao9, co9, eo9⟩ := Kd.R_slice HO216.out
 (first | subst eo9 | (injection eo9 with f1_ f2_ f3_; have f4_ := f1_.symm; have f5_ := f3_.symm; clear f1_ f2_ f3_; subst f4_; subst f5_))
 obtain ⟨Ao10, co10, eo10⟩ := Kd.R_slice HO213.out
 (first | subst eo10 | (injection eo10 with f1_ f2_ f3_; have f4_ := f1_.symm; have f5_ := f3_.symm; clear f1_ f2_ f3_; subst f4_; subst f5_))
 refine hK.out _ _ ⟨(blk_cell BK209.out 0).trans rfl, (blk_cell BK209.out 1).trans rfl⟩ (fun hHeld => ?_)
 clear hK K
 refine norm_ (a' := ?_) ?_ ?_
 rotate_left
 ·
  show Act.put _ (some 8) _ = _
  simp only [Act.put, List.setIfInBounds_toArray, List.set_cons_zero, List.set_cons_succ, i64_w, i32_w]
  rfl
 refine pure_ (i := 6) (N := some 9) (v := ?_) (a' := ?_) #[true, true, true, true, true, true, true, false] rfl rfl (any_of HT_.out (by kernel_rfl)) (fun _ _ _ h => h) (Or.inl ⟨by rfl, ?_⟩) ?_ ?_
 rotate_left
 ·
  intro w'
  go_simp
  with_reducible rfl
 rotate_left
 ·
  simp only [Act.put, List.setIfInBounds_toArray, List.set_cons_zero, List.set_cons_succ, i64_w, i32_w]
  rfl
 refine one_ (i := 7) (N := none) #[true, true, true, true, true, true, true, true] rfl rfl (one_of HT_.out (by kernel_rfl)) (by decide) (fun K hK => ?_)
 have hs11 : w8.cell? ⟨gb210, 0, none⟩ = some (.slice none 0 0) := (blk_cell BK210.out 0).trans rfl
 have hfs11 := blk_frozen BK210.out 0
 have hns11_0 := NB209_210.out
 have hms11_0 := NB210_209.out
 have hs12 : w8.cell? ⟨gb210, 1, none⟩ = some (.slice none 0 0) := (blk_cell BK210.out 1).trans rfl
 have hfs12 := blk_frozen BK210.out 1
 have hns12_0 := NB209_210.out
 have hms12_0 := NB210_209.out
 refine skip_ (w1 := ?_) (by rfl) rfl ?_ ?_
 rotate_left
 ·
  go_simp
  rfl
 refine hK.out _ _ ⟨((cell_far (p := ⟨gb210, _, none⟩) NB209_210.out _).trans (((cell_far (p := ⟨gb210, _, none⟩) NB209_210.out _).trans (hHeld.1)))), ((cell_far (p := ⟨gb210, _, none⟩) NB209_210.out _).trans (((cell_far (p := ⟨gb210, _, none⟩) NB209_210.out _).trans (hHeld.2))))⟩ (fun hHeld => ?_)
 clear hK K
 refine done_ (done_of HT_.out (by kernel_rfl)) ?_
 try go_wp2
 refine bodyPost_ret (results_cell_row rfl _ _ gb210 30 #[.slice Ao10 t211.length co10, .slice Ao9 t214.length co9] (0, 0) _ rfl (by (with_reducible repeat (first | refine blk_drewN ?_ _ | refine blk_drew ?_ | refine blk_alloc ?_ _)); refine blk_put (cs := #[.slice Ao10 t211.length co10, .slice none 0 0]) ?_ 1 _ rfl; (with_reducible repeat (first | refine blk_drewN ?_ _ | refine blk_drew ?_ | refine blk_alloc ?_ _)); refine blk_put (cs := #[.slice none 0 0, .slice none 0 0]) ?_ 0 _ rfl; (with_reducible repeat (first | refine blk_drewN ?_ _ | refine blk_drew ?_ | refine blk_alloc ?_ _)); exact BK210.out) Try.underlying30 rfl (by kernel_rfl)) rfl ?_
 exact ⟨_, _, by first | rfl | (simp [errW_none, errW_some] <;> rfl) | (simp [*, errW_none, errW_some] <;> rfl), by (with_reducible repeat (first | apply Kd.R_alloc | apply Kd.R_drewN | apply Kd.R_drew)); exact Kd.R_mono (Kd.R_far (p := ⟨gb210, 1, none⟩) (Kd.R_far (p := ⟨gb210, 0, none⟩) (Kd.R_types HO213.out BK210.out (by decide)) (fun _ hk => hk.2) (.slice Ao10 t211.length co10)) (fun _ hk => hk.2) (.slice Ao9 t214.length co9)) (fun _ hk => trivial), by (with_reducible repeat (first | apply Kd.R_alloc | apply Kd.R_drewN | apply Kd.R_drew)); exact Kd.R_mono (Kd.R_far (p := ⟨gb210, 1, none⟩) (Kd.R_far (p := ⟨gb210, 0, none⟩) (Kd.R_types HO216.out BK210.out (by decide)) (fun _ hk => hk.2) (.slice Ao10 t211.length co10)) (fun _ hk => hk.2) (.slice Ao9 t214.length co9)) (fun _ hk => trivial), by repeat (first | (with_reducible first | exact HB.out | apply below_alloc | apply pw_below_drewN | apply below_drew1 | refine below_set ?_ GE209.out | refine below_set ?_ GE210.out) | exact HB.out)⟩

-- NOT PRINTED: function 80 (impl_Flash_sync)

/-! ### impl_FlashSync: function 20 -/
/-- A flash in memory of its own: at block g; both its rows are its own. -/
def FB (W : World) (base g : Nat) (S : List ByteArray) (D : List S92) : Prop :=
 ∃ v0 v1, W.heap[g]? = some (.cells #[v0, v1] 30 (0, 0)) ∧ base ≤ g ∧ Kd.R Kd.string 9 W base (fun _ => True) v0 S ∧ Kd.R k92 92 W base (fun _ => True) v1 D
theorem FB.below {W W1 : World} {base g : Nat} {S : List ByteArray} {D : List S92} (h : FB W base g S D) (hb : Below W.heap.size W W1) : FB W1 base g S D := by
 obtain ⟨v0, v1, h1, h2, h3, h4⟩ := h
 exact ⟨v0, v1, blk_below h1 hb, h2, Kd.R_below h3 hb, Kd.R_below h4 hb⟩
def impl_Flash_put (S : List ByteArray) (D : List S92) (at_ : Int) (d : ByteArray) : List S92 :=
 if 0 ≤ idxFrom (impl_Flash_dirty.is at_) D 0 then D.set (idxFrom (impl_Flash_dirty.is at_) D 0).toNat ⟨(rd_T92 D (idxFrom (impl_Flash_dirty.is at_) D 0)).f0, d⟩ else D ++ [⟨at_, d⟩]
theorem idxFrom_lt {α : Type} (p : α → Bool) : ∀ (l : List α) (i : Int), idxFrom p l i < i + l.length ∨ idxFrom p l i = -1 := by
 intro l
 induction l with
 | nil => intro i; exact .inr rfl
 | cons x r ih =>
  intro i
  rw [idxFrom]
  split
  ·
   left; simp only [List.length_cons]; omega
  ·
   rcases ih (i + 1) with h | h
   ·
    left; simp only [List.length_cons]; omega
   ·
    exact .inr h
set_option maxHeartbeats 8000000 in
set_option maxRecDepth 100000 in
theorem impl_Flash_write.calls (w0 : World) (base g : Nat) (S : List ByteArray) (D : List S92) (at_ : Int) (d : ByteArray) (w : World) (hF : FB w base g S D) (hB : Below base w0 w) (hbase : base ≤ w.heap.size) (hbig : D.length ≤ 1000000) :
  Calls Try.prog 92 #[.pointer (some ⟨g, 0, none⟩), .int .i64 at_, .string d] w fun e w' => e = .returned (.tuple #[]) ∧ FB w' base g S (impl_Flash_put S D at_ d) ∧ Below base w0 w' ∧ w.heap.size ≤ w'.heap.size := by
 have hu30 := Try.underlying30
 have hu92 := Try.underlying92
 obtain ⟨v0, v1, hblk, hge, hS, hD⟩ := hF
 obtain ⟨A0, c0, rfl, hc0, hC0⟩ := Kd.R_reads hS
 obtain ⟨A1, c1, rfl, hc1, hC1⟩ := Kd.R_reads hD
 have htch : impl_Flash_dirty.f S D at_ = some (idxFrom (impl_Flash_dirty.is at_) D 0) := by unfold impl_Flash_dirty.f; rw [if_pos (by omega)]
 unfold impl_Flash_put
 have hlt := idxFrom_lt (impl_Flash_dirty.is at_) D 0
 generalize idxFrom (impl_Flash_dirty.is at_) D 0 = ix at htch hlt ⊢
 have HT := Aside0.mk htch
 have b0 := (blk_cell hblk 0).trans (rfl : _ = some (Value.slice A0 S.length c0))
 have b1 := (blk_cell hblk 1).trans (rfl : _ = some (Value.slice A1 D.length c1))
 have HBLK := Aside0.mk hblk
 have HGE := Aside0.mk hge
 have HS := Aside0.mk hS
 have HD := Aside0.mk hD
 have HB := Aside0.mk hB
 have HBASE := Aside0.mk hbase
 have HC0 := Aside0.mk hc0
 have HC1 := Aside0.mk hc1
 have HR0 := Aside0.mk hC0
 have HR1 := Aside0.mk hC1
 have HBIG := Aside0.mk hbig
 clear hblk hge hS hD hB hbase hc0 hc1 hC0 hC1 htch hbig
 by_cases hix : 0 ≤ ix
 ·
  rw [if_pos hix]
  have hixb : decide (0 ≤ ix) = true := decide_eq_true hix
  have hixl : ix < (D.length : Int) := by omega
  have HIX := Aside0.mk (And.intro hix hixl)
  clear hix hixl hlt
  go_enter Try.func92, Try.ntmps92
  go_wp2_with (fail)
  go_at_call 129
  refine (impl_Flash_dirty.calls A0 c0 S A1 c1 D at_ ix _ (by exact HR0.out) HC0.out (by exact HR1.out) HC1.out HT.out).mono ?_
  rintro e w2 ⟨rfl, hb2⟩
  have HB2 := Aside0.mk (below_then HB.out HBASE.out hb2)
  have HSZ := Aside0.mk hb2.size
  have hblk2 := blk_below HBLK.out hb2
  have HBLK2 := Aside0.mk hblk2
  have HS2 := Aside0.mk (Kd.R_below HS.out hb2)
  have hD2 := Kd.R_below HD.out hb2
  have b0 := (blk_cell hblk2 0).trans (rfl : _ = some (Value.slice A0 S.length c0))
  have b1 := (blk_cell hblk2 1).trans (rfl : _ = some (Value.slice A1 D.length c1))
  obtain ⟨gd, cp, ef, hged, hgdl, cells, hcells⟩ := Kd.R_form hD2 (by have := HIX.out; omega)
  cases ef
  obtain ⟨ce, hcl, hM, hcc, hfr⟩ := Kd.R_elem hD2 z92 ix HIX.out.1 HIX.out.2
  obtain rfl := k92_openM hM
  have HP := Aside0.mk (Kd.R_seg hD2 ix HIX.out.1 HIX.out.2 (seg := [.string d]) (j := 1) hcl hcc (show 2 ≤ 2 from by decide) (x' := (⟨(rd_T92 D ix).f0, d⟩ : S92)) (k92_mkM _ _ _ (⟨(rd_T92 D ix).f0, d⟩ : S92)) (fun _ hk => hk))
  have i1 : w2.cell? ⟨gd, ix.toNat * 2 + 1, none⟩ = some _ := hcc 1 _ rfl
  have f1 : w2.frozen? ⟨gd, ix.toNat * 2 + 1, none⟩ = false := hfr 1
  have HNE := Aside0.mk (Kd.R_ne hD2 hblk2 (by decide))
  have HD2 := Aside0.mk hD2
  have HGD := Aside0.mk hged
  have p0 : (0 : Int) ≤ ix := HIX.out.1
  have p1 : ix < (D.length : Int) := HIX.out.2
  clear hb2 hblk2 hcl hM hcc hfr hcells hgdl hged hD2
  go_wp2
  (first | go_end0 | ((try simp only [Exit.inBlock, Exit.then]); refine bodyPost_ret (results_none rfl _ _ _) rfl ?_))
  have hg : w2.grownBy (w2.setCell ⟨gd, ix.toNat * 2 + 1, none⟩ (.string d)) (some gd) := HP.out.2
  refine ⟨rfl, ⟨_, _, blk_grown HBLK2.out hg (by have := HNE.out; simpa [Value.ownBlock] using this), HGE.out, Kd.R_over HS2.out HD2.out (by decide) hg, HP.out.1⟩, HB2.out.setCell HGD.out _, ?_⟩
  have h1 := hg.size
  have h2 := HSZ.out
  omega
 ·
  rw [if_neg hix]
  have hixb : decide (0 ≤ ix) = false := decide_eq_false hix
  clear hix hlt
  go_enter Try.func92, Try.ntmps92
  go_wp2_with (fail)
  go_at_call 129
  refine (impl_Flash_dirty.calls A0 c0 S A1 c1 D at_ ix _ (by exact HR0.out) HC0.out (by exact HR1.out) HC1.out HT.out).mono ?_
  rintro e w2 ⟨rfl, hb2⟩
  have HB2 := Aside0.mk (below_then HB.out HBASE.out hb2)
  have HBASE2 := Aside0.mk (Nat.le_trans HBASE.out hb2.size)
  have HSZ := Aside0.mk hb2.size
  have hblk2 := blk_below HBLK.out hb2
  have HBLK2 := Aside0.mk hblk2
  have HS2 := Aside0.mk (Kd.R_below HS.out hb2)
  have hD2 := Kd.R_below HD.out hb2
  have b0 := (blk_cell hblk2 0).trans (rfl : _ = some (Value.slice A0 S.length c0))
  have b1 := (blk_cell hblk2 1).trans (rfl : _ = some (Value.slice A1 D.length c1))
  have HNE := Aside0.mk (Kd.R_ne hD2 hblk2 (by decide))
  have HD2 := Aside0.mk hD2
  clear hb2 hD2 hblk2
  go_wp2_with ((with_reducible refine gate_builtin (b := .append) (xs := #[.tmp 26, .tmp 30]) rfl ?_); at_builtin; refine Kd.R_append k92 (w0 := w0) base rfl (.tmp 26) (.tmp 30) 28 92 (.agg #[.int .i64 0, .string ⟨#[]⟩]) 24 rfl Try.underlying28 info92 rfl (by decide) (by omega) (.slice A1 D.length c1) D (⟨at_, d⟩ : S92) [.int .i64 at_, .string d] (fun _ => True) (fun _ => False) rfl rfl ?aP (fun _ hk => hk.elim) ?aF ?aO ?aB ?aS ?aL ?_; (case aP => exact k92_mkM _ _ _ (⟨at_, d⟩ : S92)); (case aB => exact HB2.out); (case aF => exact (fun _ _ => trivial)); (case aO => exact HD2.out); (case aS => exact HBASE2.out); (case aL => have := HBIG.out; omega); intro v3 w3 ho hb hg hat; obtain ⟨A3, c3, rfl⟩ := Kd.R_slice ho; have HO3 := Aside0.mk ho; have HB3 := Aside0.mk hb; have HG3 := Aside0.mk hg; have hblk3 := blk_grown HBLK2.out hg HNE.out; have HBLK3 := Aside0.mk hblk3; have s1 := blk_cell hblk3 1; have s2 := blk_frozen hblk3 1; clear ho hb hg hat hblk3)
  (first | go_end0 | ((try simp only [Exit.inBlock, Exit.then]); refine bodyPost_ret (results_none rfl _ _ _) rfl ?_))
  refine ⟨rfl, ⟨_, _, by have := blk_set HBLK3.out 1 (.slice A3 (D ++ [(⟨at_, d⟩ : S92)]).length c3); simpa using this, HGE.out, Kd.R_set (Kd.R_over HS2.out HD2.out (by decide) HG3.out) HBLK3.out (by decide) 1 _, Kd.R_set HO3.out HBLK3.out (by decide) 1 _⟩, HB3.out.setCell HGE.out _, ?_⟩
  have h1 := HG3.out.size
  have h2 := HSZ.out
  simp
  omega

theorem FB.still {P : Program} {id : Nat} {Q : Exit → Act → World → Prop} {a : Act} {w : World} {l : List Oper} (n : Nat) (hm : P.follows .mixedOrders = true) (hB : Region.lexTailB .any l.toArray n = true)
  (h : wpStill P l.toArray w.drew (fun a' => wpList P l.toArray Q (l.drop n) a' w.drew) (l.take n) a) : (Code.region id l.toArray true).wp P Q a w := wp_region_still_tail n hm hB h
def impl_Flash_synced (S : List ByteArray) : List S92 → List ByteArray
 | [] => S
 | x :: r => impl_Flash_synced (S.set x.f0.toNat x.f1) r
set_option maxHeartbeats 8000000 in
set_option maxRecDepth 100000 in
theorem impl_Flash_sync.calls (w0 : World) (base g : Nat) (S : List ByteArray) (D : List S92) (w : World) (hF : FB w base g S D) (hB : Below base w0 w) (hbase : base ≤ w.heap.size) (hbig : D.length ≤ 1000000) (hat : ∀ x ∈ D, 0 ≤ x.f0 ∧ x.f0 < (S.length : Int)) :
  Calls Try.prog 80 #[.pointer (some ⟨g, 0, none⟩)] w fun e w' => e = .returned (.tuple #[]) ∧ FB w' base g (impl_Flash_synced S D) [] ∧ Below base w0 w' ∧ w.heap.size ≤ w'.heap.size := by
 have hu30 := Try.underlying30
 have hu92 := Try.underlying92
 obtain ⟨v0, v1, hblk, hge, hS, hD⟩ := hF
 obtain ⟨A0, c0, rfl, hc0, hC0⟩ := Kd.R_reads hS
 obtain ⟨A1, c1, rfl, hc1, hC1⟩ := Kd.R_reads hD
 have b0 := (blk_cell hblk 0).trans (rfl : _ = some (Value.slice A0 S.length c0))
 have b1 := (blk_cell hblk 1).trans (rfl : _ = some (Value.slice A1 D.length c1))
 have HBLK := Aside0.mk hblk
 have HGE := Aside0.mk hge
 have HS := Aside0.mk hS
 have HD := Aside0.mk hD
 have HB := Aside0.mk hB
 have HBASE := Aside0.mk hbase
 have HBIG := Aside0.mk hbig
 have HAT := Aside0.mk hat
 clear hblk hge hS hD hB hbase hc0 hc1 hC0 hC1 hbig hat
 go_enter Try.func80, Try.ntmps80
 go_wp2_with (fail)
 clear b0 b1
 go_loopg [3, 9] D.length (fun gg _ v9 wr => ∃ (kk : Nat) (S' : List ByteArray), v9 = .int .i64 kk ∧ Aside0 (kk ≤ D.length ∧ D.length - kk ≤ gg ∧ S'.length = S.length ∧ w.heap.size ≤ wr.heap.size) ∧ Aside0 (wr.heap[g]? = some (.cells #[.slice A0 S.length c0, .slice A1 D.length c1] 30 (0, 0))) ∧ Aside0 (Kd.R Kd.string 9 wr base (fun _ => True) (.slice A0 S.length c0) S') ∧ Aside0 (Kd.R k92 92 wr base (fun _ => True) (.slice A1 D.length c1) D) ∧ Aside0 (Below base w0 wr) ∧ Aside0 (impl_Flash_synced S D = impl_Flash_synced S' (D.drop kk)))
 case atStart => exact ⟨0, S, rfl, ⟨by omega⟩, HBLK, HS, HD, HB, ⟨rfl⟩⟩
 case round =>
  clear HBLK HS HD HB
  obtain ⟨kk, S', rfl, HN, HBLK, HS, HD, HB, HX⟩ := hrel
  by_cases hlt : kk < D.length
  ·
   have hltz : decide ((kk : Int) < (D.length : Int)) = true := decide_eq_true (by omega)
   have pk : (0 : Int) ≤ (kk : Int) := by omega
   have qk : (kk : Int) < (D.length : Int) := by omega
   have hC1 := (Kd.R_reads' HD.out).2.2
   obtain ⟨ad, rfl, hx0, hx1⟩ := at_T92 hC1 (kk : Int) pk qk
   have hy : rd_T92 D (kk : Int) = D[kk] := by simp [rd_T92, hlt]
   rw [hy] at hx0 hx1
   simp only [Int.toNat_natCast] at hx0 hx1
   have hax := HAT.out D[kk] (List.getElem_mem hlt)
   have HX2 := HX.out
   rw [idxFrom_drop D kk hlt, impl_Flash_synced] at HX2
   clear HX hy hC1
   generalize D[kk] = x at hx0 hx1 hax HX2
   have HX := Aside0.mk HX2
   clear HX2
   obtain ⟨gs, cp, ef, hgs, hgsl, cells, hcells⟩ := Kd.R_form HS.out (by have := HN.out; omega)
   have hS'l := HN.out.2.2.1
   rw [hS'l] at ef
   cases ef
   have hSA := Kd.R_alloc HS.out (.cells #[.int .i64 x.f0, .string x.f1] 92)
   obtain ⟨ce, hcl, hM, hcc, hfr⟩ := Kd.R_elem hSA ByteArray.empty x.f0 hax.1 (by omega)
   have HP := Aside0.mk (Kd.R_seg hSA x.f0 hax.1 (by omega) (seg := [.string x.f1]) (j := 0) (okp := fun _ => False) hcl hcc (Nat.le_refl 1) (x' := x.f1) (by obtain rfl := (show ce = [_] from hM); exact rfl) (fun _ hk => hk.elim))
   have HP1 := HP.out
   simp only [show Kd.string.sz = 1 from rfl, Nat.mul_one, Nat.add_zero] at hcc hfr HP1
   have HPP := Aside0.mk HP1
   obtain rfl := (show ce = [_] from hM)
   have i0 := hcc 0 _ rfl
   have f0 := hfr 0
   simp only [Nat.add_zero] at i0 f0
   have hb0 : ∀ o, (wr.alloc o).cell? ⟨g, 0, none⟩ = some (.slice (some ⟨gs, 0, none⟩) S.length c0) := fun o => (blk_cell (blk_alloc HBLK.out o) 0).trans rfl
   have hb1 : ∀ o, (wr.alloc o).cell? ⟨g, 1, none⟩ = some (.slice (some ad) D.length c1) := fun o => (blk_cell (blk_alloc HBLK.out o) 1).trans rfl
   have px : (0 : Int) ≤ x.f0 := hax.1
   have qx : x.f0 < (S.length : Int) := hax.2
   have HGS := Aside0.mk hgs
   have ek : wrap64 ((kk : Int) + 1) = ((kk + 1 : Nat) : Int) := by have := HBIG.out; unfold wrap64; omega
   have HBA := Aside0.mk (HB.out.alloc (show base ≤ wr.heap.size by have := HN.out; have := HBASE.out; omega) (.cells #[.int .i64 x.f0, .string x.f1] 92))
   have HDA := Aside0.mk (Kd.R_alloc HD.out (.cells #[.int .i64 x.f0, .string x.f1] 92))
   have HBLKA := Aside0.mk (blk_alloc HBLK.out (.cells #[.int .i64 x.f0, .string x.f1] 92))
   have HSA := Aside0.mk hSA
   have HNE := Aside0.mk (Kd.R_ne hSA HBLKA.out (by decide))
   clear hSA hcl hM hcc hfr HP HP1 hgs hgsl hcells hax
   go_wp2
   refine FB.still 8 (by kernel_rfl) (by kernel_rfl) ?_
   simp only [List.take_succ_cons, List.take_zero, List.drop_succ_cons, List.drop_zero]
   repeat still_step
   refine wpStill_nil ?_
   go_wp2
   go_roundg (D.length - (kk + 1))
   case measure => have := HN.out; omega
   case rel =>
    have hg := HPP.out.2
    refine ⟨kk + 1, S'.set x.f0.toNat x.f1, by rw [ek], ⟨by omega, Nat.le_refl _, by rw [List.length_set]; exact HN.out.2.2.1, ?_⟩, ⟨blk_drew (blk_grown HBLKA.out hg (by have := HNE.out; simpa [Value.ownBlock] using this))⟩, ⟨Kd.R_drew HPP.out.1⟩, ⟨Kd.R_drew (Kd.R_over HDA.out HSA.out (by decide) hg)⟩, ⟨below_drew (HBA.out.setCell HGS.out _)⟩, ⟨by rw [HX.out]⟩⟩
    have h1 : (wr.alloc (.cells #[.int .i64 x.f0, .string x.f1] 92)).heap.size ≤ _ := hg.size
    have h2 := HN.out
    simp only [World.alloc, Array.size_push] at h1
    exact Nat.le_trans (show w.heap.size ≤ wr.heap.size + 1 by omega) h1
  ·
   obtain rfl : kk = D.length := by have := HN.out; omega
   have hltz : decide ((D.length : Int) < (D.length : Int)) = false := decide_eq_false (by omega)
   have s1 := blk_cell HBLK.out 1
   have s2 := blk_frozen HBLK.out 1
   have HX2 := HX.out
   rw [List.drop_length, impl_Flash_synced] at HX2
   go_wp2
   (first | go_end0 | ((try simp only [Exit.inBlock, Exit.then]); refine bodyPost_ret (results_none rfl _ _ _) rfl ?_))
   (try rw [HX2])
   refine ⟨rfl, ⟨_, _, by have := blk_set HBLK.out 1 (.slice none 0 0); simpa using this, HGE.out, Kd.R_set HS.out HBLK.out (by decide) 1 _, Kd.R_nil _ _ _ _ _⟩, HB.out.setCell HGE.out _, ?_⟩
   have h2 := HN.out
   simp
   omega

theorem FB.out4 {α : Type} {d : Kd α} {e : Nat} {W : World} {base g : Nat} {cs : Array Value} {v : Value} {xs : List α} (h : d.R e W base (fun _ => True) v xs) (hb : W.heap[g]? = some (.cells cs 35 (0, 0))) (ht : ∀ q, q ∈ e :: d.E → q ≠ 35) (a b c f : Value) :
  d.R e ((((W.setCell ⟨g, 0, none⟩ a).setCell ⟨g, 1, none⟩ b).setCell ⟨g, 2, none⟩ c).setCell ⟨g, 3, none⟩ f) base (fun _ => True) v xs :=
 Kd.R_mono (Kd.R_far (p := ⟨g, 3, none⟩) (Kd.R_far (p := ⟨g, 2, none⟩) (Kd.R_far (p := ⟨g, 1, none⟩) (Kd.R_far (p := ⟨g, 0, none⟩) (Kd.R_types h hb ht) (fun _ hk => hk.2) a) (fun _ hk => hk.2) b) (fun _ hk => hk.2) c) (fun _ hk => hk.2) f) (fun _ _ => trivial)

def impl_FlashSync.okD (S : List ByteArray) (D : List S92) : Bool := decide (D.length ≤ 1000000) && D.all (fun x => decide (0 ≤ x.f0 ∧ x.f0 < (S.length : Int)))
def impl_FlashSync.f (l0_0 : List ByteArray) (l0_1 : List S92) : Option (List ByteArray × List S92 × ByteArray × Int) :=
 (impl_isFlash.f l0_0 l0_1).bind fun t => (if t = true then ((impl_cloneFlash.f l0_0 l0_1).bind fun c => (if impl_FlashSync.okD c.1 c.2 = true then some (impl_Flash_synced c.1 c.2, ([] : List S92), (⟨#[]⟩ : ByteArray), (0 : Int)) else none)) else some (([] : List ByteArray), ([] : List S92), (⟨#[]⟩ : ByteArray), (1 : Int)))
set_option maxHeartbeats 8000000 in
set_option maxRecDepth 100000 in
theorem impl_FlashSync.calls (A0_0 : Option Addr) (c0_0 : Nat) (l0_0 : List ByteArray) (A0_1 : Option Addr) (c0_1 : Nat) (l0_1 : List S92) (r1 : List ByteArray) (r2 : List S92) (r3 : ByteArray) (r4 : Int) (w : World) (hr0_0 : Kd.C Kd.string w A0_0 l0_0.length l0_0) (hc0_0 : l0_0.length ≤ c0_0) (hr0_1 : Kd.C k92 w A0_1 l0_1.length l0_1) (hc0_1 : l0_1.length ≤ c0_1) (h : impl_FlashSync.f l0_0 l0_1 = some (r1, r2, r3, r4)) :
  Calls Try.prog 20 #[.agg #[.slice A0_0 l0_0.length c0_0, .slice A0_1 l0_1.length c0_1]] w fun e w' => ∃ v0_ v1_ : Value, e = .returned (.agg #[v0_, v1_, .string r3, .int .i64 r4]) ∧ Kd.R Kd.string 9 w' w.heap.size (fun _ => True) v0_ r1 ∧ Kd.R k92 92 w' w.heap.size (fun _ => True) v1_ r2 ∧ Below w.heap.size w w' := by
 unfold impl_FlashSync.f at h
 have hu30 := Try.underlying30
 have hu35 := Try.underlying35
 obtain ⟨t, ht, h⟩ := Option.bind_eq_some_iff.1 h
 have HF := Aside0.mk ht
 clear ht
 have HR0 := Aside0.mk hr0_0
 have HC0 := Aside0.mk hc0_0
 have HR1 := Aside0.mk hr0_1
 have HC1 := Aside0.mk hc0_1
 clear hr0_0 hc0_0 hr0_1 hc0_1
 have HX0 := Aside0.mk (blk_alloc (blk_new w (.cells #[.slice A0_0 l0_0.length c0_0, .slice A0_1 l0_1.length c0_1] 30)) (.cells #[.slice none 0 0, .slice none 0 0, .string ⟨#[]⟩, .int .i64 0] 35))
 have hx1_ := blk_new (w.alloc (.cells #[.slice A0_0 l0_0.length c0_0, .slice A0_1 l0_1.length c0_1] 30)) (.cells #[.slice none 0 0, .slice none 0 0, .string ⟨#[]⟩, .int .i64 0] 35)
 rw [show (w.alloc (.cells #[.slice A0_0 l0_0.length c0_0, .slice A0_1 l0_1.length c0_1] 30)).heap.size = w.heap.size + 1 from by simp] at hx1_
 have HX1 := Aside0.mk hx1_
 clear hx1_
 have HW0 := Aside0.mk (show Below w.heap.size w ((w.alloc (.cells #[.slice A0_0 l0_0.length c0_0, .slice A0_1 l0_1.length c0_1] 30)).alloc (.cells #[.slice none 0 0, .slice none 0 0, .string ⟨#[]⟩, .int .i64 0] 35)) from below_alloc (below_alloc (Below.refl _ _) _) _)
 cases t with
 | true =>
  simp only [if_true] at h
  obtain ⟨c, hc, h⟩ := Option.bind_eq_some_iff.1 h
  obtain ⟨cS, cD⟩ := c
  by_cases hok : impl_FlashSync.okD cS cD = true
  ·
   simp only [hok, if_true, Option.some.injEq, Prod.mk.injEq] at h
   obtain ⟨rfl, rfl, rfl, rfl⟩ := h
   unfold impl_FlashSync.okD at hok
   simp only [Bool.and_eq_true, decide_eq_true_eq, List.all_eq_true] at hok
   have HOK := Aside0.mk hok
   have HCL := Aside0.mk hc
   clear hok hc
   go_enter Try.func20, Try.ntmps20
   go_wp2_with (fail)
   go_at_call 74
   refine (impl_isFlash.calls A0_0 c0_0 l0_0 A0_1 c0_1 l0_1 true _ (Kd.C_below HR0.out HW0.out) HC0.out (Kd.C_below HR1.out HW0.out) HC1.out HF.out).mono ?_
   rintro e w1 ⟨rfl, hb1⟩
   have HB1 := Aside0.mk (below_step HW0.out hb1)
   have hx0 := blk_below (by exact HX0.out) hb1
   have hx1 := blk_below (by exact HX1.out) hb1
   have HX01 := Aside0.mk hx0
   have HX11 := Aside0.mk hx1
   clear hb1
   have b0 := (blk_cell HX01.out 0).trans (rfl : _ = some (Value.slice A0_0 l0_0.length c0_0))
   have b1 := (blk_cell HX01.out 1).trans (rfl : _ = some (Value.slice A0_1 l0_1.length c0_1))
   clear hx0 hx1
   go_wp2_with (fail)
   go_at_call 79
   refine (impl_cloneFlash.calls A0_0 c0_0 l0_0 A0_1 c0_1 l0_1 cS cD _ (by repeat (first | exact (Kd.C_below HR0.out HB1.out) | (with_reducible refine Kd.C_drewN ?_ _))) HC0.out (by repeat (first | exact (Kd.C_below HR1.out HB1.out) | (with_reducible refine Kd.C_drewN ?_ _))) HC1.out HCL.out).mono ?_
   rintro e w2 ⟨v0, v1, rfl, hS, hD, hb2⟩
   obtain ⟨As, cs, rfl⟩ := Kd.R_slice hS
   obtain ⟨Ad, cd, rfl⟩ := Kd.R_slice hD
   have HFB := Aside0.mk (show FB (w2.alloc (.cells #[.slice As cS.length cs, .slice Ad cD.length cd] 30)) w1.heap.size w2.heap.size cS cD from ⟨_, _, blk_new _ _, hb2.size, Kd.R_alloc hS _, Kd.R_alloc hD _⟩)
   have HB2 := Aside0.mk (show Below w1.heap.size w1 (w2.alloc (.cells #[.slice As cS.length cs, .slice Ad cD.length cd] 30)) from below_alloc hb2 _)
   clear hS hD hb2
   go_wp2_with (fail)
   go_at_call 80
   refine (impl_Flash_sync.calls w1 w1.heap.size _ cS cD _ (by exact HFB.out) (by exact HB2.out) HB2.out.size HOK.out.1 HOK.out.2).mono ?_
   rintro e w3 ⟨rfl, hF3, hb3, _⟩
   obtain ⟨u0, u1, hk3, hg3, hS3, hD3⟩ := hF3
   obtain ⟨Au, cu, rfl⟩ := Kd.R_slice hS3
   obtain ⟨Av, cv, rfl⟩ := Kd.R_slice hD3
   have e0 := (blk_cell hk3 0).trans (rfl : _ = some (Value.slice Au _ cu))
   have e1 := (blk_cell hk3 1).trans (rfl : _ = some (Value.slice Av _ cv))
   have hx3 := (hb3.block (w.heap.size + 1) (blk_lt HX11.out)).trans HX11.out
   have HX3 := Aside0.mk hx3
   have HS3 := Aside0.mk hS3
   have HD3 := Aside0.mk hD3
   have HB3 := Aside0.mk (below_step HB1.out hb3)
   have oc0 := blk_cell hx3 0
   have of0 := blk_frozen hx3 0
   have oc1 := blk_cell hx3 1
   have of1 := blk_frozen hx3 1
   have oc2 := blk_cell hx3 2
   have of2 := blk_frozen hx3 2
   have oc3 := blk_cell hx3 3
   have of3 := blk_frozen hx3 3
   clear hk3 hg3 hS3 hD3 hb3 hx3
   go_wp2
   refine bodyPost_ret (results_cell_row rfl _ _ (w.heap.size + 1) 35 #[.slice Au (impl_Flash_synced cS cD).length cu, .slice Av ([] : List S92).length cv, .string ⟨#[]⟩, .int .i64 0] (0, 0) _ rfl (by refine blk_put (cs := #[.slice Au (impl_Flash_synced cS cD).length cu, .slice Av ([] : List S92).length cv, .string ⟨#[]⟩, .int .i64 0]) ?_ 3 _ rfl; refine blk_put (cs := #[.slice Au (impl_Flash_synced cS cD).length cu, .slice Av ([] : List S92).length cv, .string ⟨#[]⟩, .int .i64 0]) ?_ 2 _ rfl; refine blk_put (cs := #[.slice Au (impl_Flash_synced cS cD).length cu, .slice none 0 0, .string ⟨#[]⟩, .int .i64 0]) ?_ 1 _ rfl; refine blk_put (cs := #[.slice none 0 0, .slice none 0 0, .string ⟨#[]⟩, .int .i64 0]) ?_ 0 _ rfl; (repeat (first | exact HX3.out | refine blk_drewN ?_ _ | refine blk_drew ?_))) Try.underlying35 rfl (by kernel_rfl)) rfl ?_
   exact ⟨_, _, rfl, Kd.R_lower (FB.out4 HS3.out HX3.out (by decide) _ _ _ _) HB1.out.size, Kd.R_lower (FB.out4 HD3.out HX3.out (by decide) _ _ _ _) HB1.out.size, ((((show Below w.heap.size w _ from by first | exact HB3.out | exact pw_below_drewN HB3.out _).setCell (Nat.le_succ _) _).setCell (Nat.le_succ _) _).setCell (Nat.le_succ _) _).setCell (Nat.le_succ _) _⟩
  ·
   simp only [hok] at h; cases h
 | false =>
  simp only [Bool.false_eq_true, if_false, Option.some.injEq, Prod.mk.injEq] at h
  obtain ⟨rfl, rfl, rfl, rfl⟩ := h
  go_enter Try.func20, Try.ntmps20
  go_wp2_with (fail)
  go_at_call 74
  refine (impl_isFlash.calls A0_0 c0_0 l0_0 A0_1 c0_1 l0_1 false _ (Kd.C_below HR0.out HW0.out) HC0.out (Kd.C_below HR1.out HW0.out) HC1.out HF.out).mono ?_
  rintro e w1 ⟨rfl, hb1⟩
  have HB1 := Aside0.mk (below_step HW0.out hb1)
  have hx0 := blk_below (by exact HX0.out) hb1
  have hx1 := blk_below (by exact HX1.out) hb1
  have HX01 := Aside0.mk hx0
  have HX11 := Aside0.mk hx1
  clear hb1
  have oc0 := blk_cell hx1 0
  have of0 := blk_frozen hx1 0
  have oc1 := blk_cell hx1 1
  have of1 := blk_frozen hx1 1
  have oc2 := blk_cell hx1 2
  have of2 := blk_frozen hx1 2
  have oc3 := blk_cell hx1 3
  have of3 := blk_frozen hx1 3
  clear hx0 hx1
  go_wp2
  refine bodyPost_ret (results_cell_row rfl _ _ (w.heap.size + 1) 35 #[.slice none 0 0, .slice none 0 0, .string ⟨#[]⟩, .int .i64 1] (0, 0) _ rfl (by refine blk_put (cs := #[.slice none 0 0, .slice none 0 0, .string ⟨#[]⟩, .int .i64 0]) ?_ 3 _ rfl; refine blk_put (cs := #[.slice none 0 0, .slice none 0 0, .string ⟨#[]⟩, .int .i64 0]) ?_ 2 _ rfl; refine blk_put (cs := #[.slice none 0 0, .slice none 0 0, .string ⟨#[]⟩, .int .i64 0]) ?_ 1 _ rfl; refine blk_put (cs := #[.slice none 0 0, .slice none 0 0, .string ⟨#[]⟩, .int .i64 0]) ?_ 0 _ rfl; (repeat (first | exact HX11.out | refine blk_drewN ?_ _ | refine blk_drew ?_))) Try.underlying35 rfl (by kernel_rfl)) rfl ?_
  exact ⟨_, _, rfl, Kd.R_nil _ _ _ _ _, Kd.R_nil _ _ _ _ _, ((((show Below w.heap.size w _ from by first | exact HB1.out | exact pw_below_drewN HB1.out _).setCell (Nat.le_succ _) _).setCell (Nat.le_succ _) _).setCell (Nat.le_succ _) _).setCell (Nat.le_succ _) _⟩


/-! ### impl_FlashCrash: function 34 -/
def impl_Flash_crashed (fates : List Int) : List S92 → Int → List ByteArray → Option (List ByteArray)
 | [], _, S => some S
 | x :: r, i, S => (impl_torn.f (rdOf ByteArray.empty S x.f0) x.f1 (if i < (fates.length : Int) then rd fates i else 0)).bind fun t => impl_Flash_crashed fates r (i + 1) (S.set x.f0.toNat t)
def impl_Flash_crash.T6 : Bool × List (List Nat × List Nat) := (true, [([], []), ([0], [0]), ([1], [1]), ([2], [2]), ([], []), ([4], [4]), ([], []), ([6], [6]), ([7], [7]), ([8], [8]), ([], []), ([10], [10]), ([9, 11], [9, 11]), ([12], [12]), ([], []), ([14], [14]), ([], []), ([13, 15, 16], [13, 15, 16]), ([3, 5, 0, 1, 2, 3, 4, 5, 6, 7, 8, 9, 10, 11, 12, 13, 14, 15, 16, 17], [3, 5]), ([18, 17, 17, 0, 1, 2, 3, 4, 5, 6, 7, 8, 9, 10, 11, 12, 13, 14, 15, 16, 17], [17, 18])])
def impl_Flash_crash.B6 : List Nat := [0, 1, 3, 7, 0, 16, 0, 64, 192, 448, 0, 1024, 4032, 8128, 0, 16384, 0, 131008, 262143, 524287]
theorem impl_Flash_crash.tab6 : rtab .any (opsOf Try.f93 6) = impl_Flash_crash.T6 := by kernel_rfl
theorem impl_Flash_crash.bits6 : waitsOk impl_Flash_crash.T6.2 impl_Flash_crash.B6 = true := by kernel_rfl
set_option maxHeartbeats 8000000 in
set_option maxRecDepth 100000 in
theorem impl_Flash_crash.calls (w0 : World) (base g : Nat) (S : List ByteArray) (D : List S92) (A2 : Option Addr) (c2 : Nat) (l2 : List Int) (R : List ByteArray) (w : World) (hF : FB w base g S D) (hB : Below base w0 w) (hbase : base ≤ w.heap.size) (hbig : D.length ≤ 1000000) (hat : ∀ x ∈ D, 0 ≤ x.f0 ∧ x.f0 < (S.length : Int)) (hw0 : w0.heap.size ≤ base) (hr2 : Kd.C (Kd.int .i64) w0 A2 l2.length l2) (hc2 : l2.length ≤ c2) (h2 : l2.length ≤ 9223372036854775807) (hR : impl_Flash_crashed l2 D 0 S = some R) :
  Calls Try.prog 93 #[.pointer (some ⟨g, 0, none⟩), .slice A2 l2.length c2] w fun e w' => e = .returned (.tuple #[]) ∧ FB w' base g R [] ∧ Below base w0 w' ∧ w.heap.size ≤ w'.heap.size := by
 have hu30 := Try.underlying30
 have hu92 := Try.underlying92
 obtain ⟨v0, v1, hblk, hge, hS, hD⟩ := hF
 obtain ⟨A0, c0, rfl, hc0, hC0⟩ := Kd.R_reads hS
 obtain ⟨A1, c1, rfl, hc1, hC1⟩ := Kd.R_reads hD
 have b0 := (blk_cell hblk 0).trans (rfl : _ = some (Value.slice A0 S.length c0))
 have b1 := (blk_cell hblk 1).trans (rfl : _ = some (Value.slice A1 D.length c1))
 have HBLK := Aside0.mk hblk
 have HGE := Aside0.mk hge
 have HS := Aside0.mk hS
 have HD := Aside0.mk hD
 have HB := Aside0.mk hB
 have HBASE := Aside0.mk hbase
 have HBIG := Aside0.mk hbig
 have HAT := Aside0.mk hat
 have HW0 := Aside0.mk hw0
 have HR2 := Aside0.mk hr2
 have HC2 := Aside0.mk hc2
 have HL2 := Aside0.mk h2
 have HRR := Aside0.mk hR
 clear hblk hge hS hD hB hbase hc0 hc1 hC0 hC1 hbig hat hw0 hr2 hc2 h2 hR
 go_enter Try.func93, Try.ntmps93
 go_wp2_with (fail)
 clear b0 b1
 go_loopg [4, 5, 6, 12] D.length (fun gg _ _ _ v9 wr => ∃ (kk : Nat) (S' : List ByteArray), v9 = .int .i64 kk ∧ Aside0 (kk ≤ D.length ∧ D.length - kk ≤ gg ∧ S'.length = S.length ∧ w.heap.size ≤ wr.heap.size) ∧ Aside0 (wr.heap[g]? = some (.cells #[.slice A0 S.length c0, .slice A1 D.length c1] 30 (0, 0))) ∧ Aside0 (Kd.R Kd.string 9 wr base (fun _ => True) (.slice A0 S.length c0) S') ∧ Aside0 (Kd.R k92 92 wr base (fun _ => True) (.slice A1 D.length c1) D) ∧ Aside0 (Below base w0 wr) ∧ Aside0 (impl_Flash_crashed l2 (D.drop kk) (kk : Int) S' = some R))
 case atStart => exact ⟨0, S, rfl, ⟨by omega⟩, HBLK, HS, HD, HB, ⟨HRR.out⟩⟩
 case round =>
  clear HBLK HS HD HB HRR
  obtain ⟨kk, S', rfl, HN, HBLK, HS, HD, HB, HX⟩ := hrel
  by_cases hlt : kk < D.length
  ·
   have hltz : decide ((kk : Int) < (D.length : Int)) = true := decide_eq_true (by omega)
   have pk : (0 : Int) ≤ (kk : Int) := by omega
   have qk : (kk : Int) < (D.length : Int) := by omega
   have hC1 := (Kd.R_reads' HD.out).2.2
   obtain ⟨ad, rfl, hx0, hx1⟩ := at_T92 hC1 (kk : Int) pk qk
   have hy : rd_T92 D (kk : Int) = D[kk] := by simp [rd_T92, hlt]
   rw [hy] at hx0 hx1
   simp only [Int.toNat_natCast] at hx0 hx1
   have hax := HAT.out D[kk] (List.getElem_mem hlt)
   have HX2 := HX.out
   rw [idxFrom_drop D kk hlt, impl_Flash_crashed] at HX2
   clear HX hy hC1
   generalize D[kk] = x at hx0 hx1 hax HX2
   obtain ⟨tv, htv, HX2⟩ := Option.bind_eq_some_iff.1 HX2
   have HX := Aside0.mk HX2
   clear HX2
   obtain ⟨gs, cp, ef, hgs, hgsl, cells, hcells⟩ := Kd.R_form HS.out (by have := HN.out; omega)
   have hS'l := HN.out.2.2.1
   rw [hS'l] at ef
   cases ef
   have hSA := Kd.R_alloc HS.out (.cells #[.int .i64 x.f0, .string x.f1] 92)
   obtain ⟨ce, hcl, hM, hcc, hfr⟩ := Kd.R_elem hSA ByteArray.empty x.f0 hax.1 (by omega)
   simp only [show Kd.string.sz = 1 from rfl, Nat.mul_one, Nat.add_zero] at hcc hfr
   obtain rfl := (show ce = [_] from hM)
   have i0 : (wr.alloc (.cells #[.int .i64 x.f0, .string x.f1] 92)).cell? ⟨gs, x.f0.toNat, none⟩ = some (.string (rdOf ByteArray.empty S' x.f0)) := hcc 0 _ rfl
   have hb0 : ∀ o, (wr.alloc o).cell? ⟨g, 0, none⟩ = some (.slice (some ⟨gs, 0, none⟩) S.length c0) := fun o => (blk_cell (blk_alloc HBLK.out o) 0).trans rfl
   have hb1 : ∀ o, (wr.alloc o).cell? ⟨g, 1, none⟩ = some (.slice (some ad) D.length c1) := fun o => (blk_cell (blk_alloc HBLK.out o) 1).trans rfl
   have px : (0 : Int) ≤ x.f0 := hax.1
   have qx : x.f0 < (S.length : Int) := hax.2
   have HGS := Aside0.mk hgs
   have ek : wrap64 ((kk : Int) + 1) = ((kk + 1 : Nat) : Int) := by have := HBIG.out; unfold wrap64; omega
   have HBA := Aside0.mk (HB.out.alloc (show base ≤ wr.heap.size by have := HN.out; have := HBASE.out; omega) (.cells #[.int .i64 x.f0, .string x.f1] 92))
   have HDA := Aside0.mk (Kd.R_alloc HD.out (.cells #[.int .i64 x.f0, .string x.f1] 92))
   have HBLKA := Aside0.mk (blk_alloc HBLK.out (.cells #[.int .i64 x.f0, .string x.f1] 92))
   have HSA := Aside0.mk hSA
   have HNE := Aside0.mk (Kd.R_ne hSA HBLKA.out (by decide))
   have HSD := Aside0.mk (Kd.R_drew HSA.out)
   have HDD := Aside0.mk (Kd.R_drew HDA.out)
   have HBLKD := Aside0.mk (blk_drew HBLKA.out)
   have HND := Aside0.mk (blk_drew (blk_new wr (.cells #[.int .i64 x.f0, .string x.f1] 92)))
   have HBD := Aside0.mk (below_drew HBA.out)
   have HZD := Aside0.mk (show (wr.alloc (.cells #[.int .i64 x.f0, .string x.f1] 92)).drew.heap.size = wr.heap.size + 1 by show (wr.alloc _).heap.size = _; simp)
   have I0 := Aside0.mk (show (wr.alloc (.cells #[.int .i64 x.f0, .string x.f1] 92)).drew.cell? ⟨gs, x.f0.toNat, none⟩ = some (.string (rdOf ByteArray.empty S' x.f0)) from i0)
   clear hSA hcl hM hcc hfr hgs hgsl hcells i0 hb0 hb1
   by_cases hfl : kk < l2.length
   ·
    have hfb : decide ((kk : Int) < (l2.length : Int)) = true := decide_eq_true (by omega)
    have hfc : decide (kk < l2.length) = true := decide_eq_true hfl
    have qf : (kk : Int) < (l2.length : Int) := by omega
    rw [if_pos qf] at htv
    have HTV := Aside0.mk htv
    obtain ⟨af, rfl, hf0⟩ := Kd.at_int HR2.out (kk : Int) pk qf
    simp only [Int.toNat_natCast] at hf0
    have hbl := World.block_lt_of_cell? _ _ hf0
    replace hf0 := (HBA.out.cell (Nat.lt_of_lt_of_le hbl HW0.out)).trans hf0
    clear htv hfl hbl
    go_wp2
    refine start_ (n := 20) (S := fun w' => w'.cell? ⟨g, 0, none⟩ = some (.slice (some ⟨gs, 0, none⟩) S.length c0) ∧ w'.cell? ⟨wr.heap.size, 0, none⟩ = some (.int .i64 x.f0) ∧ w'.cell? ⟨wr.heap.size, 1, none⟩ = some (.string x.f1) ∧ w'.cell? ⟨gs, x.f0.toNat, none⟩ = some (.string (rdOf ByteArray.empty S' x.f0))) (ds := [19]) #[false, false, false, false, false, false, false, false, false, false, false, false, false, false, false, false, false, false, false, false] (by kernel_rfl) rfl rfl ⟨(blk_cell HBLKD.out 0).trans rfl, (blk_cell HND.out 0).trans rfl, (blk_cell HND.out 1).trans rfl, I0.out⟩ (fun hHeld => ?_)
    refine with_tabW impl_Flash_crash.tab6 impl_Flash_crash.bits6 (fun HT_ HW_ => ?_)
    generalize (wr.alloc (.cells #[.int .i64 x.f0, .string x.f1] 92)).drew = wd at HSD HDD HBLKD HND HBD HZD I0 hHeld ⊢
    refine pure_ (i := 0) (N := some 25) (v := ?_) (a' := ?_) #[true, false, false, false, false, false, false, false, false, false, false, false, false, false, false, false, false, false, false, false] rfl rfl (any_of HT_.out (by kernel_rfl)) (fun _ _ _ h => h) (Or.inl ⟨by rfl, ?_⟩) ?_ ?_
    rotate_left
    ·
     intro w'
     go_simp
     with_reducible rfl
    rotate_left
    ·
     simp only [Act.put, List.setIfInBounds_toArray, List.set_cons_zero, List.set_cons_succ, i64_w, i32_w]
     rfl
    refine pure_ (i := 1) (N := some 26) (v := ?_) (a' := ?_) #[true, true, false, false, false, false, false, false, false, false, false, false, false, false, false, false, false, false, false, false] rfl rfl (any_of HT_.out (by kernel_rfl)) (fun _ _ _ h => h) (Or.inl ⟨by rfl, ?_⟩) ?_ ?_
    rotate_left
    ·
     intro w'
     go_simp
     with_reducible rfl
    rotate_left
    ·
     simp only [Act.put, List.setIfInBounds_toArray, List.set_cons_zero, List.set_cons_succ, i64_w, i32_w]
     rfl
    refine pure_ (i := 2) (N := some 27) (v := ?_) (a' := ?_) #[true, true, true, false, false, false, false, false, false, false, false, false, false, false, false, false, false, false, false, false] rfl rfl (any_of HT_.out (by kernel_rfl)) (fun _ _ _ h => h) (Or.inl ⟨by rfl, ?_⟩) ?_ ?_
    rotate_left
    ·
     intro w'
     go_simp
     with_reducible rfl
    rotate_left
    ·
     simp only [Act.put, List.setIfInBounds_toArray, List.set_cons_zero, List.set_cons_succ, i64_w, i32_w]
     rfl
    refine take_ (i := 3) (N := some 28) (v := ?_) (a' := ?_) #[true, true, true, true, false, false, false, false, false, false, false, false, false, false, false, false, false, false, false, false] rfl rfl (take_ofW HT_.out HW_.out (by kernel_rfl)) (fun _ _ _ h => h) (Or.inl ⟨by rfl, ?_⟩) hHeld ?_ ?_
    rotate_left
    ·
     rintro w' ⟨s0, s1, s2, s3⟩
     go_simp
     with_reducible rfl
    rotate_left
    ·
     simp only [Act.put, List.setIfInBounds_toArray, List.set_cons_zero, List.set_cons_succ, i64_w, i32_w]
     rfl
    refine pure_ (i := 4) (N := some 29) (v := ?_) (a' := ?_) #[true, true, true, true, true, false, false, false, false, false, false, false, false, false, false, false, false, false, false, false] rfl rfl (any_of HT_.out (by kernel_rfl)) (fun _ _ _ h => h) (Or.inl ⟨by rfl, ?_⟩) ?_ ?_
    rotate_left
    ·
     intro w'
     go_simp
     with_reducible rfl
    rotate_left
    ·
     simp only [Act.put, List.setIfInBounds_toArray, List.set_cons_zero, List.set_cons_succ, i64_w, i32_w]
     rfl
    refine take_ (i := 5) (N := some 30) (v := ?_) (a' := ?_) #[true, true, true, true, true, true, false, false, false, false, false, false, false, false, false, false, false, false, false, false] rfl rfl (take_ofW HT_.out HW_.out (by kernel_rfl)) (fun _ _ _ h => h) (Or.inl ⟨by rfl, ?_⟩) hHeld ?_ ?_
    rotate_left
    ·
     rintro w' ⟨s0, s1, s2, s3⟩
     go_simp
     with_reducible rfl
    rotate_left
    ·
     simp only [Act.put, List.setIfInBounds_toArray, List.set_cons_zero, List.set_cons_succ, i64_w, i32_w]
     rfl
    refine pure_ (i := 6) (N := some 31) (v := ?_) (a' := ?_) #[true, true, true, true, true, true, true, false, false, false, false, false, false, false, false, false, false, false, false, false] rfl rfl (any_of HT_.out (by kernel_rfl)) (fun _ _ _ h => h) (Or.inl ⟨by rfl, ?_⟩) ?_ ?_
    rotate_left
    ·
     intro w'
     go_simp
     with_reducible rfl
    rotate_left
    ·
     simp only [Act.put, List.setIfInBounds_toArray, List.set_cons_zero, List.set_cons_succ, i64_w, i32_w]
     rfl
    refine pure_ (i := 7) (N := some 32) (v := ?_) (a' := ?_) #[true, true, true, true, true, true, true, true, false, false, false, false, false, false, false, false, false, false, false, false] rfl rfl (any_of HT_.out (by kernel_rfl)) (fun _ _ _ h => h) (Or.inl ⟨by rfl, ?_⟩) ?_ ?_
    rotate_left
    ·
     intro w'
     go_simp
     with_reducible rfl
    rotate_left
    ·
     simp only [Act.put, List.setIfInBounds_toArray, List.set_cons_zero, List.set_cons_succ, i64_w, i32_w]
     rfl
    refine pure_ (i := 8) (N := some 33) (v := ?_) (a' := ?_) #[true, true, true, true, true, true, true, true, true, false, false, false, false, false, false, false, false, false, false, false] rfl rfl (any_of HT_.out (by kernel_rfl)) (fun _ _ _ h => h) (Or.inl ⟨by rfl, ?_⟩) ?_ ?_
    rotate_left
    ·
     intro w'
     go_simp
     with_reducible rfl
    rotate_left
    ·
     simp only [Act.put, List.setIfInBounds_toArray, List.set_cons_zero, List.set_cons_succ, i64_w, i32_w]
     rfl
    refine take_ (i := 9) (N := some 34) (v := ?_) (a' := ?_) #[true, true, true, true, true, true, true, true, true, true, false, false, false, false, false, false, false, false, false, false] rfl rfl (take_ofW HT_.out HW_.out (by kernel_rfl)) (fun _ _ _ h => h) (Or.inl ⟨by rfl, ?_⟩) hHeld ?_ ?_
    rotate_left
    ·
     rintro w' ⟨s0, s1, s2, s3⟩
     go_simp
     with_reducible rfl
    rotate_left
    ·
     simp only [Act.put, List.setIfInBounds_toArray, List.set_cons_zero, List.set_cons_succ, i64_w, i32_w]
     rfl
    refine pure_ (i := 10) (N := some 35) (v := ?_) (a' := ?_) #[true, true, true, true, true, true, true, true, true, true, true, false, false, false, false, false, false, false, false, false] rfl rfl (any_of HT_.out (by kernel_rfl)) (fun _ _ _ h => h) (Or.inl ⟨by rfl, ?_⟩) ?_ ?_
    rotate_left
    ·
     intro w'
     go_simp
     with_reducible rfl
    rotate_left
    ·
     simp only [Act.put, List.setIfInBounds_toArray, List.set_cons_zero, List.set_cons_succ, i64_w, i32_w]
     rfl
    refine take_ (i := 11) (N := some 36) (v := ?_) (a' := ?_) #[true, true, true, true, true, true, true, true, true, true, true, true, false, false, false, false, false, false, false, false] rfl rfl (take_ofW HT_.out HW_.out (by kernel_rfl)) (fun _ _ _ h => h) (Or.inl ⟨by rfl, ?_⟩) hHeld ?_ ?_
    rotate_left
    ·
     rintro w' ⟨s0, s1, s2, s3⟩
     go_simp
     with_reducible rfl
    rotate_left
    ·
     simp only [Act.put, List.setIfInBounds_toArray, List.set_cons_zero, List.set_cons_succ, i64_w, i32_w]
     rfl
    refine pure_ (i := 12) (N := some 37) (v := ?_) (a' := ?_) #[true, true, true, true, true, true, true, true, true, true, true, true, true, false, false, false, false, false, false, false] rfl rfl (any_of HT_.out (by kernel_rfl)) (fun _ _ _ h => h) (Or.inl ⟨by rfl, ?_⟩) ?_ ?_
    rotate_left
    ·
     intro w'
     go_simp
     with_reducible rfl
    rotate_left
    ·
     simp only [Act.put, List.setIfInBounds_toArray, List.set_cons_zero, List.set_cons_succ, i64_w, i32_w]
     rfl
    refine take_ (i := 13) (N := some 38) (v := ?_) (a' := ?_) #[true, true, true, true, true, true, true, true, true, true, true, true, true, true, false, false, false, false, false, false] rfl rfl (take_ofW HT_.out HW_.out (by kernel_rfl)) (fun _ _ _ h => h) (Or.inl ⟨by rfl, ?_⟩) hHeld ?_ ?_
    rotate_left
    ·
     rintro w' ⟨s0, s1, s2, s3⟩
     go_simp
     with_reducible rfl
    rotate_left
    ·
     simp only [Act.put, List.setIfInBounds_toArray, List.set_cons_zero, List.set_cons_succ, i64_w, i32_w]
     rfl
    refine pure_ (i := 14) (N := some 39) (v := ?_) (a' := ?_) #[true, true, true, true, true, true, true, true, true, true, true, true, true, true, true, false, false, false, false, false] rfl rfl (any_of HT_.out (by kernel_rfl)) (fun _ _ _ h => h) (Or.inl ⟨by rfl, ?_⟩) ?_ ?_
    rotate_left
    ·
     intro w'
     go_simp
     with_reducible rfl
    rotate_left
    ·
     simp only [Act.put, List.setIfInBounds_toArray, List.set_cons_zero, List.set_cons_succ, i64_w, i32_w]
     rfl
    refine take_ (i := 15) (N := some 40) (v := ?_) (a' := ?_) #[true, true, true, true, true, true, true, true, true, true, true, true, true, true, true, true, false, false, false, false] rfl rfl (take_ofW HT_.out HW_.out (by kernel_rfl)) (fun _ _ _ h => h) (Or.inl ⟨by rfl, ?_⟩) hHeld ?_ ?_
    rotate_left
    ·
     rintro w' ⟨s0, s1, s2, s3⟩
     go_simp
     with_reducible rfl
    rotate_left
    ·
     simp only [Act.put, List.setIfInBounds_toArray, List.set_cons_zero, List.set_cons_succ, i64_w, i32_w]
     rfl
    refine pure_ (i := 16) (N := some 41) (v := ?_) (a' := ?_) #[true, true, true, true, true, true, true, true, true, true, true, true, true, true, true, true, true, false, false, false] rfl rfl (any_of HT_.out (by kernel_rfl)) (fun _ _ _ h => h) (Or.inl ⟨by rfl, ?_⟩) ?_ ?_
    rotate_left
    ·
     intro w'
     go_simp
     with_reducible rfl
    rotate_left
    ·
     simp only [Act.put, List.setIfInBounds_toArray, List.set_cons_zero, List.set_cons_succ, i64_w, i32_w]
     rfl
    refine one_ (i := 17) (N := some 42) #[true, true, true, true, true, true, true, true, true, true, true, true, true, true, true, true, true, true, false, false] rfl rfl (one_of HT_.out (by kernel_rfl)) (by decide) (fun K hK => ?_)
    refine goes_ Try.func117 (by kernel_rfl) rfl #[.string (rdOf ByteArray.empty S' x.f0), .string x.f1, .int .i64 (rd l2 (kk : Int))] (by rfl) rfl rfl (by (try simp only [List.map_toArray, List.map_cons, List.map_nil]); first | done | rfl) ?_
    refine (impl_torn.calls _ x.f1 _ tv _ HTV.out).mono ?_
    rintro e w2 ⟨rfl, hb2⟩
    refine ⟨_, rfl, ?_⟩
    have hS2 := Kd.R_below HSD.out hb2
    have HD2 := Aside0.mk (Kd.R_below HDD.out hb2)
    have HB2 := Aside0.mk (below_then HBD.out (show base ≤ wd.heap.size by have h1 := HN.out; have h2 := HBASE.out; have h3 := HZD.out; omega) hb2)
    have HBLK2 := Aside0.mk (blk_below HBLKD.out hb2)
    have HN2 := Aside0.mk (blk_below HND.out hb2)
    have HZ2 := Aside0.mk hb2.size
    obtain ⟨ce2, hcl2, hM2, hcc2, hfr2⟩ := Kd.R_elem hS2 ByteArray.empty x.f0 hax.1 (by omega)
    have HP1 := Kd.R_seg hS2 x.f0 hax.1 (by omega) (seg := [.string tv]) (j := 0) (okp := fun _ => False) hcl2 hcc2 (Nat.le_refl 1) (x' := tv) (by obtain rfl := (show ce2 = [_] from hM2); exact rfl) (fun _ hk => hk.elim)
    simp only [show Kd.string.sz = 1 from rfl, Nat.mul_one, Nat.add_zero] at hcc2 hfr2 HP1
    have HPP := Aside0.mk HP1
    obtain rfl := (show ce2 = [_] from hM2)
    have j0 : w2.cell? ⟨gs, x.f0.toNat, none⟩ = some (.string (rdOf ByteArray.empty S' x.f0)) := hcc2 0 _ rfl
    have k0 : w2.frozen? ⟨gs, x.f0.toNat, none⟩ = false := hfr2 0
    have HNE2 := Aside0.mk (Kd.R_ne hS2 HBLK2.out (by decide))
    have HS2 := Aside0.mk hS2
    clear hS2 hcl2 hM2 hcc2 hfr2 HP1 hb2
    refine hK.out _ _ ⟨(blk_cell HBLK2.out 0).trans rfl, (blk_cell HN2.out 0).trans rfl, (blk_cell HN2.out 1).trans rfl, j0⟩ (fun hHeld => ?_)
    clear hK K
    refine norm_ (a' := ?_) ?_ ?_
    rotate_left
    ·
     show Act.put _ (some 42) _ = _
     simp only [Act.put, List.setIfInBounds_toArray, List.set_cons_zero, List.set_cons_succ, i64_w, i32_w]
     rfl
    refine pure_ (i := 18) (N := some 43) (v := ?_) (a' := ?_) #[true, true, true, true, true, true, true, true, true, true, true, true, true, true, true, true, true, true, true, false] rfl rfl (any_of HT_.out (by kernel_rfl)) (fun _ _ _ h => h) (Or.inl ⟨by rfl, ?_⟩) ?_ ?_
    rotate_left
    ·
     intro w'
     go_simp
     with_reducible rfl
    rotate_left
    ·
     simp only [Act.put, List.setIfInBounds_toArray, List.set_cons_zero, List.set_cons_succ, i64_w, i32_w]
     rfl
    refine last_ (i := 19) (N := none) #[true, true, true, true, true, true, true, true, true, true, true, true, true, true, true, true, true, true, true, true] rfl rfl (one_of HT_.out (by kernel_rfl)) (by decide) (fun K hK => ?_)
    refine skip_ (w1 := ?_) (by rfl) rfl ?_ ?_
    rotate_left
    ·
     go_simp
     rfl
    refine hK.out _ _ ?_
    clear hK K
    refine done_ (done_of HT_.out (by kernel_rfl)) ?_
    try go_wp2
    go_roundg (D.length - (kk + 1))
    case measure => have := HN.out; omega
    case rel =>
     have hg := HPP.out.2
     refine ⟨kk + 1, S'.set x.f0.toNat tv, by rw [ek], ⟨by omega, Nat.le_refl _, by rw [List.length_set]; exact HN.out.2.2.1, ?_⟩, ⟨blk_grown HBLK2.out hg (by have := HNE2.out; simpa [Value.ownBlock] using this)⟩, ⟨HPP.out.1⟩, ⟨Kd.R_over HD2.out HS2.out (by decide) hg⟩, ⟨HB2.out.setCell HGS.out _⟩, ⟨by have e : ((kk + 1 : Nat) : Int) = (kk : Int) + 1 := (by omega); rw [e]; exact HX.out⟩⟩
     have h1 := hg.size
     have h2 := HN.out
     have h3 := HZ2.out
     have h4 := HZD.out
     exact Nat.le_trans (by omega : w.heap.size ≤ w2.heap.size) h1
   ·
    have hfb : decide ((kk : Int) < (l2.length : Int)) = false := decide_eq_false (by omega)
    have hfc : decide (kk < l2.length) = false := decide_eq_false hfl
    rw [if_neg (by omega)] at htv
    have HTV := Aside0.mk htv
    clear htv hfl
    go_wp2
    refine start_ (n := 20) (S := fun w' => w'.cell? ⟨g, 0, none⟩ = some (.slice (some ⟨gs, 0, none⟩) S.length c0) ∧ w'.cell? ⟨wr.heap.size, 0, none⟩ = some (.int .i64 x.f0) ∧ w'.cell? ⟨wr.heap.size, 1, none⟩ = some (.string x.f1) ∧ w'.cell? ⟨gs, x.f0.toNat, none⟩ = some (.string (rdOf ByteArray.empty S' x.f0))) (ds := [19]) #[false, false, false, false, false, false, false, false, false, false, false, false, false, false, false, false, false, false, false, false] (by kernel_rfl) rfl rfl ⟨(blk_cell HBLKD.out 0).trans rfl, (blk_cell HND.out 0).trans rfl, (blk_cell HND.out 1).trans rfl, I0.out⟩ (fun hHeld => ?_)
    refine with_tabW impl_Flash_crash.tab6 impl_Flash_crash.bits6 (fun HT_ HW_ => ?_)
    generalize (wr.alloc (.cells #[.int .i64 x.f0, .string x.f1] 92)).drew = wd at HSD HDD HBLKD HND HBD HZD I0 hHeld ⊢
    refine pure_ (i := 0) (N := some 25) (v := ?_) (a' := ?_) #[true, false, false, false, false, false, false, false, false, false, false, false, false, false, false, false, false, false, false, false] rfl rfl (any_of HT_.out (by kernel_rfl)) (fun _ _ _ h => h) (Or.inl ⟨by rfl, ?_⟩) ?_ ?_
    rotate_left
    ·
     intro w'
     go_simp
     with_reducible rfl
    rotate_left
    ·
     simp only [Act.put, List.setIfInBounds_toArray, List.set_cons_zero, List.set_cons_succ, i64_w, i32_w]
     rfl
    refine pure_ (i := 1) (N := some 26) (v := ?_) (a' := ?_) #[true, true, false, false, false, false, false, false, false, false, false, false, false, false, false, false, false, false, false, false] rfl rfl (any_of HT_.out (by kernel_rfl)) (fun _ _ _ h => h) (Or.inl ⟨by rfl, ?_⟩) ?_ ?_
    rotate_left
    ·
     intro w'
     go_simp
     with_reducible rfl
    rotate_left
    ·
     simp only [Act.put, List.setIfInBounds_toArray, List.set_cons_zero, List.set_cons_succ, i64_w, i32_w]
     rfl
    refine pure_ (i := 2) (N := some 27) (v := ?_) (a' := ?_) #[true, true, true, false, false, false, false, false, false, false, false, false, false, false, false, false, false, false, false, false] rfl rfl (any_of HT_.out (by kernel_rfl)) (fun _ _ _ h => h) (Or.inl ⟨by rfl, ?_⟩) ?_ ?_
    rotate_left
    ·
     intro w'
     go_simp
     with_reducible rfl
    rotate_left
    ·
     simp only [Act.put, List.setIfInBounds_toArray, List.set_cons_zero, List.set_cons_succ, i64_w, i32_w]
     rfl
    refine take_ (i := 3) (N := some 28) (v := ?_) (a' := ?_) #[true, true, true, true, false, false, false, false, false, false, false, false, false, false, false, false, false, false, false, false] rfl rfl (take_ofW HT_.out HW_.out (by kernel_rfl)) (fun _ _ _ h => h) (Or.inl ⟨by rfl, ?_⟩) hHeld ?_ ?_
    rotate_left
    ·
     rintro w' ⟨s0, s1, s2, s3⟩
     go_simp
     with_reducible rfl
    rotate_left
    ·
     simp only [Act.put, List.setIfInBounds_toArray, List.set_cons_zero, List.set_cons_succ, i64_w, i32_w]
     rfl
    refine pure_ (i := 4) (N := some 29) (v := ?_) (a' := ?_) #[true, true, true, true, true, false, false, false, false, false, false, false, false, false, false, false, false, false, false, false] rfl rfl (any_of HT_.out (by kernel_rfl)) (fun _ _ _ h => h) (Or.inl ⟨by rfl, ?_⟩) ?_ ?_
    rotate_left
    ·
     intro w'
     go_simp
     with_reducible rfl
    rotate_left
    ·
     simp only [Act.put, List.setIfInBounds_toArray, List.set_cons_zero, List.set_cons_succ, i64_w, i32_w]
     rfl
    refine take_ (i := 5) (N := some 30) (v := ?_) (a' := ?_) #[true, true, true, true, true, true, false, false, false, false, false, false, false, false, false, false, false, false, false, false] rfl rfl (take_ofW HT_.out HW_.out (by kernel_rfl)) (fun _ _ _ h => h) (Or.inl ⟨by rfl, ?_⟩) hHeld ?_ ?_
    rotate_left
    ·
     rintro w' ⟨s0, s1, s2, s3⟩
     go_simp
     with_reducible rfl
    rotate_left
    ·
     simp only [Act.put, List.setIfInBounds_toArray, List.set_cons_zero, List.set_cons_succ, i64_w, i32_w]
     rfl
    refine pure_ (i := 6) (N := some 31) (v := ?_) (a' := ?_) #[true, true, true, true, true, true, true, false, false, false, false, false, false, false, false, false, false, false, false, false] rfl rfl (any_of HT_.out (by kernel_rfl)) (fun _ _ _ h => h) (Or.inl ⟨by rfl, ?_⟩) ?_ ?_
    rotate_left
    ·
     intro w'
     go_simp
     with_reducible rfl
    rotate_left
    ·
     simp only [Act.put, List.setIfInBounds_toArray, List.set_cons_zero, List.set_cons_succ, i64_w, i32_w]
     rfl
    refine pure_ (i := 7) (N := some 32) (v := ?_) (a' := ?_) #[true, true, true, true, true, true, true, true, false, false, false, false, false, false, false, false, false, false, false, false] rfl rfl (any_of HT_.out (by kernel_rfl)) (fun _ _ _ h => h) (Or.inl ⟨by rfl, ?_⟩) ?_ ?_
    rotate_left
    ·
     intro w'
     go_simp
     with_reducible rfl
    rotate_left
    ·
     simp only [Act.put, List.setIfInBounds_toArray, List.set_cons_zero, List.set_cons_succ, i64_w, i32_w]
     rfl
    refine pure_ (i := 8) (N := some 33) (v := ?_) (a' := ?_) #[true, true, true, true, true, true, true, true, true, false, false, false, false, false, false, false, false, false, false, false] rfl rfl (any_of HT_.out (by kernel_rfl)) (fun _ _ _ h => h) (Or.inl ⟨by rfl, ?_⟩) ?_ ?_
    rotate_left
    ·
     intro w'
     go_simp
     with_reducible rfl
    rotate_left
    ·
     simp only [Act.put, List.setIfInBounds_toArray, List.set_cons_zero, List.set_cons_succ, i64_w, i32_w]
     rfl
    refine take_ (i := 9) (N := some 34) (v := ?_) (a' := ?_) #[true, true, true, true, true, true, true, true, true, true, false, false, false, false, false, false, false, false, false, false] rfl rfl (take_ofW HT_.out HW_.out (by kernel_rfl)) (fun _ _ _ h => h) (Or.inl ⟨by rfl, ?_⟩) hHeld ?_ ?_
    rotate_left
    ·
     rintro w' ⟨s0, s1, s2, s3⟩
     go_simp
     with_reducible rfl
    rotate_left
    ·
     simp only [Act.put, List.setIfInBounds_toArray, List.set_cons_zero, List.set_cons_succ, i64_w, i32_w]
     rfl
    refine pure_ (i := 10) (N := some 35) (v := ?_) (a' := ?_) #[true, true, true, true, true, true, true, true, true, true, true, false, false, false, false, false, false, false, false, false] rfl rfl (any_of HT_.out (by kernel_rfl)) (fun _ _ _ h => h) (Or.inl ⟨by rfl, ?_⟩) ?_ ?_
    rotate_left
    ·
     intro w'
     go_simp
     with_reducible rfl
    rotate_left
    ·
     simp only [Act.put, List.setIfInBounds_toArray, List.set_cons_zero, List.set_cons_succ, i64_w, i32_w]
     rfl
    refine take_ (i := 11) (N := some 36) (v := ?_) (a' := ?_) #[true, true, true, true, true, true, true, true, true, true, true, true, false, false, false, false, false, false, false, false] rfl rfl (take_ofW HT_.out HW_.out (by kernel_rfl)) (fun _ _ _ h => h) (Or.inl ⟨by rfl, ?_⟩) hHeld ?_ ?_
    rotate_left
    ·
     rintro w' ⟨s0, s1, s2, s3⟩
     go_simp
     with_reducible rfl
    rotate_left
    ·
     simp only [Act.put, List.setIfInBounds_toArray, List.set_cons_zero, List.set_cons_succ, i64_w, i32_w]
     rfl
    refine pure_ (i := 12) (N := some 37) (v := ?_) (a' := ?_) #[true, true, true, true, true, true, true, true, true, true, true, true, true, false, false, false, false, false, false, false] rfl rfl (any_of HT_.out (by kernel_rfl)) (fun _ _ _ h => h) (Or.inl ⟨by rfl, ?_⟩) ?_ ?_
    rotate_left
    ·
     intro w'
     go_simp
     with_reducible rfl
    rotate_left
    ·
     simp only [Act.put, List.setIfInBounds_toArray, List.set_cons_zero, List.set_cons_succ, i64_w, i32_w]
     rfl
    refine take_ (i := 13) (N := some 38) (v := ?_) (a' := ?_) #[true, true, true, true, true, true, true, true, true, true, true, true, true, true, false, false, false, false, false, false] rfl rfl (take_ofW HT_.out HW_.out (by kernel_rfl)) (fun _ _ _ h => h) (Or.inl ⟨by rfl, ?_⟩) hHeld ?_ ?_
    rotate_left
    ·
     rintro w' ⟨s0, s1, s2, s3⟩
     go_simp
     with_reducible rfl
    rotate_left
    ·
     simp only [Act.put, List.setIfInBounds_toArray, List.set_cons_zero, List.set_cons_succ, i64_w, i32_w]
     rfl
    refine pure_ (i := 14) (N := some 39) (v := ?_) (a' := ?_) #[true, true, true, true, true, true, true, true, true, true, true, true, true, true, true, false, false, false, false, false] rfl rfl (any_of HT_.out (by kernel_rfl)) (fun _ _ _ h => h) (Or.inl ⟨by rfl, ?_⟩) ?_ ?_
    rotate_left
    ·
     intro w'
     go_simp
     with_reducible rfl
    rotate_left
    ·
     simp only [Act.put, List.setIfInBounds_toArray, List.set_cons_zero, List.set_cons_succ, i64_w, i32_w]
     rfl
    refine take_ (i := 15) (N := some 40) (v := ?_) (a' := ?_) #[true, true, true, true, true, true, true, true, true, true, true, true, true, true, true, true, false, false, false, false] rfl rfl (take_ofW HT_.out HW_.out (by kernel_rfl)) (fun _ _ _ h => h) (Or.inl ⟨by rfl, ?_⟩) hHeld ?_ ?_
    rotate_left
    ·
     rintro w' ⟨s0, s1, s2, s3⟩
     go_simp
     with_reducible rfl
    rotate_left
    ·
     simp only [Act.put, List.setIfInBounds_toArray, List.set_cons_zero, List.set_cons_succ, i64_w, i32_w]
     rfl
    refine pure_ (i := 16) (N := some 41) (v := ?_) (a' := ?_) #[true, true, true, true, true, true, true, true, true, true, true, true, true, true, true, true, true, false, false, false] rfl rfl (any_of HT_.out (by kernel_rfl)) (fun _ _ _ h => h) (Or.inl ⟨by rfl, ?_⟩) ?_ ?_
    rotate_left
    ·
     intro w'
     go_simp
     with_reducible rfl
    rotate_left
    ·
     simp only [Act.put, List.setIfInBounds_toArray, List.set_cons_zero, List.set_cons_succ, i64_w, i32_w]
     rfl
    refine one_ (i := 17) (N := some 42) #[true, true, true, true, true, true, true, true, true, true, true, true, true, true, true, true, true, true, false, false] rfl rfl (one_of HT_.out (by kernel_rfl)) (by decide) (fun K hK => ?_)
    refine goes_ Try.func117 (by kernel_rfl) rfl #[.string (rdOf ByteArray.empty S' x.f0), .string x.f1, .int .i64 0] (by rfl) rfl rfl (by (try simp only [List.map_toArray, List.map_cons, List.map_nil]); first | done | rfl) ?_
    refine (impl_torn.calls _ x.f1 _ tv _ HTV.out).mono ?_
    rintro e w2 ⟨rfl, hb2⟩
    refine ⟨_, rfl, ?_⟩
    have hS2 := Kd.R_below HSD.out hb2
    have HD2 := Aside0.mk (Kd.R_below HDD.out hb2)
    have HB2 := Aside0.mk (below_then HBD.out (show base ≤ wd.heap.size by have h1 := HN.out; have h2 := HBASE.out; have h3 := HZD.out; omega) hb2)
    have HBLK2 := Aside0.mk (blk_below HBLKD.out hb2)
    have HN2 := Aside0.mk (blk_below HND.out hb2)
    have HZ2 := Aside0.mk hb2.size
    obtain ⟨ce2, hcl2, hM2, hcc2, hfr2⟩ := Kd.R_elem hS2 ByteArray.empty x.f0 hax.1 (by omega)
    have HP1 := Kd.R_seg hS2 x.f0 hax.1 (by omega) (seg := [.string tv]) (j := 0) (okp := fun _ => False) hcl2 hcc2 (Nat.le_refl 1) (x' := tv) (by obtain rfl := (show ce2 = [_] from hM2); exact rfl) (fun _ hk => hk.elim)
    simp only [show Kd.string.sz = 1 from rfl, Nat.mul_one, Nat.add_zero] at hcc2 hfr2 HP1
    have HPP := Aside0.mk HP1
    obtain rfl := (show ce2 = [_] from hM2)
    have j0 : w2.cell? ⟨gs, x.f0.toNat, none⟩ = some (.string (rdOf ByteArray.empty S' x.f0)) := hcc2 0 _ rfl
    have k0 : w2.frozen? ⟨gs, x.f0.toNat, none⟩ = false := hfr2 0
    have HNE2 := Aside0.mk (Kd.R_ne hS2 HBLK2.out (by decide))
    have HS2 := Aside0.mk hS2
    clear hS2 hcl2 hM2 hcc2 hfr2 HP1 hb2
    refine hK.out _ _ ⟨(blk_cell HBLK2.out 0).trans rfl, (blk_cell HN2.out 0).trans rfl, (blk_cell HN2.out 1).trans rfl, j0⟩ (fun hHeld => ?_)
    clear hK K
    refine norm_ (a' := ?_) ?_ ?_
    rotate_left
    ·
     show Act.put _ (some 42) _ = _
     simp only [Act.put, List.setIfInBounds_toArray, List.set_cons_zero, List.set_cons_succ, i64_w, i32_w]
     rfl
    refine pure_ (i := 18) (N := some 43) (v := ?_) (a' := ?_) #[true, true, true, true, true, true, true, true, true, true, true, true, true, true, true, true, true, true, true, false] rfl rfl (any_of HT_.out (by kernel_rfl)) (fun _ _ _ h => h) (Or.inl ⟨by rfl, ?_⟩) ?_ ?_
    rotate_left
    ·
     intro w'
     go_simp
     with_reducible rfl
    rotate_left
    ·
     simp only [Act.put, List.setIfInBounds_toArray, List.set_cons_zero, List.set_cons_succ, i64_w, i32_w]
     rfl
    refine last_ (i := 19) (N := none) #[true, true, true, true, true, true, true, true, true, true, true, true, true, true, true, true, true, true, true, true] rfl rfl (one_of HT_.out (by kernel_rfl)) (by decide) (fun K hK => ?_)
    refine skip_ (w1 := ?_) (by rfl) rfl ?_ ?_
    rotate_left
    ·
     go_simp
     rfl
    refine hK.out _ _ ?_
    clear hK K
    refine done_ (done_of HT_.out (by kernel_rfl)) ?_
    try go_wp2
    go_roundg (D.length - (kk + 1))
    case measure => have := HN.out; omega
    case rel =>
     have hg := HPP.out.2
     refine ⟨kk + 1, S'.set x.f0.toNat tv, by rw [ek], ⟨by omega, Nat.le_refl _, by rw [List.length_set]; exact HN.out.2.2.1, ?_⟩, ⟨blk_grown HBLK2.out hg (by have := HNE2.out; simpa [Value.ownBlock] using this)⟩, ⟨HPP.out.1⟩, ⟨Kd.R_over HD2.out HS2.out (by decide) hg⟩, ⟨HB2.out.setCell HGS.out _⟩, ⟨by have e : ((kk + 1 : Nat) : Int) = (kk : Int) + 1 := (by omega); rw [e]; exact HX.out⟩⟩
     have h1 := hg.size
     have h2 := HN.out
     have h3 := HZ2.out
     have h4 := HZD.out
     exact Nat.le_trans (by omega : w.heap.size ≤ w2.heap.size) h1
  ·
   obtain rfl : kk = D.length := by have := HN.out; omega
   have hltz : decide ((D.length : Int) < (D.length : Int)) = false := decide_eq_false (by omega)
   have s1 := blk_cell HBLK.out 1
   have s2 := blk_frozen HBLK.out 1
   have HX2 := HX.out
   rw [List.drop_length, impl_Flash_crashed] at HX2
   obtain rfl := Option.some.inj HX2
   go_wp2
   (first | go_end0 | ((try simp only [Exit.inBlock, Exit.then]); refine bodyPost_ret (results_none rfl _ _ _) rfl ?_))
   refine ⟨rfl, ⟨_, _, by have := blk_set HBLK.out 1 (.slice none 0 0); simpa using this, HGE.out, Kd.R_set HS.out HBLK.out (by decide) 1 _, Kd.R_nil _ _ _ _ _⟩, HB.out.setCell HGE.out _, ?_⟩
   have h2 := HN.out
   simp
   omega

def impl_FlashCrash.okD (S : List ByteArray) (D : List S92) : Bool := decide (D.length ≤ 1000000) && D.all (fun x => decide (0 ≤ x.f0 ∧ x.f0 < (S.length : Int)))
def impl_FlashCrash.f (l0_0 : List ByteArray) (l0_1 : List S92) (l1 : List Int) : Option (List ByteArray × List S92) :=
 if (l1.length : Int) > 400 then some (([] : List ByteArray), ([] : List S92)) else
 (impl_cloneFlash.f l0_0 l0_1).bind fun c => (impl_isFlash.f l0_0 l0_1).bind fun t => (if t = true then (if impl_FlashCrash.okD c.1 c.2 = true then ((impl_Flash_crashed l1 c.2 0 c.1).bind fun S => some (S, ([] : List S92))) else none) else some (c.1, c.2))
theorem FB.out2 {α : Type} {d : Kd α} {e : Nat} {W : World} {base g : Nat} {cs : Array Value} {v : Value} {xs : List α} (h : d.R e W base (fun _ => True) v xs) (hb : W.heap[g]? = some (.cells cs 30 (0, 0))) (ht : ∀ q, q ∈ e :: d.E → q ≠ 30) (a b : Value) :
  d.R e ((W.setCell ⟨g, 0, none⟩ a).setCell ⟨g, 1, none⟩ b) base (fun _ => True) v xs :=
 Kd.R_mono (Kd.R_far (p := ⟨g, 1, none⟩) (Kd.R_far (p := ⟨g, 0, none⟩) (Kd.R_types h hb ht) (fun _ hk => hk.2) a) (fun _ hk => hk.2) b) (fun _ _ => trivial)
set_option maxHeartbeats 8000000 in
set_option maxRecDepth 100000 in
theorem impl_FlashCrash.calls (A0_0 : Option Addr) (c0_0 : Nat) (l0_0 : List ByteArray) (A0_1 : Option Addr) (c0_1 : Nat) (l0_1 : List S92) (A1 : Option Addr) (c1 : Nat) (l1 : List Int) (r1 : List ByteArray) (r2 : List S92) (w : World) (hr0_0 : Kd.C Kd.string w A0_0 l0_0.length l0_0) (hc0_0 : l0_0.length ≤ c0_0) (hr0_1 : Kd.C k92 w A0_1 l0_1.length l0_1) (hc0_1 : l0_1.length ≤ c0_1) (hr1 : Kd.C (Kd.int .i64) w A1 l1.length l1) (hc1 : l1.length ≤ c1) (h : impl_FlashCrash.f l0_0 l0_1 l1 = some (r1, r2)) :
  Calls Try.prog 34 #[.agg #[.slice A0_0 l0_0.length c0_0, .slice A0_1 l0_1.length c0_1], .slice A1 l1.length c1] w fun e w' => ∃ v0_ v1_ : Value, e = .returned (.agg #[v0_, v1_]) ∧ Kd.R Kd.string 9 w' w.heap.size (fun _ => True) v0_ r1 ∧ Kd.R k92 92 w' w.heap.size (fun _ => True) v1_ r2 ∧ Below w.heap.size w w' := by
 unfold impl_FlashCrash.f at h
 have hu30 := Try.underlying30
 have HR0 := Aside0.mk hr0_0
 have HC0 := Aside0.mk hc0_0
 have HR1 := Aside0.mk hr0_1
 have HC1 := Aside0.mk hc0_1
 clear hr0_0 hc0_0 hr0_1 hc0_1
 have HR2 := Aside0.mk hr1
 have HC2 := Aside0.mk hc1
 clear hr1 hc1
 have HX0 := Aside0.mk (blk_alloc (blk_new w (.cells #[.slice A0_0 l0_0.length c0_0, .slice A0_1 l0_1.length c0_1] 30)) (.cells #[.slice none 0 0, .slice none 0 0] 30))
 have hx1_ := blk_new (w.alloc (.cells #[.slice A0_0 l0_0.length c0_0, .slice A0_1 l0_1.length c0_1] 30)) (.cells #[.slice none 0 0, .slice none 0 0] 30)
 rw [show (w.alloc (.cells #[.slice A0_0 l0_0.length c0_0, .slice A0_1 l0_1.length c0_1] 30)).heap.size = w.heap.size + 1 from by simp] at hx1_
 have HX1 := Aside0.mk hx1_
 clear hx1_
 have HW0 := Aside0.mk (show Below w.heap.size w ((w.alloc (.cells #[.slice A0_0 l0_0.length c0_0, .slice A0_1 l0_1.length c0_1] 30)).alloc (.cells #[.slice none 0 0, .slice none 0 0] 30)) from below_alloc (below_alloc (Below.refl _ _) _) _)
 by_cases h8 : (l1.length : Int) > 400
 ·
  rw [if_pos h8] at h
  simp only [Option.some.injEq, Prod.mk.injEq] at h
  obtain ⟨rfl, rfl⟩ := h
  have g0 : decide ((l1.length : Int) > 400) = true := decide_eq_true h8
  have g1 : decide (400 < l1.length) = true := decide_eq_true (by omega)
  clear h8
  go_enter Try.func34, Try.ntmps34
  go_wp2
  refine bodyPost_ret (results_cell_row rfl _ _ (w.heap.size + 1) 30 #[.slice none 0 0, .slice none 0 0] (0, 0) _ rfl (by exact HX1.out) Try.underlying30 rfl (by kernel_rfl)) rfl ?_
  exact ⟨_, _, rfl, Kd.R_nil _ _ _ _ _, Kd.R_nil _ _ _ _ _, HW0.out⟩
 ·
  rw [if_neg h8] at h
  have g0 : decide ((l1.length : Int) > 400) = false := decide_eq_false h8
  have g1 : decide (400 < l1.length) = false := decide_eq_false (by omega)
  obtain ⟨c, hc, h⟩ := Option.bind_eq_some_iff.1 h
  obtain ⟨t, ht, h⟩ := Option.bind_eq_some_iff.1 h
  obtain ⟨cS, cD⟩ := c
  have HF := Aside0.mk ht
  have HCL := Aside0.mk hc
  have HL8 := Aside0.mk (show l1.length ≤ 400 by omega)
  clear ht hc h8
  have HRW := Aside0.mk (Kd.C_below HR2.out HW0.out)
  have HSW := Aside0.mk (show ((w.alloc (.cells #[.slice A0_0 l0_0.length c0_0, .slice A0_1 l0_1.length c0_1] 30)).alloc (.cells #[.slice none 0 0, .slice none 0 0] 30)).heap.size = w.heap.size + 2 from by simp)
  go_enter Try.func34, Try.ntmps34
  go_wp2_with (fail)
  go_at_call 79
  generalize hw0_ : ((w.alloc (.cells #[.slice A0_0 l0_0.length c0_0, .slice A0_1 l0_1.length c0_1] 30)).alloc (.cells #[.slice none 0 0, .slice none 0 0] 30)) = W0 at HX0 HX1 HW0 HRW HSW ⊢
  clear hw0_
  refine (impl_cloneFlash.calls A0_0 c0_0 l0_0 A0_1 c0_1 l0_1 cS cD _ (Kd.C_below HR0.out HW0.out) HC0.out (Kd.C_below HR1.out HW0.out) HC1.out HCL.out).mono ?_
  rintro e w2 ⟨v0, v1, rfl, hS, hD, hb2⟩
  obtain ⟨As, cs, rfl⟩ := Kd.R_slice hS
  obtain ⟨Ad, cd, rfl⟩ := Kd.R_slice hD
  have HFB := Aside0.mk (show FB (w2.alloc (.cells #[.slice As cS.length cs, .slice Ad cD.length cd] 30)) W0.heap.size w2.heap.size cS cD from ⟨_, _, blk_new _ _, hb2.size, Kd.R_alloc hS _, Kd.R_alloc hD _⟩)
  have HB2 := Aside0.mk (show Below W0.heap.size W0 (w2.alloc (.cells #[.slice As cS.length cs, .slice Ad cD.length cd] 30)) from below_alloc hb2 _)
  have HX02 := Aside0.mk (blk_below HX0.out HB2.out)
  have HX12 := Aside0.mk (blk_below HX1.out HB2.out)
  have HB02 := Aside0.mk (below_step HW0.out HB2.out)
  have b0 : ∀ o, (w2.alloc o).cell? ⟨w.heap.size, 0, none⟩ = some (Value.slice A0_0 l0_0.length c0_0) := fun o => (blk_cell (blk_alloc (blk_below HX0.out hb2) o) 0).trans rfl
  have b1 : ∀ o, (w2.alloc o).cell? ⟨w.heap.size, 1, none⟩ = some (Value.slice A0_1 l0_1.length c0_1) := fun o => (blk_cell (blk_alloc (blk_below HX0.out hb2) o) 1).trans rfl
  clear hS hD hb2
  go_wp2_with (fail)
  go_at_call 74
  refine (impl_isFlash.calls A0_0 c0_0 l0_0 A0_1 c0_1 l0_1 t _ (Kd.C_below HR0.out HB02.out) HC0.out (Kd.C_below HR1.out HB02.out) HC1.out HF.out).mono ?_
  rintro e w1 ⟨rfl, hb1⟩
  have HF1 := Aside0.mk (FB.below HFB.out hb1)
  have hx1 := blk_below HX12.out hb1
  have HX11 := Aside0.mk hx1
  have HBW := Aside0.mk (below_then HB2.out HB2.out.size hb1)
  have HB1 := Aside0.mk (below_step HB02.out hb1)
  clear hb1 b0 b1 HFB HB2 HX02 HX12 HB02 HX0 HX1
  cases t with
  | true =>
   simp only [if_true] at h
   by_cases hok : impl_FlashCrash.okD cS cD = true
   ·
    simp only [hok, if_true] at h
    obtain ⟨S2, hS2, h⟩ := Option.bind_eq_some_iff.1 h
    simp only [Option.some.injEq, Prod.mk.injEq] at h
    obtain ⟨rfl, rfl⟩ := h
    unfold impl_FlashCrash.okD at hok
    simp only [Bool.and_eq_true, decide_eq_true_eq, List.all_eq_true] at hok
    have HOK := Aside0.mk hok
    have HCR := Aside0.mk hS2
    clear hok hS2 hx1
    go_wp2_with (fail)
    go_at_call 93
    refine (impl_Flash_crash.calls W0 W0.heap.size _ cS cD A1 c1 l1 S2 _ (by exact HF1.out) (by exact HBW.out) HBW.out.size HOK.out.1 HOK.out.2 (Nat.le_refl _) HRW.out HC2.out (by have := HL8.out; omega) HCR.out).mono ?_
    rintro e w3 ⟨rfl, hF3, hb3, hz3⟩
    obtain ⟨u0, u1, hk3, hg3, hS3, hD3⟩ := hF3
    obtain ⟨Au, cu, rfl⟩ := Kd.R_slice hS3
    obtain ⟨Av, cv, rfl⟩ := Kd.R_slice hD3
    have e0 := (blk_cell hk3 0).trans (rfl : _ = some (Value.slice Au _ cu))
    have e1 := (blk_cell hk3 1).trans (rfl : _ = some (Value.slice Av _ cv))
    have hx3 := (hb3.block (w.heap.size + 1) (by have := HSW.out; omega)).trans ((HBW.out.block (w.heap.size + 1) (by have := HSW.out; omega)).symm.trans HX11.out)
    have HX3 := Aside0.mk hx3
    have HS3 := Aside0.mk hS3
    have HD3 := Aside0.mk hD3
    have HB3 := Aside0.mk (below_step HW0.out hb3)
    have oc0 := blk_cell hx3 0
    have of0 := blk_frozen hx3 0
    have oc1 := blk_cell hx3 1
    have of1 := blk_frozen hx3 1
    clear hk3 hg3 hS3 hD3 hb3 hx3 hz3
    go_wp2
    refine bodyPost_ret (results_cell_row rfl _ _ (w.heap.size + 1) 30 #[.slice Au S2.length cu, .slice Av ([] : List S92).length cv] (0, 0) _ rfl (by refine blk_put (cs := #[.slice Au S2.length cu, .slice none 0 0]) ?_ 1 _ rfl; refine blk_put (cs := #[.slice none 0 0, .slice none 0 0]) ?_ 0 _ rfl; (repeat (first | exact HX3.out | refine blk_drewN ?_ _ | refine blk_drew ?_))) Try.underlying30 rfl (by kernel_rfl)) rfl ?_
    exact ⟨_, _, rfl, Kd.R_lower (FB.out2 HS3.out HX3.out (by decide) _ _) HW0.out.size, Kd.R_lower (FB.out2 HD3.out HX3.out (by decide) _ _) HW0.out.size, ((show Below w.heap.size w _ from by first | exact HB3.out | exact pw_below_drewN HB3.out _).setCell (Nat.le_succ _) _).setCell (Nat.le_succ _) _⟩
   ·
    simp only [hok] at h; cases h
  | false =>
   simp only [Bool.false_eq_true, if_false, Option.some.injEq, Prod.mk.injEq] at h
   obtain ⟨rfl, rfl⟩ := h
   obtain ⟨u0, u1, hk3, hg3, hS3, hD3⟩ := HF1.out
   obtain ⟨Au, cu, rfl⟩ := Kd.R_slice hS3
   obtain ⟨Av, cv, rfl⟩ := Kd.R_slice hD3
   have e0 := (blk_cell hk3 0).trans (rfl : _ = some (Value.slice Au _ cu))
   have e1 := (blk_cell hk3 1).trans (rfl : _ = some (Value.slice Av _ cv))
   have HS3 := Aside0.mk hS3
   have HD3 := Aside0.mk hD3
   have oc0 := blk_cell hx1 0
   have of0 := blk_frozen hx1 0
   have oc1 := blk_cell hx1 1
   have of1 := blk_frozen hx1 1
   clear hk3 hg3 hS3 hD3 hx1
   go_wp2
   refine bodyPost_ret (results_cell_row rfl _ _ (w.heap.size + 1) 30 #[.slice Au cS.length cu, .slice Av cD.length cv] (0, 0) _ rfl (by refine blk_put (cs := #[.slice Au cS.length cu, .slice none 0 0]) ?_ 1 _ rfl; refine blk_put (cs := #[.slice none 0 0, .slice none 0 0]) ?_ 0 _ rfl; (repeat (first | exact HX11.out | refine blk_drewN ?_ _ | refine blk_drew ?_))) Try.underlying30 rfl (by kernel_rfl)) rfl ?_
   exact ⟨_, _, rfl, Kd.R_lower (FB.out2 HS3.out HX11.out (by decide) _ _) HW0.out.size, Kd.R_lower (FB.out2 HD3.out HX11.out (by decide) _ _) HW0.out.size, ((show Below w.heap.size w _ from by first | exact HB1.out | exact pw_below_drewN HB1.out _).setCell (Nat.le_succ _) _).setCell (Nat.le_succ _) _⟩


/-! ### laws_eqInt64S: function 35 -/
def laws_eqInt64S.l0 : Nat → List Int → List Int → Int → Option (Bool)
 | 0, _, _, _ => none
 | k + 1, x0, x1, x5 => if x5 < (x0.length : Int) then (if 0 ≤ x5 then (if x5 < (x1.length : Int) then (if (rd x0 x5) = (rd x1 x5) then (laws_eqInt64S.l0 k x0 x1 (wrap64 (x5 + 1))) else (some false)) else (none)) else (none)) else (some true)
def laws_eqInt64S.f (k : Nat) (l0 : List Int) (l1 : List Int) : Option (Bool) := if (l0.length : Int) = (l1.length : Int) then (laws_eqInt64S.l0 k l0 l1 0) else (some false)
theorem laws_eqInt64S.mono_l : ∀ k, (∀ y0 y1 y2, LeO (laws_eqInt64S.l0 k y0 y1 y2) (laws_eqInt64S.l0 (k + 1) y0 y1 y2))
 | 0 => fun _ _ _ r h => by simp [laws_eqInt64S.l0] at h
 | k + 1 => by
  have ih0 := laws_eqInt64S.mono_l k
  ·
   intro y0 y1 y2
   unfold laws_eqInt64S.l0
   repeat' first
   | (with_reducible exact ih0 _ _ _)
   | (with_reducible exact LeO.refl _)
   | (with_reducible exact LeO.none _)
   | (with_reducible refine LeO.ite ?_ ?_)
   | (with_reducible refine LeO.bind ?_ (fun _ => ?_))
   | exact ih0 _ _ _
   | exact LeO.none _
   | refine LeO.ite ?_ ?_
   | refine LeO.bind ?_ (fun _ => ?_)
theorem laws_eqInt64S.mono : ∀ a0 a1 k, LeO (laws_eqInt64S.f k a0 a1) (laws_eqInt64S.f (k + 1) a0 a1) := by
 intro a0 a1 k
 have ih0 := laws_eqInt64S.mono_l k
 unfold laws_eqInt64S.f
 repeat' first
   | (with_reducible exact ih0 _ _ _)
   | (with_reducible exact LeO.refl _)
   | (with_reducible exact LeO.none _)
   | (with_reducible refine LeO.ite ?_ ?_)
   | (with_reducible refine LeO.bind ?_ (fun _ => ?_))
   | exact ih0 _ _ _
   | exact LeO.none _
   | refine LeO.ite ?_ ?_
   | refine LeO.bind ?_ (fun _ => ?_)
set_option maxHeartbeats 8000000 in
set_option maxRecDepth 100000 in
theorem laws_eqInt64S.calls (k : Nat) (A0 : Option Addr) (c0 : Nat) (l0 : List Int) (A1 : Option Addr) (c1 : Nat) (l1 : List Int) (r : Bool) (w : World) (hr0 : Kd.C (Kd.int .i64) w A0 l0.length l0) (hc0 : l0.length ≤ c0) (hr1 : Kd.C (Kd.int .i64) w A1 l1.length l1) (hc1 : l1.length ≤ c1) (h : laws_eqInt64S.f k l0 l1 = some r) :
  Calls Try.prog 35 #[.slice A0 l0.length c0, .slice A1 l1.length c1] w fun e w' => e = .returned (.bool r) ∧ Drawn0 w w' := by
 have HR0 := Aside0.mk hr0
 have HC0 := Aside0.mk hc0
 clear hr0 hc0
 have HR1 := Aside0.mk hr1
 have HC1 := Aside0.mk hc1
 clear hr1 hc1
 have H : (if (l0.length : Int) = (l1.length : Int) then (laws_eqInt64S.l0 k l0 l1 0) else (some false)) = some r := h
 clear h
 by_cases c3 : (l0.length : Int) = (l1.length : Int)
 ·
  rw [if_pos c3] at H
  have c3b0 : ((l0.length : Int) == (l1.length : Int)) = true := beq_iff_eq.mpr c3
  have c3b1 : ((l0.length : Int) != (l1.length : Int)) = false := bne_eq_false_iff_eq.mpr c3
  have c3b2 : (l0.length == l1.length) = true := by first | simpa using c3 | (simp at c3 ⊢; omega)
  clear c3
  have H' := Aside0.mk H
  clear H
  go_enter Try.func35, Try.ntmps35
  go_wp2
  repeat (go_quiet (fail); try go_wp2)
  go_loopg [5] k (fun kq v5 w' => ∃ (x5_1 : Int), v5 = .int .i64 x5_1 ∧ Aside0 (laws_eqInt64S.l0 kq l0 l1 x5_1 = some r) ∧ Aside0 (kq ≤ k) ∧ Drawn0 w w')
  case atStart => exact ⟨(0), (by first | rfl | (simp; done) | (simp [*]; done)), H', ⟨Nat.le_refl _⟩, by repeat (first | exact Drawn0.refl _ | apply Drawn0.step)⟩
  case round =>
   clear H'
   try clear c1
   try clear p2
   try clear c3
   try clear c3b0
   try clear c3b1
   try clear c3b2
   obtain ⟨x5_1, rfl, HA, HK1, ⟨m1, rfl⟩⟩ := hrel
   cases gk with
   | zero => exact absurd HA.out (by simp [laws_eqInt64S.l0])
   | succ k1 =>
    have H := HA.out
    clear HA
    simp only [laws_eqInt64S.l0] at H
    by_cases c4 : x5_1 < (l0.length : Int)
    ·
     rw [if_pos c4] at H
     have c4b0 : decide (x5_1 < (l0.length : Int)) = true := decide_eq_true c4
     clear c4
     by_cases c5 : 0 ≤ x5_1
     ·
      rw [if_pos c5] at H
      have c5b0 : decide (0 ≤ x5_1) = true := decide_eq_true c5
      clear c5
      by_cases c6 : x5_1 < (l1.length : Int)
      ·
       rw [if_pos c6] at H
       have c6b0 : decide (x5_1 < (l1.length : Int)) = true := decide_eq_true c6
       clear c6
       by_cases c7 : (rd l0 x5_1) = (rd l1 x5_1)
       ·
        rw [if_pos c7] at H
        have c7b0 : ((rd l0 x5_1) == (rd l1 x5_1)) = true := beq_iff_eq.mpr c7
        have c7b1 : ((rd l0 x5_1) != (rd l1 x5_1)) = false := bne_eq_false_iff_eq.mpr c7
        clear c7
        have H' := Aside0.mk H
        clear H
        have p668 : 0 ≤ (x5_1 : Int) := of_decide_eq_true (by first | (with_reducible assumption) | assumption)
        have q668 : x5_1 < (l0.length : Int) := of_decide_eq_true (by first | (with_reducible assumption) | assumption)
        obtain ⟨ad668, e668, hx668_0⟩ := Kd.at_int HR0.out x5_1 p668 q668
        cases e668
        replace p668 := eq_true p668
        replace q668 := eq_true q668
        have p669 : 0 ≤ (x5_1 : Int) := of_decide_eq_true (by first | (with_reducible assumption) | assumption)
        have q669 : x5_1 < (l1.length : Int) := of_decide_eq_true (by first | (with_reducible assumption) | assumption)
        obtain ⟨ad669, e669, hx669_0⟩ := Kd.at_int HR1.out x5_1 p669 q669
        cases e669
        replace p669 := eq_true p669
        replace q669 := eq_true q669
        go_wp2
        repeat (go_quiet (fail); try go_wp2)
        go_roundg k1
        case measure => have := HK1.out; omega
        case rel => exact ⟨(wrap64 (x5_1 + 1)), (by first | rfl | (simp; done) | (simp [*]; done)), H', ⟨by have := HK1.out; omega⟩, by repeat (first | exact Drawn0.refl _ | apply Drawn0.step)⟩
       ·
        rw [if_neg c7] at H
        have c7b0 : ((rd l0 x5_1) == (rd l1 x5_1)) = false := beq_eq_false_iff_ne.mpr c7
        have c7b1 : ((rd l0 x5_1) != (rd l1 x5_1)) = true := bne_iff_ne.mpr c7
        obtain rfl := Option.some.inj H
        have p668 : 0 ≤ (x5_1 : Int) := of_decide_eq_true (by first | (with_reducible assumption) | assumption)
        have q668 : x5_1 < (l0.length : Int) := of_decide_eq_true (by first | (with_reducible assumption) | assumption)
        obtain ⟨ad668, e668, hx668_0⟩ := Kd.at_int HR0.out x5_1 p668 q668
        cases e668
        replace p668 := eq_true p668
        replace q668 := eq_true q668
        have p669 : 0 ≤ (x5_1 : Int) := of_decide_eq_true (by first | (with_reducible assumption) | assumption)
        have q669 : x5_1 < (l1.length : Int) := of_decide_eq_true (by first | (with_reducible assumption) | assumption)
        obtain ⟨ad669, e669, hx669_0⟩ := Kd.at_int HR1.out x5_1 p669 q669
        cases e669
        replace p669 := eq_true p669
        replace q669 := eq_true q669
        go_wp2
        repeat (go_quiet (fail); try go_wp2)
        go_ret
        exact ⟨by first | rfl | (simp; done) | (simp [*]; done), by repeat (first | exact Drawn0.refl _ | apply Drawn0.step)⟩
      ·
       rw [if_neg c6] at H
       exact absurd H (by simp)
     ·
      rw [if_neg c5] at H
      exact absurd H (by simp)
    ·
     rw [if_neg c4] at H
     have c4b0 : decide (x5_1 < (l0.length : Int)) = false := decide_eq_false c4
     clear c4
     obtain rfl := Option.some.inj H
     go_wp2
     repeat (go_quiet (fail); try go_wp2)
     go_ret
     exact ⟨by first | rfl | (simp; done) | (simp [*]; done), by repeat (first | exact Drawn0.refl _ | apply Drawn0.step)⟩
 ·
  rw [if_neg c3] at H
  have c3b0 : ((l0.length : Int) == (l1.length : Int)) = false := beq_eq_false_iff_ne.mpr c3
  have c3b1 : ((l0.length : Int) != (l1.length : Int)) = true := bne_iff_ne.mpr c3
  have c3b2 : (l0.length == l1.length) = false := by first | simpa using c3 | (simp at c3 ⊢; omega)
  obtain rfl := Option.some.inj H
  go_enter Try.func35, Try.ntmps35
  go_wp2
  repeat (go_quiet (fail); try go_wp2)
  go_ret
  exact ⟨by first | rfl | (simp; done) | (simp [*]; done), by repeat (first | exact Drawn0.refl _ | apply Drawn0.step)⟩

/-! ### laws_markInt64S: function 36 -/
def laws_markInt64S.l0 : Nat → List Int → Int → Int → Option (Int × List Int)
 | 0, _, _, _ => none
 | k + 1, x0, x1, x5 => if x5 < (x0.length : Int) then (if 0 ≤ x5 then (laws_markInt64S.l0 k (x0.set (x5 : Int).toNat x1) (wrap64 (x1 + 1)) (wrap64 (x5 + 1))) else (none)) else (some (x1, x0))
def laws_markInt64S.f (k : Nat) (l0 : List Int) (a1 : Int) : Option (Int × List Int) := laws_markInt64S.l0 k l0 a1 0
theorem laws_markInt64S.mono_l : ∀ k, (∀ y0 y1 y2, LeO (laws_markInt64S.l0 k y0 y1 y2) (laws_markInt64S.l0 (k + 1) y0 y1 y2))
 | 0 => fun _ _ _ r h => by simp [laws_markInt64S.l0] at h
 | k + 1 => by
  have ih0 := laws_markInt64S.mono_l k
  ·
   intro y0 y1 y2
   unfold laws_markInt64S.l0
   repeat' first
   | (with_reducible exact ih0 _ _ _)
   | (with_reducible exact LeO.refl _)
   | (with_reducible exact LeO.none _)
   | (with_reducible refine LeO.ite ?_ ?_)
   | (with_reducible refine LeO.bind ?_ (fun _ => ?_))
   | exact ih0 _ _ _
   | exact LeO.none _
   | refine LeO.ite ?_ ?_
   | refine LeO.bind ?_ (fun _ => ?_)
theorem laws_markInt64S.mono : ∀ a0 a1 k, LeO (laws_markInt64S.f k a0 a1) (laws_markInt64S.f (k + 1) a0 a1) := by
 intro a0 a1 k
 have ih0 := laws_markInt64S.mono_l k
 unfold laws_markInt64S.f
 repeat' first
   | (with_reducible exact ih0 _ _ _)
   | (with_reducible exact LeO.refl _)
   | (with_reducible exact LeO.none _)
   | (with_reducible refine LeO.ite ?_ ?_)
   | (with_reducible refine LeO.bind ?_ (fun _ => ?_))
   | exact ih0 _ _ _
   | exact LeO.none _
   | refine LeO.ite ?_ ?_
   | refine LeO.bind ?_ (fun _ => ?_)
set_option maxHeartbeats 8000000 in
set_option maxRecDepth 100000 in
theorem laws_markInt64S.calls (k : Nat) (P0_ : Nat → Prop) (u9000_ : Value) (l0 : List Int) (a1 : Int) (r1 : Int) (r2 : List Int) (w0 w : World) (hB : Below w0.heap.size w0 w) (ho0 : Kd.R (Kd.int .i64) 2 w w0.heap.size P0_ u9000_ l0) (h : laws_markInt64S.f k l0 a1 = some (r1, r2)) :
  Calls Try.prog 36 #[u9000_, .int .i64 a1] w fun e w' => e = .returned (.int .i64 r1) ∧ Kd.R (Kd.int .i64) 2 w' w0.heap.size (fun k_ => (P0_ k_ ∨ w.heap.size ≤ k_)) u9000_ r2 ∧ Below w0.heap.size w0 w' ∧ Kept w w' (fun k_ => P0_ k_) := by
 have HO0 := Aside0.mk (show Kd.R (Kd.int .i64) 2 w w0.heap.size (fun k_ => (P0_ k_ ∨ w.heap.size ≤ k_)) u9000_ l0 from Kd.R_mono ho0 (fun k_ hk => (.inl hk)))
 have HK := Aside0.mk (Kept.refl w (fun k_ => P0_ k_))
 have HW0 := Aside0.mk hB.size
 have HB := Aside0.mk hB
 clear hB
 have H : (laws_markInt64S.l0 k l0 a1 0) = some (r1, r2) := h
 clear h
 have H' := Aside0.mk H
 clear H
 go_enter Try.func36, Try.ntmps36
 go_wp2
 go_loopg [1, 5] k (fun kq v1 v5 w' => ∃ (x0_1 : List Int) (x1_1 : Int) (x5_1 : Int), v1 = .int .i64 x1_1 ∧ v5 = .int .i64 x5_1 ∧ Aside0 (laws_markInt64S.l0 kq x0_1 x1_1 x5_1 = some (r1, r2)) ∧ Aside0 (kq ≤ k) ∧ Aside0 (Kd.R (Kd.int .i64) 2 w' w0.heap.size (fun k_ => (P0_ k_ ∨ w.heap.size ≤ k_)) u9000_ x0_1) ∧ Aside0 (Kept w w' (fun k_ => P0_ k_)) ∧ Aside0 (Below w0.heap.size w0 w'))
 case atStart => exact ⟨(l0), (a1), (0), (by first | rfl | (simp; done) | (simp [*]; done)), (by first | rfl | (simp; done) | (simp [*]; done)), H', ⟨Nat.le_refl _⟩, ⟨by (with_reducible repeat (first | apply Kd.R_alloc | apply Kd.R_drewN | apply Kd.R_drew)); exact HO0.out⟩, ⟨by repeat (first | (with_reducible first | exact HK.out | apply Kept.alloc | apply Kept.drewN | apply Kept.drew) | exact HK.out)⟩, ⟨by repeat (first | (with_reducible first | exact HB.out | apply below_alloc | apply pw_below_drewN | apply below_drew1) | exact HB.out)⟩⟩
 case round =>
  clear H'
  try clear p2
  obtain ⟨x0_1, x1_1, x5_1, rfl, rfl, HA, HK1, HO_0, HK, HB⟩ := hrel
  cases gk with
  | zero => exact absurd HA.out (by simp [laws_markInt64S.l0])
  | succ k1 =>
   have H := HA.out
   clear HA
   simp only [laws_markInt64S.l0] at H
   by_cases c3 : x5_1 < (x0_1.length : Int)
   ·
    rw [if_pos c3] at H
    have c3b0 : decide (x5_1 < (x0_1.length : Int)) = true := decide_eq_true c3
    clear c3
    by_cases c4 : 0 ≤ x5_1
    ·
     rw [if_pos c4] at H
     have c4b0 : decide (0 ≤ x5_1) = true := decide_eq_true c4
     clear c4
     obtain ⟨y670, hy670⟩ : ∃ y_ : List Int, y_ = (x0_1.set (x5_1 : Int).toNat x1_1) := ⟨_, rfl⟩
     replace H : (laws_markInt64S.l0 k1 y670 (wrap64 (x1_1 + 1)) (wrap64 (x5_1 + 1))) = some (r1, r2) := by first | (rw [hy670]; with_reducible exact H) | (have H2_ := (Option.bind_some _ _).symm.trans H; rw [hy670]; with_reducible exact H2_) | (have H2_ := (Option.bind_some _ _).symm.trans H; with_reducible exact H2_) | with_reducible exact H | (rw [hy670]; exact H) | exact H
     have Ny670 := Aside0.mk hy670
     clear hy670
     have H' := Aside0.mk H
     clear H
     obtain ⟨Ao6, co6, eo6⟩ := Kd.R_slice HO_0.out
     subst eo6
     have p5 : 0 ≤ (x5_1 : Int) := of_decide_eq_true (by first | (with_reducible assumption) | assumption)
     have q5 : (x5_1 : Int) < ((x0_1.length : Int) : Int) := of_decide_eq_true (by first | (with_reducible assumption) | assumption)
     obtain ⟨go5, co5, eo5, gb5, gl5, cl5, HG5⟩ := Kd.R_form HO_0.out (by omega)
     (first | cases eo5 | (injection eo5 with ea_ en_ ec_; (first | subst ea_ | (injection ea_ with ea_; subst ea_)); subst ec_; clear en_))
     have GB5 := Aside0.mk gb5
     have GG5 := Aside0.mk HG5
     clear gb5 gl5 HG5
     have HMgo5 := Aside0.mk (show (P0_ go5 ∨ w.heap.size ≤ go5) from (HO_0.out.1 _ rfl))
     obtain ⟨hx5_0, hf5_0⟩ := Kd.R_celln 0 HO_0.out (x5_1 : Int) p5 q5
     replace p5 := eq_true p5
     replace q5 := eq_true q5
     have HP7 := Kd.R_putg HO_0.out (x5_1 : Int) x1_1
     go_wp2_with (first | ((with_reducible refine gate_store (t := 2) (p := 15) rfl ?_); refine store_event (t := 2) (p := 15) (v := ?vo_w8) (w1 := (wr.setCell ⟨go5, (x5_1 : Int).toNat, none⟩ (.int .i64 x1_1))) ?hg ?ho ?hn ?hr ?_; (case ho => rfl); (case hg => rfl); (case hn => rfl); (case hr => first | (go_simp; done) | (go_simp; rfl) | (have hq_ := HQ_.out; subst hq_; go_simp; done) | (have hq_ := HQ_.out; subst hq_; go_simp; rfl)); intro w8 hw; have hg : wr.grownBy w8 (some go5) := (by rw [hw]; exact HP7.2); have hp_ : Kd.R (Kd.int .i64) 2 w8 w0.heap.size (fun k_ => (P0_ k_ ∨ w.heap.size ≤ k_)) (.slice (some ⟨go5, 0, none⟩) x0_1.length co6) y670 := (by rw [hw, Ny670.out]; exact HP7.1); clear HP7; have n0_ := Aside0.mk (hp_); have n1_ := Aside0.mk ((by rw [hw]; exact below_set (HB.out) GB5.out : Below w0.heap.size w0 w8)); have n2_ := Aside0.mk (Kept.of_grown (S := (fun k_ => P0_ k_)) hg (by repeat (first | (with_reducible first | exact HK.out | apply Kept.alloc | apply Kept.drewN | apply Kept.drew) | exact HK.out)) (fun k_ e_ => (HO_0.out.1 k_ e_))); clear HO_0; clear HB; clear HK; have HO_0 := n0_; have HB := n1_; have HK := n2_; clear n0_ n1_ n2_; clear hg hw hp_))
     go_roundg k1
     case measure => have := HK1.out; omega
     case rel => exact ⟨(y670), (wrap64 (x1_1 + 1)), (wrap64 (x5_1 + 1)), (by first | rfl | (simp; done) | (simp [*]; done)), (by first | rfl | (simp; done) | (simp [*]; done)), H', ⟨by have := HK1.out; omega⟩, ⟨by (with_reducible repeat (first | apply Kd.R_alloc | apply Kd.R_drewN | apply Kd.R_drew)); exact HO_0.out⟩, ⟨by repeat (first | (with_reducible first | exact HK.out | apply Kept.alloc | apply Kept.drewN | apply Kept.drew) | exact HK.out)⟩, ⟨by repeat (first | (with_reducible first | exact HB.out | apply below_alloc | apply pw_below_drewN | apply below_drew1) | exact HB.out)⟩⟩
    ·
     rw [if_neg c4] at H
     exact absurd H (by simp)
   ·
    rw [if_neg c3] at H
    have c3b0 : decide (x5_1 < (x0_1.length : Int)) = false := decide_eq_false c3
    clear c3
    simp only [Option.some.injEq, Prod.mk.injEq] at H
    obtain ⟨rfl, rfl⟩ := H
    obtain ⟨Ao9, co9, eo9⟩ := Kd.R_slice HO_0.out
    subst eo9
    go_wp2
    go_ret
    exact ⟨by first | rfl | (simp [errW_none, errW_some] <;> rfl) | (simp [*, errW_none, errW_some] <;> rfl), by (with_reducible repeat (first | apply Kd.R_alloc | apply Kd.R_drewN | apply Kd.R_drew)); exact HO_0.out, by repeat (first | (with_reducible first | exact HB.out | apply below_alloc | apply pw_below_drewN | apply below_drew1) | exact HB.out), by repeat (first | (with_reducible first | exact HK.out | apply Kept.alloc | apply Kept.drewN | apply Kept.drew) | exact HK.out)⟩

end Go.Proofs.Ytibnmnkembbgeaa.Q
