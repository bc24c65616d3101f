/- For each Go function that the laws of this text reach: a Lean function, and the proof that the Go function returns what the Lean function tells, wherever it tells some value. Written by a program of this session. -/
import Derived.Test.YtcmoenkbckmmfaaKFnArea0
import Derived.Test.YtcmoenkbckmmfaaKFnArea1
import Derived.Test.YtcmoenkbckmmfaaKFnArea2
import Derived.Test.YtcmoenkbckmmfaaKFnArea3
import Derived.Test.YtcmoenkbckmmfaaKFnArea4
import Derived.Test.YtcmoenkbckmmfaaKFnArea5
namespace Go.Proofs.Ytcmoenkbckmmfaa.Q
open Go.RowKit Go.Proofs.YtcmoenkbckmmfaaW.PrintWords Go.Proofs.YtcmoenkbckmmfaaW.PrintLast Go.Proofs.YtcmoenkbckmmfaaW.PrintMore
attribute [local go_sem] max2_int min2_int max_two min_two max_three min_three max_four min_four Instr.field asAgg   -- for this text's walks alone
set_option linter.unusedVariables false
set_option linter.unusedSimpArgs false
/-! ### laws_FnArea: function 4 -/
/-- Is k one of l's. -/
def laws_FnArea.inL (l : List Int) (k : Int) : Bool := l.any (fun x => x == k)
/-- Each number of the area from k on: just one of 'in a or b' and 'free'. -/
def laws_FnArea.cover (a b fr : List Int) : Nat → Nat → Bool
 | 0, _ => true
 | d + 1, k => ((laws_FnArea.inL a k || laws_FnArea.inL b k) != laws_FnArea.inL fr k) && laws_FnArea.cover a b fr d (k + 1)
/-- No two runs meet. -/
def laws_FnArea.apart : List S51 → Bool
 | e :: f :: r => decide (wrap64 (e.f0 + e.f1) < f.f0) && laws_FnArea.apart (f :: r)
 | _ => true
def laws_FnArea.last (k : Nat) (a : List Int) (r : List S51) : Option Bool :=
 (impl_ListOf.f k r).bind fun z => (laws_lwNums.f k z.1 a).bind fun t => if t = true then ((impl_BitsOf.f k a).bind fun b => (impl_FromBits.f k b).bind fun m => (laws_lwNums.f k m a).bind fun t2 => if t2 = true then some true else none) else none
def laws_FnArea.ends (k : Nat) (a b fr : List Int) (r : List S51) : Option Bool :=
 (spec_ListRight.f k a).bind fun ra => if ra = true then ((spec_ListRight.f k b).bind fun rb => if rb = true then
  (if (laws_FnArea.apart r = true ∧ laws_FnArea.cover a b fr 24 0 = true) ∧ (r.length ≤ 1000 ∧ a.length ≤ 1000 ∧ b.length ≤ 1000 ∧ fr.length ≤ 1000) then laws_FnArea.last k a r else none) else if fr = [] then some true else none) else if fr = [] then some true else none
def laws_FnArea.bits (k : Nat) (n : Int) : Option Bool :=
 if 0 ≤ n ∧ n < 16777216 then ((impl_FromBits.f k n).bind fun m => (impl_BitsOf.f k m).bind fun v => if v = n then some true else none) else some true
def laws_FnArea.same (k : Nat) (a b fr : List Int) (r : List S51) (x y : List Int × Int) (n : Int) : Option Bool :=
 (spec_ExtentsOf.f k a).bind fun r2 => (laws_lwRuns.f k r r2).bind fun t1 => if t1 = true ∧ x.2 = y.2 then
  ((laws_lwNums.f k x.1 y.1).bind fun t2 => if t2 = true then ((impl_FromBits.f k n).bind fun m1 => (spec_FromBits.f k n).bind fun m2 => (laws_lwNums.f k m1 m2).bind fun t3 => if t3 = true then
   ((impl_BitsOf.f k a).bind fun v1 => (spec_BitsOf.f k a).bind fun v2 => if v1 = v2 then ((spec_FreeOf.f k a b).bind fun f2 => (laws_lwNums.f k fr f2).bind fun t4 => if t4 = true then
    ((impl_ListRight.f k a).bind fun q1 => (spec_ListRight.f k a).bind fun q2 => if q1 = q2 then some true else none) else none) else none) else none) else none) else none
def laws_FnArea.f (k : Nat) (l0 l1 : List Int) : Option Bool :=
 if (l0.length : Int) > 1048576 then some true else if (l1.length : Int) > 1048576 then some true else
 (spec_DrawFreeOf.f k l0).bind fun ab => (impl_ExtentsOf.f k ab.1).bind fun r => (spec_DrawListOf.f k l1).bind fun l => (impl_ListOf.f k l).bind fun x => (spec_ListOf.f k l).bind fun y =>
 (spec_DrawFromBits.f k l1).bind fun n => (impl_FreeOf.f k ab.1 ab.2).bind fun fr => (laws_FnArea.same k ab.1 ab.2 fr r x y n).bind fun s => if s = true then ((laws_FnArea.bits k n).bind fun s2 => if s2 = true then laws_FnArea.ends k ab.1 ab.2 fr r else none) else none
theorem laws_FnArea.still {P : Program} {id : Nat} {Q : Exit → Act → World → Prop} {a : Act} {w : World} {l : List Oper} (n : Nat) (hm : P.follows .mixedOrders = true) (hB : Region.lexTailB .any l.toArray n = true)
  (h : wpStill P l.toArray w.drew (fun a' => wpList P l.toArray Q (l.drop n) a' w.drew) (l.take n) a) : (Code.region id l.toArray true).wp P Q a w := wp_region_still_tail n hm hB h
theorem laws_FnArea.inL_take (l : List Int) (k : Int) (i : Nat) (h : i < l.length) : laws_FnArea.inL (l.take (i + 1)) k = (laws_FnArea.inL (l.take i) k || (rd l (i : Int) == k)) := by
 have e : rd l (i : Int) = l[i] := by simp [rd, h]
 rw [e, List.take_succ_eq_append_getElem h]
 unfold laws_FnArea.inL
 rw [List.any_append]
 simp
theorem laws_FnArea.apart_at : ∀ (r : List S51) (i : Nat), laws_FnArea.apart r = true → i + 1 < r.length → wrap64 ((rd_T51 r (i : Int)).f0 + (rd_T51 r (i : Int)).f1) < (rd_T51 r ((i : Int) + 1)).f0
 | [], _, _, h => absurd h (by simp)
 | [_], _, _, h => absurd h (by simp)
 | e :: f :: r, 0, h, _ => by
  simp only [laws_FnArea.apart, Bool.and_eq_true, decide_eq_true_eq] at h
  exact h.1
 | e :: f :: r, i + 1, h, hi => by
  simp only [laws_FnArea.apart, Bool.and_eq_true, decide_eq_true_eq] at h
  have := laws_FnArea.apart_at (f :: r) i h.2 (by simp only [List.length_cons] at hi ⊢; omega)
  simpa [rd_T51, show ((i : Int) + 1).toNat = i + 1 by omega, show ((i : Int) + 1 + 1).toNat = i + 2 by omega] using this
theorem laws_FnArea.cover_at (a b fr : List Int) : ∀ (d k j : Nat), laws_FnArea.cover a b fr d k = true → k ≤ j → j < k + d → ((laws_FnArea.inL a (j : Int) || laws_FnArea.inL b (j : Int)) == laws_FnArea.inL fr (j : Int)) = false
 | 0, k, j, _, h1, h2 => absurd h2 (by omega)
 | d + 1, k, j, h, h1, h2 => by
  simp only [laws_FnArea.cover, Bool.and_eq_true] at h
  by_cases e : j = k
  ·
   subst e; simpa using h.1
  ·
   exact laws_FnArea.cover_at a b fr d (k + 1) j h.2 (by omega) (by omega)
set_option maxHeartbeats 8000000 in
set_option maxRecDepth 100000 in
theorem laws_FnArea.calls (k : Nat) (A0 : Option Addr) (c0 : Nat) (l0 : List Int) (A1 : Option Addr) (c1 : Nat) (l1 : List Int) (r : Bool) (w : World) (hr0 : Kd.C (Kd.int .u8) w A0 l0.length l0) (hc0 : l0.length ≤ c0) (hr1 : Kd.C (Kd.int .u8) w A1 l1.length l1) (hc1 : l1.length ≤ c1) (h : laws_FnArea.f k l0 l1 = some r) :
  Calls Try.prog 4 #[.slice A0 l0.length c0, .slice A1 l1.length c1] w fun e w' => e = .returned (.bool r) ∧ Below w.heap.size w w' := by
 unfold laws_FnArea.f at h
 by_cases c1_ : (l0.length : Int) > 1048576
 ·
  rw [if_pos c1_] at h
  obtain rfl := Option.some.inj h
  have c1b0 : decide (1048576 < (l0.length : Int)) = true := decide_eq_true c1_
  have c1b1 : decide (1048576 < l0.length) = true := decide_eq_true (by omega)
  go_enter Try.func4, Try.ntmps4
  go_wp2
  go_ret
  exact ⟨rfl, Below.refl _ _⟩
 rw [if_neg c1_] at h
 have c1b0 : decide (1048576 < (l0.length : Int)) = false := decide_eq_false c1_
 have c1b1 : decide (1048576 < l0.length) = false := decide_eq_false (by omega)
 clear c1_
 by_cases c2_ : (l1.length : Int) > 1048576
 ·
  rw [if_pos c2_] at h
  obtain rfl := Option.some.inj h
  have c2b0 : decide (1048576 < (l1.length : Int)) = true := decide_eq_true c2_
  have c2b1 : decide (1048576 < l1.length) = true := decide_eq_true (by omega)
  go_enter Try.func4, Try.ntmps4
  go_wp2
  go_ret
  exact ⟨rfl, Below.refl _ _⟩
 rw [if_neg c2_] at h
 have c2b0 : decide (1048576 < (l1.length : Int)) = false := decide_eq_false c2_
 have c2b1 : decide (1048576 < l1.length) = false := decide_eq_false (by omega)
 clear c2_
 have HR0_ := Aside0.mk hr0
 have HR1_ := Aside0.mk hr1
 have HC0_ := Aside0.mk hc0
 have HC1_ := Aside0.mk hc1
 have HB := Aside0.mk (Below.refl w.heap.size w)
 clear hr0 hr1 hc0 hc1
 replace h := Option.bind_eq_some_iff.1 h
 obtain ⟨⟨a, b⟩, eab, h⟩ := h
 have Eeab := Aside0.mk eab
 clear eab
 replace h := Option.bind_eq_some_iff.1 h
 obtain ⟨rr, er, h⟩ := h
 have Eer := Aside0.mk er
 clear er
 replace h := Option.bind_eq_some_iff.1 h
 obtain ⟨l, el, h⟩ := h
 have Eel := Aside0.mk el
 clear el
 replace h := Option.bind_eq_some_iff.1 h
 obtain ⟨⟨x1, x2⟩, ex, h⟩ := h
 have Eex := Aside0.mk ex
 clear ex
 replace h := Option.bind_eq_some_iff.1 h
 obtain ⟨⟨y1, y2⟩, ey, h⟩ := h
 have Eey := Aside0.mk ey
 clear ey
 replace h := Option.bind_eq_some_iff.1 h
 obtain ⟨n, en, h⟩ := h
 have Een := Aside0.mk en
 clear en
 replace h := Option.bind_eq_some_iff.1 h
 obtain ⟨fr, ef, h⟩ := h
 have Eef := Aside0.mk ef
 clear ef
 replace h := Option.bind_eq_some_iff.1 h
 obtain ⟨s, es, h⟩ := h
 have Ees := Aside0.mk es
 clear es
 by_cases cs : s = true
 rotate_left
 ·
  rw [if_neg cs] at h; cases h
 rw [if_pos cs] at h
 subst cs
 have hS := Ees.out
 clear Ees
 unfold laws_FnArea.same at hS
 simp only at hS
 replace hS := Option.bind_eq_some_iff.1 hS
 obtain ⟨r2, er2, hS⟩ := hS
 have Eer2 := Aside0.mk er2
 clear er2
 replace hS := Option.bind_eq_some_iff.1 hS
 obtain ⟨t1, et1, hS⟩ := hS
 have Eet1 := Aside0.mk et1
 clear et1
 by_cases k1 : t1 = true ∧ x2 = y2
 rotate_left
 ·
  rw [if_neg k1] at hS; cases hS
 rw [if_pos k1] at hS
 obtain ⟨rfl, rfl⟩ := k1
 replace hS := Option.bind_eq_some_iff.1 hS
 obtain ⟨t2, et2, hS⟩ := hS
 have Eet2 := Aside0.mk et2
 clear et2
 by_cases k2 : t2 = true
 rotate_left
 ·
  rw [if_neg k2] at hS; cases hS
 rw [if_pos k2] at hS
 subst k2
 replace hS := Option.bind_eq_some_iff.1 hS
 obtain ⟨m1, em1, hS⟩ := hS
 have Eem1 := Aside0.mk em1
 clear em1
 replace hS := Option.bind_eq_some_iff.1 hS
 obtain ⟨m2, em2, hS⟩ := hS
 have Eem2 := Aside0.mk em2
 clear em2
 replace hS := Option.bind_eq_some_iff.1 hS
 obtain ⟨t3, et3, hS⟩ := hS
 have Eet3 := Aside0.mk et3
 clear et3
 by_cases k3 : t3 = true
 rotate_left
 ·
  rw [if_neg k3] at hS; cases hS
 rw [if_pos k3] at hS
 subst k3
 replace hS := Option.bind_eq_some_iff.1 hS
 obtain ⟨v1, ev1, hS⟩ := hS
 have Eev1 := Aside0.mk ev1
 clear ev1
 replace hS := Option.bind_eq_some_iff.1 hS
 obtain ⟨v2, ev2, hS⟩ := hS
 have Eev2 := Aside0.mk ev2
 clear ev2
 by_cases k4 : v1 = v2
 rotate_left
 ·
  rw [if_neg k4] at hS; cases hS
 rw [if_pos k4] at hS
 subst k4
 replace hS := Option.bind_eq_some_iff.1 hS
 obtain ⟨f2, ef2, hS⟩ := hS
 have Eef2 := Aside0.mk ef2
 clear ef2
 replace hS := Option.bind_eq_some_iff.1 hS
 obtain ⟨t4, et4, hS⟩ := hS
 have Eet4 := Aside0.mk et4
 clear et4
 by_cases k5 : t4 = true
 rotate_left
 ·
  rw [if_neg k5] at hS; cases hS
 rw [if_pos k5] at hS
 subst k5
 replace hS := Option.bind_eq_some_iff.1 hS
 obtain ⟨q1, eq1, hS⟩ := hS
 have Eeq1 := Aside0.mk eq1
 clear eq1
 replace hS := Option.bind_eq_some_iff.1 hS
 obtain ⟨q2, eq2, hS⟩ := hS
 have Eeq2 := Aside0.mk eq2
 clear eq2
 by_cases k6 : q1 = q2
 rotate_left
 ·
  rw [if_neg k6] at hS; cases hS
 rw [if_pos k6] at hS
 subst k6
 clear hS
 go_enter Try.func4, Try.ntmps4
 go_upto_region 11 with (first | (go_at_call 14; (with_reducible refine (spec_DrawFreeOf.calls k A0 c0 l0 a b _ (by repeat (first | exact HR0_.out | (with_reducible refine Kd.C_alloc ?_ _) | (with_reducible refine Kd.C_drewN ?_ _) | (with_reducible refine Kd.C_drew ?_))) HC0_.out Eeab.out).mono ?_); rintro e wq1 ⟨va, vb, rfl, hra, hrb, hb⟩; have HB' := Aside0.mk (show Below w.heap.size w wq1 from below_step (by repeat (with_reducible first | exact HB.out | exact Below.refl _ _ | apply below_alloc | apply pw_below_drewN | apply below_drew1)) hb); clear HB; have HB := HB'; clear HB'; have HQ := Aside0.mk (show Kd.C (Kd.int .u8) wq1 A0 l0.length l0 from Kd.C_below (by repeat (first | exact HR0_.out | (with_reducible refine Kd.C_alloc ?_ _) | (with_reducible refine Kd.C_drewN ?_ _) | (with_reducible refine Kd.C_drew ?_))) hb); clear HR0_; have HR0_ := HQ; clear HQ; have HQ := Aside0.mk (show Kd.C (Kd.int .u8) wq1 A1 l1.length l1 from Kd.C_below (by repeat (first | exact HR1_.out | (with_reducible refine Kd.C_alloc ?_ _) | (with_reducible refine Kd.C_drewN ?_ _) | (with_reducible refine Kd.C_drew ?_))) hb); clear HR1_; have HR1_ := HQ; clear HQ; obtain ⟨Aa, ca, rfl⟩ := Kd.R_slice hra; have HRa_ := Aside0.mk (Kd.R_reads' hra).2.2; have HCa_ := Aside0.mk (Kd.R_reads' hra).2.1; clear hra; obtain ⟨Ab, cb, rfl⟩ := Kd.R_slice hrb; have HRb_ := Aside0.mk (Kd.R_reads' hrb).2.2; have HCb_ := Aside0.mk (Kd.R_reads' hrb).2.1; clear hrb; clear hb) | (go_at_call 15; (with_reducible refine (impl_ExtentsOf.calls k Aa ca a rr _ (by repeat (first | exact HRa_.out | (with_reducible refine Kd.C_alloc ?_ _) | (with_reducible refine Kd.C_drewN ?_ _) | (with_reducible refine Kd.C_drew ?_))) HCa_.out Eer.out).mono ?_); rintro e wq2 ⟨vr, rfl, hrr, hb⟩; have HB' := Aside0.mk (show Below w.heap.size w wq2 from below_step (by repeat (with_reducible first | exact HB.out | exact Below.refl _ _ | apply below_alloc | apply pw_below_drewN | apply below_drew1)) hb); clear HB; have HB := HB'; clear HB'; have HQ := Aside0.mk (show Kd.C (Kd.int .u8) wq2 A0 l0.length l0 from Kd.C_below (by repeat (first | exact HR0_.out | (with_reducible refine Kd.C_alloc ?_ _) | (with_reducible refine Kd.C_drewN ?_ _) | (with_reducible refine Kd.C_drew ?_))) hb); clear HR0_; have HR0_ := HQ; clear HQ; have HQ := Aside0.mk (show Kd.C (Kd.int .u8) wq2 A1 l1.length l1 from Kd.C_below (by repeat (first | exact HR1_.out | (with_reducible refine Kd.C_alloc ?_ _) | (with_reducible refine Kd.C_drewN ?_ _) | (with_reducible refine Kd.C_drew ?_))) hb); clear HR1_; have HR1_ := HQ; clear HQ; have HQ := Aside0.mk (show Kd.C (Kd.int .i64) wq2 Aa a.length a from Kd.C_below (by repeat (first | exact HRa_.out | (with_reducible refine Kd.C_alloc ?_ _) | (with_reducible refine Kd.C_drewN ?_ _) | (with_reducible refine Kd.C_drew ?_))) hb); clear HRa_; have HRa_ := HQ; clear HQ; have HQ := Aside0.mk (show Kd.C (Kd.int .i64) wq2 Ab b.length b from Kd.C_below (by repeat (first | exact HRb_.out | (with_reducible refine Kd.C_alloc ?_ _) | (with_reducible refine Kd.C_drewN ?_ _) | (with_reducible refine Kd.C_drew ?_))) hb); clear HRb_; have HRb_ := HQ; clear HQ; obtain ⟨Ar, cr, rfl⟩ := Kd.R_slice hrr; have HRr_ := Aside0.mk (Kd.R_reads' hrr).2.2; have HCr_ := Aside0.mk (Kd.R_reads' hrr).2.1; clear hrr; clear hb) | (go_at_call 16; (with_reducible refine (spec_DrawListOf.calls k A1 c1 l1 l _ (by repeat (first | exact HR1_.out | (with_reducible refine Kd.C_alloc ?_ _) | (with_reducible refine Kd.C_drewN ?_ _) | (with_reducible refine Kd.C_drew ?_))) HC1_.out Eel.out).mono ?_); rintro e wq3 ⟨vl, rfl, hrl, hb⟩; have HB' := Aside0.mk (show Below w.heap.size w wq3 from below_step (by repeat (with_reducible first | exact HB.out | exact Below.refl _ _ | apply below_alloc | apply pw_below_drewN | apply below_drew1)) hb); clear HB; have HB := HB'; clear HB'; have HQ := Aside0.mk (show Kd.C (Kd.int .u8) wq3 A0 l0.length l0 from Kd.C_below (by repeat (first | exact HR0_.out | (with_reducible refine Kd.C_alloc ?_ _) | (with_reducible refine Kd.C_drewN ?_ _) | (with_reducible refine Kd.C_drew ?_))) hb); clear HR0_; have HR0_ := HQ; clear HQ; have HQ := Aside0.mk (show Kd.C (Kd.int .u8) wq3 A1 l1.length l1 from Kd.C_below (by repeat (first | exact HR1_.out | (with_reducible refine Kd.C_alloc ?_ _) | (with_reducible refine Kd.C_drewN ?_ _) | (with_reducible refine Kd.C_drew ?_))) hb); clear HR1_; have HR1_ := HQ; clear HQ; have HQ := Aside0.mk (show Kd.C (Kd.int .i64) wq3 Aa a.length a from Kd.C_below (by repeat (first | exact HRa_.out | (with_reducible refine Kd.C_alloc ?_ _) | (with_reducible refine Kd.C_drewN ?_ _) | (with_reducible refine Kd.C_drew ?_))) hb); clear HRa_; have HRa_ := HQ; clear HQ; have HQ := Aside0.mk (show Kd.C (Kd.int .i64) wq3 Ab b.length b from Kd.C_below (by repeat (first | exact HRb_.out | (with_reducible refine Kd.C_alloc ?_ _) | (with_reducible refine Kd.C_drewN ?_ _) | (with_reducible refine Kd.C_drew ?_))) hb); clear HRb_; have HRb_ := HQ; clear HQ; have HQ := Aside0.mk (show Kd.C k51 wq3 Ar rr.length rr from Kd.C_below (by repeat (first | exact HRr_.out | (with_reducible refine Kd.C_alloc ?_ _) | (with_reducible refine Kd.C_drewN ?_ _) | (with_reducible refine Kd.C_drew ?_))) hb); clear HRr_; have HRr_ := HQ; clear HQ; obtain ⟨Al, cl, rfl⟩ := Kd.R_slice hrl; have HRl_ := Aside0.mk (Kd.R_reads' hrl).2.2; have HCl_ := Aside0.mk (Kd.R_reads' hrl).2.1; clear hrl; clear hb) | (go_at_call 17; (with_reducible refine (impl_ListOf.calls k Al cl l x1 x2 _ (by repeat (first | exact HRl_.out | (with_reducible refine Kd.C_alloc ?_ _) | (with_reducible refine Kd.C_drewN ?_ _) | (with_reducible refine Kd.C_drew ?_))) HCl_.out Eex.out).mono ?_); rintro e wq4 ⟨vx, rfl, hrx, hb⟩; have HB' := Aside0.mk (show Below w.heap.size w wq4 from below_step (by repeat (with_reducible first | exact HB.out | exact Below.refl _ _ | apply below_alloc | apply pw_below_drewN | apply below_drew1)) hb); clear HB; have HB := HB'; clear HB'; have HQ := Aside0.mk (show Kd.C (Kd.int .u8) wq4 A0 l0.length l0 from Kd.C_below (by repeat (first | exact HR0_.out | (with_reducible refine Kd.C_alloc ?_ _) | (with_reducible refine Kd.C_drewN ?_ _) | (with_reducible refine Kd.C_drew ?_))) hb); clear HR0_; have HR0_ := HQ; clear HQ; have HQ := Aside0.mk (show Kd.C (Kd.int .u8) wq4 A1 l1.length l1 from Kd.C_below (by repeat (first | exact HR1_.out | (with_reducible refine Kd.C_alloc ?_ _) | (with_reducible refine Kd.C_drewN ?_ _) | (with_reducible refine Kd.C_drew ?_))) hb); clear HR1_; have HR1_ := HQ; clear HQ; have HQ := Aside0.mk (show Kd.C (Kd.int .i64) wq4 Aa a.length a from Kd.C_below (by repeat (first | exact HRa_.out | (with_reducible refine Kd.C_alloc ?_ _) | (with_reducible refine Kd.C_drewN ?_ _) | (with_reducible refine Kd.C_drew ?_))) hb); clear HRa_; have HRa_ := HQ; clear HQ; have HQ := Aside0.mk (show Kd.C (Kd.int .i64) wq4 Ab b.length b from Kd.C_below (by repeat (first | exact HRb_.out | (with_reducible refine Kd.C_alloc ?_ _) | (with_reducible refine Kd.C_drewN ?_ _) | (with_reducible refine Kd.C_drew ?_))) hb); clear HRb_; have HRb_ := HQ; clear HQ; have HQ := Aside0.mk (show Kd.C k51 wq4 Ar rr.length rr from Kd.C_below (by repeat (first | exact HRr_.out | (with_reducible refine Kd.C_alloc ?_ _) | (with_reducible refine Kd.C_drewN ?_ _) | (with_reducible refine Kd.C_drew ?_))) hb); clear HRr_; have HRr_ := HQ; clear HQ; have HQ := Aside0.mk (show Kd.C k51 wq4 Al l.length l from Kd.C_below (by repeat (first | exact HRl_.out | (with_reducible refine Kd.C_alloc ?_ _) | (with_reducible refine Kd.C_drewN ?_ _) | (with_reducible refine Kd.C_drew ?_))) hb); clear HRl_; have HRl_ := HQ; clear HQ; obtain ⟨Ax, cx, rfl⟩ := Kd.R_slice hrx; have HRx_ := Aside0.mk (Kd.R_reads' hrx).2.2; have HCx_ := Aside0.mk (Kd.R_reads' hrx).2.1; clear hrx; clear hb) | (go_at_call 18; (with_reducible refine (spec_ListOf.calls k Al cl l y1 x2 _ (by repeat (first | exact HRl_.out | (with_reducible refine Kd.C_alloc ?_ _) | (with_reducible refine Kd.C_drewN ?_ _) | (with_reducible refine Kd.C_drew ?_))) HCl_.out Eey.out).mono ?_); rintro e wq5 ⟨vy, rfl, hry, hb⟩; have HB' := Aside0.mk (show Below w.heap.size w wq5 from below_step (by repeat (with_reducible first | exact HB.out | exact Below.refl _ _ | apply below_alloc | apply pw_below_drewN | apply below_drew1)) hb); clear HB; have HB := HB'; clear HB'; have HQ := Aside0.mk (show Kd.C (Kd.int .u8) wq5 A0 l0.length l0 from Kd.C_below (by repeat (first | exact HR0_.out | (with_reducible refine Kd.C_alloc ?_ _) | (with_reducible refine Kd.C_drewN ?_ _) | (with_reducible refine Kd.C_drew ?_))) hb); clear HR0_; have HR0_ := HQ; clear HQ; have HQ := Aside0.mk (show Kd.C (Kd.int .u8) wq5 A1 l1.length l1 from Kd.C_below (by repeat (first | exact HR1_.out | (with_reducible refine Kd.C_alloc ?_ _) | (with_reducible refine Kd.C_drewN ?_ _) | (with_reducible refine Kd.C_drew ?_))) hb); clear HR1_; have HR1_ := HQ; clear HQ; have HQ := Aside0.mk (show Kd.C (Kd.int .i64) wq5 Aa a.length a from Kd.C_below (by repeat (first | exact HRa_.out | (with_reducible refine Kd.C_alloc ?_ _) | (with_reducible refine Kd.C_drewN ?_ _) | (with_reducible refine Kd.C_drew ?_))) hb); clear HRa_; have HRa_ := HQ; clear HQ; have HQ := Aside0.mk (show Kd.C (Kd.int .i64) wq5 Ab b.length b from Kd.C_below (by repeat (first | exact HRb_.out | (with_reducible refine Kd.C_alloc ?_ _) | (with_reducible refine Kd.C_drewN ?_ _) | (with_reducible refine Kd.C_drew ?_))) hb); clear HRb_; have HRb_ := HQ; clear HQ; have HQ := Aside0.mk (show Kd.C k51 wq5 Ar rr.length rr from Kd.C_below (by repeat (first | exact HRr_.out | (with_reducible refine Kd.C_alloc ?_ _) | (with_reducible refine Kd.C_drewN ?_ _) | (with_reducible refine Kd.C_drew ?_))) hb); clear HRr_; have HRr_ := HQ; clear HQ; have HQ := Aside0.mk (show Kd.C k51 wq5 Al l.length l from Kd.C_below (by repeat (first | exact HRl_.out | (with_reducible refine Kd.C_alloc ?_ _) | (with_reducible refine Kd.C_drewN ?_ _) | (with_reducible refine Kd.C_drew ?_))) hb); clear HRl_; have HRl_ := HQ; clear HQ; have HQ := Aside0.mk (show Kd.C (Kd.int .i64) wq5 Ax x1.length x1 from Kd.C_below (by repeat (first | exact HRx_.out | (with_reducible refine Kd.C_alloc ?_ _) | (with_reducible refine Kd.C_drewN ?_ _) | (with_reducible refine Kd.C_drew ?_))) hb); clear HRx_; have HRx_ := HQ; clear HQ; obtain ⟨Ay, cy, rfl⟩ := Kd.R_slice hry; have HRy_ := Aside0.mk (Kd.R_reads' hry).2.2; have HCy_ := Aside0.mk (Kd.R_reads' hry).2.1; clear hry; clear hb) | (go_at_call 19; (with_reducible refine (spec_DrawFromBits.calls k A1 c1 l1 n _ (by repeat (first | exact HR1_.out | (with_reducible refine Kd.C_alloc ?_ _) | (with_reducible refine Kd.C_drewN ?_ _) | (with_reducible refine Kd.C_drew ?_))) HC1_.out Een.out).mono ?_); rintro e wq6 ⟨rfl, hb⟩; have HB' := Aside0.mk (show Below w.heap.size w wq6 from below_step (by repeat (with_reducible first | exact HB.out | exact Below.refl _ _ | apply below_alloc | apply pw_below_drewN | apply below_drew1)) hb); clear HB; have HB := HB'; clear HB'; have HQ := Aside0.mk (show Kd.C (Kd.int .u8) wq6 A0 l0.length l0 from Kd.C_below (by repeat (first | exact HR0_.out | (with_reducible refine Kd.C_alloc ?_ _) | (with_reducible refine Kd.C_drewN ?_ _) | (with_reducible refine Kd.C_drew ?_))) hb); clear HR0_; have HR0_ := HQ; clear HQ; have HQ := Aside0.mk (show Kd.C (Kd.int .u8) wq6 A1 l1.length l1 from Kd.C_below (by repeat (first | exact HR1_.out | (with_reducible refine Kd.C_alloc ?_ _) | (with_reducible refine Kd.C_drewN ?_ _) | (with_reducible refine Kd.C_drew ?_))) hb); clear HR1_; have HR1_ := HQ; clear HQ; have HQ := Aside0.mk (show Kd.C (Kd.int .i64) wq6 Aa a.length a from Kd.C_below (by repeat (first | exact HRa_.out | (with_reducible refine Kd.C_alloc ?_ _) | (with_reducible refine Kd.C_drewN ?_ _) | (with_reducible refine Kd.C_drew ?_))) hb); clear HRa_; have HRa_ := HQ; clear HQ; have HQ := Aside0.mk (show Kd.C (Kd.int .i64) wq6 Ab b.length b from Kd.C_below (by repeat (first | exact HRb_.out | (with_reducible refine Kd.C_alloc ?_ _) | (with_reducible refine Kd.C_drewN ?_ _) | (with_reducible refine Kd.C_drew ?_))) hb); clear HRb_; have HRb_ := HQ; clear HQ; have HQ := Aside0.mk (show Kd.C k51 wq6 Ar rr.length rr from Kd.C_below (by repeat (first | exact HRr_.out | (with_reducible refine Kd.C_alloc ?_ _) | (with_reducible refine Kd.C_drewN ?_ _) | (with_reducible refine Kd.C_drew ?_))) hb); clear HRr_; have HRr_ := HQ; clear HQ; have HQ := Aside0.mk (show Kd.C k51 wq6 Al l.length l from Kd.C_below (by repeat (first | exact HRl_.out | (with_reducible refine Kd.C_alloc ?_ _) | (with_reducible refine Kd.C_drewN ?_ _) | (with_reducible refine Kd.C_drew ?_))) hb); clear HRl_; have HRl_ := HQ; clear HQ; have HQ := Aside0.mk (show Kd.C (Kd.int .i64) wq6 Ax x1.length x1 from Kd.C_below (by repeat (first | exact HRx_.out | (with_reducible refine Kd.C_alloc ?_ _) | (with_reducible refine Kd.C_drewN ?_ _) | (with_reducible refine Kd.C_drew ?_))) hb); clear HRx_; have HRx_ := HQ; clear HQ; have HQ := Aside0.mk (show Kd.C (Kd.int .i64) wq6 Ay y1.length y1 from Kd.C_below (by repeat (first | exact HRy_.out | (with_reducible refine Kd.C_alloc ?_ _) | (with_reducible refine Kd.C_drewN ?_ _) | (with_reducible refine Kd.C_drew ?_))) hb); clear HRy_; have HRy_ := HQ; clear HQ; have BX := Aside0.mk (show wq6.heap[wq5.heap.size]? = some (.cells #[.slice Ax x1.length cx, .int .i64 x2] 41 (0, 0)) from blk_below (by exact blk_alloc (blk_new _ _) _) hb); have BY := Aside0.mk (show wq6.heap[wq5.heap.size + 1]? = some (.cells #[.slice Ay y1.length cy, .int .i64 x2] 41 (0, 0)) from blk_below (by have h_ := blk_new (wq5.alloc (.cells #[.slice Ax x1.length cx, .int .i64 x2] 41)) (.cells #[.slice Ay y1.length cy, .int .i64 x2] 41); simpa using h_) hb); clear hb) | (go_at_call 20; (with_reducible refine (impl_FreeOf.calls k Aa ca a Ab cb b fr _ (by repeat (first | exact HRa_.out | (with_reducible refine Kd.C_alloc ?_ _) | (with_reducible refine Kd.C_drewN ?_ _) | (with_reducible refine Kd.C_drew ?_))) HCa_.out (by repeat (first | exact HRb_.out | (with_reducible refine Kd.C_alloc ?_ _) | (with_reducible refine Kd.C_drewN ?_ _) | (with_reducible refine Kd.C_drew ?_))) HCb_.out Eef.out).mono ?_); rintro e wq7 ⟨vf, rfl, hrf, hb⟩; have HB' := Aside0.mk (show Below w.heap.size w wq7 from below_step (by repeat (with_reducible first | exact HB.out | exact Below.refl _ _ | apply below_alloc | apply pw_below_drewN | apply below_drew1)) hb); clear HB; have HB := HB'; clear HB'; have HQ := Aside0.mk (show Kd.C (Kd.int .u8) wq7 A0 l0.length l0 from Kd.C_below (by repeat (first | exact HR0_.out | (with_reducible refine Kd.C_alloc ?_ _) | (with_reducible refine Kd.C_drewN ?_ _) | (with_reducible refine Kd.C_drew ?_))) hb); clear HR0_; have HR0_ := HQ; clear HQ; have HQ := Aside0.mk (show Kd.C (Kd.int .u8) wq7 A1 l1.length l1 from Kd.C_below (by repeat (first | exact HR1_.out | (with_reducible refine Kd.C_alloc ?_ _) | (with_reducible refine Kd.C_drewN ?_ _) | (with_reducible refine Kd.C_drew ?_))) hb); clear HR1_; have HR1_ := HQ; clear HQ; have HQ := Aside0.mk (show Kd.C (Kd.int .i64) wq7 Aa a.length a from Kd.C_below (by repeat (first | exact HRa_.out | (with_reducible refine Kd.C_alloc ?_ _) | (with_reducible refine Kd.C_drewN ?_ _) | (with_reducible refine Kd.C_drew ?_))) hb); clear HRa_; have HRa_ := HQ; clear HQ; have HQ := Aside0.mk (show Kd.C (Kd.int .i64) wq7 Ab b.length b from Kd.C_below (by repeat (first | exact HRb_.out | (with_reducible refine Kd.C_alloc ?_ _) | (with_reducible refine Kd.C_drewN ?_ _) | (with_reducible refine Kd.C_drew ?_))) hb); clear HRb_; have HRb_ := HQ; clear HQ; have HQ := Aside0.mk (show Kd.C k51 wq7 Ar rr.length rr from Kd.C_below (by repeat (first | exact HRr_.out | (with_reducible refine Kd.C_alloc ?_ _) | (with_reducible refine Kd.C_drewN ?_ _) | (with_reducible refine Kd.C_drew ?_))) hb); clear HRr_; have HRr_ := HQ; clear HQ; have HQ := Aside0.mk (show Kd.C k51 wq7 Al l.length l from Kd.C_below (by repeat (first | exact HRl_.out | (with_reducible refine Kd.C_alloc ?_ _) | (with_reducible refine Kd.C_drewN ?_ _) | (with_reducible refine Kd.C_drew ?_))) hb); clear HRl_; have HRl_ := HQ; clear HQ; have HQ := Aside0.mk (show Kd.C (Kd.int .i64) wq7 Ax x1.length x1 from Kd.C_below (by repeat (first | exact HRx_.out | (with_reducible refine Kd.C_alloc ?_ _) | (with_reducible refine Kd.C_drewN ?_ _) | (with_reducible refine Kd.C_drew ?_))) hb); clear HRx_; have HRx_ := HQ; clear HQ; have HQ := Aside0.mk (show Kd.C (Kd.int .i64) wq7 Ay y1.length y1 from Kd.C_below (by repeat (first | exact HRy_.out | (with_reducible refine Kd.C_alloc ?_ _) | (with_reducible refine Kd.C_drewN ?_ _) | (with_reducible refine Kd.C_drew ?_))) hb); clear HRy_; have HRy_ := HQ; clear HQ; obtain ⟨Af, cf, rfl⟩ := Kd.R_slice hrf; have HRf_ := Aside0.mk (Kd.R_reads' hrf).2.2; have HCf_ := Aside0.mk (Kd.R_reads' hrf).2.1; clear hrf; have BX' := Aside0.mk (show wq7.heap[wq5.heap.size]? = some (.cells #[.slice Ax x1.length cx, .int .i64 x2] 41 (0, 0)) from blk_below BX.out hb); have BY' := Aside0.mk (show wq7.heap[wq5.heap.size + 1]? = some (.cells #[.slice Ay y1.length cy, .int .i64 x2] 41 (0, 0)) from blk_below BY.out hb); clear BX BY; clear hb) | (go_at_call 22; (with_reducible refine (spec_ExtentsOf.calls k Aa ca a r2 _ (by repeat (first | exact HRa_.out | (with_reducible refine Kd.C_alloc ?_ _) | (with_reducible refine Kd.C_drewN ?_ _) | (with_reducible refine Kd.C_drew ?_))) HCa_.out Eer2.out).mono ?_); rintro e wq8 ⟨vq, rfl, hrq, hb⟩; have HB' := Aside0.mk (show Below w.heap.size w wq8 from below_step (by repeat (with_reducible first | exact HB.out | exact Below.refl _ _ | apply below_alloc | apply pw_below_drewN | apply below_drew1)) hb); clear HB; have HB := HB'; clear HB'; have HQ := Aside0.mk (show Kd.C (Kd.int .u8) wq8 A0 l0.length l0 from Kd.C_below (by repeat (first | exact HR0_.out | (with_reducible refine Kd.C_alloc ?_ _) | (with_reducible refine Kd.C_drewN ?_ _) | (with_reducible refine Kd.C_drew ?_))) hb); clear HR0_; have HR0_ := HQ; clear HQ; have HQ := Aside0.mk (show Kd.C (Kd.int .u8) wq8 A1 l1.length l1 from Kd.C_below (by repeat (first | exact HR1_.out | (with_reducible refine Kd.C_alloc ?_ _) | (with_reducible refine Kd.C_drewN ?_ _) | (with_reducible refine Kd.C_drew ?_))) hb); clear HR1_; have HR1_ := HQ; clear HQ; have HQ := Aside0.mk (show Kd.C (Kd.int .i64) wq8 Aa a.length a from Kd.C_below (by repeat (first | exact HRa_.out | (with_reducible refine Kd.C_alloc ?_ _) | (with_reducible refine Kd.C_drewN ?_ _) | (with_reducible refine Kd.C_drew ?_))) hb); clear HRa_; have HRa_ := HQ; clear HQ; have HQ := Aside0.mk (show Kd.C (Kd.int .i64) wq8 Ab b.length b from Kd.C_below (by repeat (first | exact HRb_.out | (with_reducible refine Kd.C_alloc ?_ _) | (with_reducible refine Kd.C_drewN ?_ _) | (with_reducible refine Kd.C_drew ?_))) hb); clear HRb_; have HRb_ := HQ; clear HQ; have HQ := Aside0.mk (show Kd.C k51 wq8 Ar rr.length rr from Kd.C_below (by repeat (first | exact HRr_.out | (with_reducible refine Kd.C_alloc ?_ _) | (with_reducible refine Kd.C_drewN ?_ _) | (with_reducible refine Kd.C_drew ?_))) hb); clear HRr_; have HRr_ := HQ; clear HQ; have HQ := Aside0.mk (show Kd.C k51 wq8 Al l.length l from Kd.C_below (by repeat (first | exact HRl_.out | (with_reducible refine Kd.C_alloc ?_ _) | (with_reducible refine Kd.C_drewN ?_ _) | (with_reducible refine Kd.C_drew ?_))) hb); clear HRl_; have HRl_ := HQ; clear HQ; have HQ := Aside0.mk (show Kd.C (Kd.int .i64) wq8 Ax x1.length x1 from Kd.C_below (by repeat (first | exact HRx_.out | (with_reducible refine Kd.C_alloc ?_ _) | (with_reducible refine Kd.C_drewN ?_ _) | (with_reducible refine Kd.C_drew ?_))) hb); clear HRx_; have HRx_ := HQ; clear HQ; have HQ := Aside0.mk (show Kd.C (Kd.int .i64) wq8 Ay y1.length y1 from Kd.C_below (by repeat (first | exact HRy_.out | (with_reducible refine Kd.C_alloc ?_ _) | (with_reducible refine Kd.C_drewN ?_ _) | (with_reducible refine Kd.C_drew ?_))) hb); clear HRy_; have HRy_ := HQ; clear HQ; have HQ := Aside0.mk (show Kd.C (Kd.int .i64) wq8 Af fr.length fr from Kd.C_below (by repeat (first | exact HRf_.out | (with_reducible refine Kd.C_alloc ?_ _) | (with_reducible refine Kd.C_drewN ?_ _) | (with_reducible refine Kd.C_drew ?_))) hb); clear HRf_; have HRf_ := HQ; clear HQ; obtain ⟨Aq, cq, rfl⟩ := Kd.R_slice hrq; have HRq_ := Aside0.mk (Kd.R_reads' hrq).2.2; have HCq_ := Aside0.mk (Kd.R_reads' hrq).2.1; clear hrq; have hcx0 : wq8.cell? ⟨wq5.heap.size, 0, none⟩ = some (.slice Ax x1.length cx) := (blk_cell (blk_below BX'.out hb) 0).trans rfl; have hcx1 : wq8.cell? ⟨wq5.heap.size, 1, none⟩ = some (.int .i64 x2) := (blk_cell (blk_below BX'.out hb) 1).trans rfl; have hcy0 : wq8.cell? ⟨wq5.heap.size + 1, 0, none⟩ = some (.slice Ay y1.length cy) := (blk_cell (blk_below BY'.out hb) 0).trans rfl; have hcy1 : wq8.cell? ⟨wq5.heap.size + 1, 1, none⟩ = some (.int .i64 x2) := (blk_cell (blk_below BY'.out hb) 1).trans rfl; clear hb) | (go_at_call 21; (with_reducible refine (laws_lwRuns.calls k Ar cr rr Aq cq r2 true _ (by repeat (first | exact HRr_.out | (with_reducible refine Kd.C_alloc ?_ _) | (with_reducible refine Kd.C_drewN ?_ _) | (with_reducible refine Kd.C_drew ?_))) HCr_.out (by repeat (first | exact HRq_.out | (with_reducible refine Kd.C_alloc ?_ _) | (with_reducible refine Kd.C_drewN ?_ _) | (with_reducible refine Kd.C_drew ?_))) HCq_.out Eet1.out).mono ?_); rintro e w' ⟨rfl, ⟨nd, rfl⟩⟩) | (go_at_call 23; (with_reducible refine (laws_lwNums.calls k Ax cx x1 Ay cy y1 true _ (by repeat (first | exact HRx_.out | (with_reducible refine Kd.C_alloc ?_ _) | (with_reducible refine Kd.C_drewN ?_ _) | (with_reducible refine Kd.C_drew ?_))) HCx_.out (by repeat (first | exact HRy_.out | (with_reducible refine Kd.C_alloc ?_ _) | (with_reducible refine Kd.C_drewN ?_ _) | (with_reducible refine Kd.C_drew ?_))) HCy_.out Eet2.out).mono ?_); rintro e w' ⟨rfl, ⟨nd, rfl⟩⟩) | (go_at_call 24; (with_reducible refine (impl_FromBits.calls k n m1 _ Eem1.out).mono ?_); rintro e wq9 ⟨vm, rfl, hrm, hb⟩; have HB' := Aside0.mk (show Below w.heap.size w wq9 from below_step (by repeat (with_reducible first | exact HB.out | exact Below.refl _ _ | apply below_alloc | apply pw_below_drewN | apply below_drew1)) hb); clear HB; have HB := HB'; clear HB'; have HQ := Aside0.mk (show Kd.C (Kd.int .u8) wq9 A0 l0.length l0 from Kd.C_below (by repeat (first | exact HR0_.out | (with_reducible refine Kd.C_alloc ?_ _) | (with_reducible refine Kd.C_drewN ?_ _) | (with_reducible refine Kd.C_drew ?_))) hb); clear HR0_; have HR0_ := HQ; clear HQ; have HQ := Aside0.mk (show Kd.C (Kd.int .u8) wq9 A1 l1.length l1 from Kd.C_below (by repeat (first | exact HR1_.out | (with_reducible refine Kd.C_alloc ?_ _) | (with_reducible refine Kd.C_drewN ?_ _) | (with_reducible refine Kd.C_drew ?_))) hb); clear HR1_; have HR1_ := HQ; clear HQ; have HQ := Aside0.mk (show Kd.C (Kd.int .i64) wq9 Aa a.length a from Kd.C_below (by repeat (first | exact HRa_.out | (with_reducible refine Kd.C_alloc ?_ _) | (with_reducible refine Kd.C_drewN ?_ _) | (with_reducible refine Kd.C_drew ?_))) hb); clear HRa_; have HRa_ := HQ; clear HQ; have HQ := Aside0.mk (show Kd.C (Kd.int .i64) wq9 Ab b.length b from Kd.C_below (by repeat (first | exact HRb_.out | (with_reducible refine Kd.C_alloc ?_ _) | (with_reducible refine Kd.C_drewN ?_ _) | (with_reducible refine Kd.C_drew ?_))) hb); clear HRb_; have HRb_ := HQ; clear HQ; have HQ := Aside0.mk (show Kd.C k51 wq9 Ar rr.length rr from Kd.C_below (by repeat (first | exact HRr_.out | (with_reducible refine Kd.C_alloc ?_ _) | (with_reducible refine Kd.C_drewN ?_ _) | (with_reducible refine Kd.C_drew ?_))) hb); clear HRr_; have HRr_ := HQ; clear HQ; have HQ := Aside0.mk (show Kd.C k51 wq9 Al l.length l from Kd.C_below (by repeat (first | exact HRl_.out | (with_reducible refine Kd.C_alloc ?_ _) | (with_reducible refine Kd.C_drewN ?_ _) | (with_reducible refine Kd.C_drew ?_))) hb); clear HRl_; have HRl_ := HQ; clear HQ; have HQ := Aside0.mk (show Kd.C (Kd.int .i64) wq9 Ax x1.length x1 from Kd.C_below (by repeat (first | exact HRx_.out | (with_reducible refine Kd.C_alloc ?_ _) | (with_reducible refine Kd.C_drewN ?_ _) | (with_reducible refine Kd.C_drew ?_))) hb); clear HRx_; have HRx_ := HQ; clear HQ; have HQ := Aside0.mk (show Kd.C (Kd.int .i64) wq9 Ay y1.length y1 from Kd.C_below (by repeat (first | exact HRy_.out | (with_reducible refine Kd.C_alloc ?_ _) | (with_reducible refine Kd.C_drewN ?_ _) | (with_reducible refine Kd.C_drew ?_))) hb); clear HRy_; have HRy_ := HQ; clear HQ; have HQ := Aside0.mk (show Kd.C (Kd.int .i64) wq9 Af fr.length fr from Kd.C_below (by repeat (first | exact HRf_.out | (with_reducible refine Kd.C_alloc ?_ _) | (with_reducible refine Kd.C_drewN ?_ _) | (with_reducible refine Kd.C_drew ?_))) hb); clear HRf_; have HRf_ := HQ; clear HQ; have HQ := Aside0.mk (show Kd.C k51 wq9 Aq r2.length r2 from Kd.C_below (by repeat (first | exact HRq_.out | (with_reducible refine Kd.C_alloc ?_ _) | (with_reducible refine Kd.C_drewN ?_ _) | (with_reducible refine Kd.C_drew ?_))) hb); clear HRq_; have HRq_ := HQ; clear HQ; obtain ⟨Am, cm, rfl⟩ := Kd.R_slice hrm; have HRm_ := Aside0.mk (Kd.R_reads' hrm).2.2; have HCm_ := Aside0.mk (Kd.R_reads' hrm).2.1; clear hrm; clear hb) | (go_at_call 25; (with_reducible refine (spec_FromBits.calls k n m2 _ Eem2.out).mono ?_); rintro e wq10 ⟨vp, rfl, hrp, hb⟩; have HB' := Aside0.mk (show Below w.heap.size w wq10 from below_step (by repeat (with_reducible first | exact HB.out | exact Below.refl _ _ | apply below_alloc | apply pw_below_drewN | apply below_drew1)) hb); clear HB; have HB := HB'; clear HB'; have HQ := Aside0.mk (show Kd.C (Kd.int .u8) wq10 A0 l0.length l0 from Kd.C_below (by repeat (first | exact HR0_.out | (with_reducible refine Kd.C_alloc ?_ _) | (with_reducible refine Kd.C_drewN ?_ _) | (with_reducible refine Kd.C_drew ?_))) hb); clear HR0_; have HR0_ := HQ; clear HQ; have HQ := Aside0.mk (show Kd.C (Kd.int .u8) wq10 A1 l1.length l1 from Kd.C_below (by repeat (first | exact HR1_.out | (with_reducible refine Kd.C_alloc ?_ _) | (with_reducible refine Kd.C_drewN ?_ _) | (with_reducible refine Kd.C_drew ?_))) hb); clear HR1_; have HR1_ := HQ; clear HQ; have HQ := Aside0.mk (show Kd.C (Kd.int .i64) wq10 Aa a.length a from Kd.C_below (by repeat (first | exact HRa_.out | (with_reducible refine Kd.C_alloc ?_ _) | (with_reducible refine Kd.C_drewN ?_ _) | (with_reducible refine Kd.C_drew ?_))) hb); clear HRa_; have HRa_ := HQ; clear HQ; have HQ := Aside0.mk (show Kd.C (Kd.int .i64) wq10 Ab b.length b from Kd.C_below (by repeat (first | exact HRb_.out | (with_reducible refine Kd.C_alloc ?_ _) | (with_reducible refine Kd.C_drewN ?_ _) | (with_reducible refine Kd.C_drew ?_))) hb); clear HRb_; have HRb_ := HQ; clear HQ; have HQ := Aside0.mk (show Kd.C k51 wq10 Ar rr.length rr from Kd.C_below (by repeat (first | exact HRr_.out | (with_reducible refine Kd.C_alloc ?_ _) | (with_reducible refine Kd.C_drewN ?_ _) | (with_reducible refine Kd.C_drew ?_))) hb); clear HRr_; have HRr_ := HQ; clear HQ; have HQ := Aside0.mk (show Kd.C k51 wq10 Al l.length l from Kd.C_below (by repeat (first | exact HRl_.out | (with_reducible refine Kd.C_alloc ?_ _) | (with_reducible refine Kd.C_drewN ?_ _) | (with_reducible refine Kd.C_drew ?_))) hb); clear HRl_; have HRl_ := HQ; clear HQ; have HQ := Aside0.mk (show Kd.C (Kd.int .i64) wq10 Ax x1.length x1 from Kd.C_below (by repeat (first | exact HRx_.out | (with_reducible refine Kd.C_alloc ?_ _) | (with_reducible refine Kd.C_drewN ?_ _) | (with_reducible refine Kd.C_drew ?_))) hb); clear HRx_; have HRx_ := HQ; clear HQ; have HQ := Aside0.mk (show Kd.C (Kd.int .i64) wq10 Ay y1.length y1 from Kd.C_below (by repeat (first | exact HRy_.out | (with_reducible refine Kd.C_alloc ?_ _) | (with_reducible refine Kd.C_drewN ?_ _) | (with_reducible refine Kd.C_drew ?_))) hb); clear HRy_; have HRy_ := HQ; clear HQ; have HQ := Aside0.mk (show Kd.C (Kd.int .i64) wq10 Af fr.length fr from Kd.C_below (by repeat (first | exact HRf_.out | (with_reducible refine Kd.C_alloc ?_ _) | (with_reducible refine Kd.C_drewN ?_ _) | (with_reducible refine Kd.C_drew ?_))) hb); clear HRf_; have HRf_ := HQ; clear HQ; have HQ := Aside0.mk (show Kd.C k51 wq10 Aq r2.length r2 from Kd.C_below (by repeat (first | exact HRq_.out | (with_reducible refine Kd.C_alloc ?_ _) | (with_reducible refine Kd.C_drewN ?_ _) | (with_reducible refine Kd.C_drew ?_))) hb); clear HRq_; have HRq_ := HQ; clear HQ; have HQ := Aside0.mk (show Kd.C (Kd.int .i64) wq10 Am m1.length m1 from Kd.C_below (by repeat (first | exact HRm_.out | (with_reducible refine Kd.C_alloc ?_ _) | (with_reducible refine Kd.C_drewN ?_ _) | (with_reducible refine Kd.C_drew ?_))) hb); clear HRm_; have HRm_ := HQ; clear HQ; obtain ⟨Ap, cp, rfl⟩ := Kd.R_slice hrp; have HRp_ := Aside0.mk (Kd.R_reads' hrp).2.2; have HCp_ := Aside0.mk (Kd.R_reads' hrp).2.1; clear hrp; clear hb) | (go_at_call 23; (with_reducible refine (laws_lwNums.calls k Am cm m1 Ap cp m2 true _ (by repeat (first | exact HRm_.out | (with_reducible refine Kd.C_alloc ?_ _) | (with_reducible refine Kd.C_drewN ?_ _) | (with_reducible refine Kd.C_drew ?_))) HCm_.out (by repeat (first | exact HRp_.out | (with_reducible refine Kd.C_alloc ?_ _) | (with_reducible refine Kd.C_drewN ?_ _) | (with_reducible refine Kd.C_drew ?_))) HCp_.out Eet3.out).mono ?_); rintro e w' ⟨rfl, ⟨nd, rfl⟩⟩) | (go_at_call 26; (with_reducible refine (impl_BitsOf.calls k Aa ca a v1 _ (by repeat (first | exact HRa_.out | (with_reducible refine Kd.C_alloc ?_ _) | (with_reducible refine Kd.C_drewN ?_ _) | (with_reducible refine Kd.C_drew ?_))) HCa_.out Eev1.out).mono ?_); rintro e w' ⟨rfl, ⟨nd, rfl⟩⟩) | (go_at_call 27; (with_reducible refine (spec_BitsOf.calls k Aa ca a v1 _ (by repeat (first | exact HRa_.out | (with_reducible refine Kd.C_alloc ?_ _) | (with_reducible refine Kd.C_drewN ?_ _) | (with_reducible refine Kd.C_drew ?_))) HCa_.out Eev2.out).mono ?_); rintro e w' ⟨rfl, ⟨nd, rfl⟩⟩) | (go_at_call 28; (with_reducible refine (spec_FreeOf.calls k Aa ca a Ab cb b f2 _ (by repeat (first | exact HRa_.out | (with_reducible refine Kd.C_alloc ?_ _) | (with_reducible refine Kd.C_drewN ?_ _) | (with_reducible refine Kd.C_drew ?_))) HCa_.out (by repeat (first | exact HRb_.out | (with_reducible refine Kd.C_alloc ?_ _) | (with_reducible refine Kd.C_drewN ?_ _) | (with_reducible refine Kd.C_drew ?_))) HCb_.out Eef2.out).mono ?_); rintro e wq11 ⟨vg, rfl, hrg, hb⟩; have HB' := Aside0.mk (show Below w.heap.size w wq11 from below_step (by repeat (with_reducible first | exact HB.out | exact Below.refl _ _ | apply below_alloc | apply pw_below_drewN | apply below_drew1)) hb); clear HB; have HB := HB'; clear HB'; have HQ := Aside0.mk (show Kd.C (Kd.int .u8) wq11 A0 l0.length l0 from Kd.C_below (by repeat (first | exact HR0_.out | (with_reducible refine Kd.C_alloc ?_ _) | (with_reducible refine Kd.C_drewN ?_ _) | (with_reducible refine Kd.C_drew ?_))) hb); clear HR0_; have HR0_ := HQ; clear HQ; have HQ := Aside0.mk (show Kd.C (Kd.int .u8) wq11 A1 l1.length l1 from Kd.C_below (by repeat (first | exact HR1_.out | (with_reducible refine Kd.C_alloc ?_ _) | (with_reducible refine Kd.C_drewN ?_ _) | (with_reducible refine Kd.C_drew ?_))) hb); clear HR1_; have HR1_ := HQ; clear HQ; have HQ := Aside0.mk (show Kd.C (Kd.int .i64) wq11 Aa a.length a from Kd.C_below (by repeat (first | exact HRa_.out | (with_reducible refine Kd.C_alloc ?_ _) | (with_reducible refine Kd.C_drewN ?_ _) | (with_reducible refine Kd.C_drew ?_))) hb); clear HRa_; have HRa_ := HQ; clear HQ; have HQ := Aside0.mk (show Kd.C (Kd.int .i64) wq11 Ab b.length b from Kd.C_below (by repeat (first | exact HRb_.out | (with_reducible refine Kd.C_alloc ?_ _) | (with_reducible refine Kd.C_drewN ?_ _) | (with_reducible refine Kd.C_drew ?_))) hb); clear HRb_; have HRb_ := HQ; clear HQ; have HQ := Aside0.mk (show Kd.C k51 wq11 Ar rr.length rr from Kd.C_below (by repeat (first | exact HRr_.out | (with_reducible refine Kd.C_alloc ?_ _) | (with_reducible refine Kd.C_drewN ?_ _) | (with_reducible refine Kd.C_drew ?_))) hb); clear HRr_; have HRr_ := HQ; clear HQ; have HQ := Aside0.mk (show Kd.C k51 wq11 Al l.length l from Kd.C_below (by repeat (first | exact HRl_.out | (with_reducible refine Kd.C_alloc ?_ _) | (with_reducible refine Kd.C_drewN ?_ _) | (with_reducible refine Kd.C_drew ?_))) hb); clear HRl_; have HRl_ := HQ; clear HQ; have HQ := Aside0.mk (show Kd.C (Kd.int .i64) wq11 Ax x1.length x1 from Kd.C_below (by repeat (first | exact HRx_.out | (with_reducible refine Kd.C_alloc ?_ _) | (with_reducible refine Kd.C_drewN ?_ _) | (with_reducible refine Kd.C_drew ?_))) hb); clear HRx_; have HRx_ := HQ; clear HQ; have HQ := Aside0.mk (show Kd.C (Kd.int .i64) wq11 Ay y1.length y1 from Kd.C_below (by repeat (first | exact HRy_.out | (with_reducible refine Kd.C_alloc ?_ _) | (with_reducible refine Kd.C_drewN ?_ _) | (with_reducible refine Kd.C_drew ?_))) hb); clear HRy_; have HRy_ := HQ; clear HQ; have HQ := Aside0.mk (show Kd.C (Kd.int .i64) wq11 Af fr.length fr from Kd.C_below (by repeat (first | exact HRf_.out | (with_reducible refine Kd.C_alloc ?_ _) | (with_reducible refine Kd.C_drewN ?_ _) | (with_reducible refine Kd.C_drew ?_))) hb); clear HRf_; have HRf_ := HQ; clear HQ; have HQ := Aside0.mk (show Kd.C k51 wq11 Aq r2.length r2 from Kd.C_below (by repeat (first | exact HRq_.out | (with_reducible refine Kd.C_alloc ?_ _) | (with_reducible refine Kd.C_drewN ?_ _) | (with_reducible refine Kd.C_drew ?_))) hb); clear HRq_; have HRq_ := HQ; clear HQ; have HQ := Aside0.mk (show Kd.C (Kd.int .i64) wq11 Am m1.length m1 from Kd.C_below (by repeat (first | exact HRm_.out | (with_reducible refine Kd.C_alloc ?_ _) | (with_reducible refine Kd.C_drewN ?_ _) | (with_reducible refine Kd.C_drew ?_))) hb); clear HRm_; have HRm_ := HQ; clear HQ; have HQ := Aside0.mk (show Kd.C (Kd.int .i64) wq11 Ap m2.length m2 from Kd.C_below (by repeat (first | exact HRp_.out | (with_reducible refine Kd.C_alloc ?_ _) | (with_reducible refine Kd.C_drewN ?_ _) | (with_reducible refine Kd.C_drew ?_))) hb); clear HRp_; have HRp_ := HQ; clear HQ; obtain ⟨Ag, cg, rfl⟩ := Kd.R_slice hrg; have HRg_ := Aside0.mk (Kd.R_reads' hrg).2.2; have HCg_ := Aside0.mk (Kd.R_reads' hrg).2.1; clear hrg; clear hb) | (go_at_call 23; (with_reducible refine (laws_lwNums.calls k Af cf fr Ag cg f2 true _ (by repeat (first | exact HRf_.out | (with_reducible refine Kd.C_alloc ?_ _) | (with_reducible refine Kd.C_drewN ?_ _) | (with_reducible refine Kd.C_drew ?_))) HCf_.out (by repeat (first | exact HRg_.out | (with_reducible refine Kd.C_alloc ?_ _) | (with_reducible refine Kd.C_drewN ?_ _) | (with_reducible refine Kd.C_drew ?_))) HCg_.out Eet4.out).mono ?_); rintro e w' ⟨rfl, ⟨nd, rfl⟩⟩) | (go_at_call 29; (with_reducible refine (impl_ListRight.calls k Aa ca a q1 _ (by repeat (first | exact HRa_.out | (with_reducible refine Kd.C_alloc ?_ _) | (with_reducible refine Kd.C_drewN ?_ _) | (with_reducible refine Kd.C_drew ?_))) HCa_.out Eeq1.out).mono ?_); rintro e w' ⟨rfl, ⟨nd, rfl⟩⟩) | (go_at_call 30; (with_reducible refine (spec_ListRight.calls k Aa ca a q1 _ (by repeat (first | exact HRa_.out | (with_reducible refine Kd.C_alloc ?_ _) | (with_reducible refine Kd.C_drewN ?_ _) | (with_reducible refine Kd.C_drew ?_))) HCa_.out Eeq2.out).mono ?_); rintro e w' ⟨rfl, ⟨nd, rfl⟩⟩))
 replace h := Option.bind_eq_some_iff.1 h
 obtain ⟨sb, esb, h⟩ := h
 have EB := Aside0.mk esb
 have EH := Aside0.mk h
 clear esb h
 go_cut [108] (fun v108 wc => v108 = .bool false ∧ Aside0 (Below w.heap.size w wc) ∧ Aside0 (Kd.C (Kd.int .i64) wc Aa a.length a) ∧ Aside0 (Kd.C (Kd.int .i64) wc Ab b.length b) ∧ Aside0 (Kd.C k51 wc Ar rr.length rr) ∧ Aside0 (Kd.C (Kd.int .i64) wc Af fr.length fr))
 case first =>
  have hE := EB.out
  unfold laws_FnArea.bits at hE
  by_cases n0 : 0 ≤ n
  ·
   have n0b : decide (n ≥ 0) = true := decide_eq_true n0
   have n0c : decide (0 ≤ n) = true := decide_eq_true n0
   by_cases n1 : n < 16777216
   ·
    have n1b : decide (n < 16777216) = true := decide_eq_true n1
    rw [if_pos ⟨n0, n1⟩] at hE
    replace hE := Option.bind_eq_some_iff.1 hE
    obtain ⟨m3, em3, hE⟩ := hE
    replace hE := Option.bind_eq_some_iff.1 hE
    obtain ⟨v3, ev3, hE⟩ := hE
    by_cases nv : v3 = n
    rotate_left
    ·
     rw [if_neg nv] at hE; cases hE
    subst nv
    have EM3 := Aside0.mk em3
    have EV3 := Aside0.mk ev3
    clear em3 ev3 hE
    go_wp2_with (first | (go_at_call 24; (with_reducible refine (impl_FromBits.calls k v3 m3 _ EM3.out).mono ?_); rintro e wq12 ⟨vz, rfl, hrz, hb⟩; have HB' := Aside0.mk (show Below w.heap.size w wq12 from below_step (by repeat (with_reducible first | exact HB.out | exact Below.refl _ _ | apply below_alloc | apply pw_below_drewN | apply below_drew1)) hb); clear HB; have HB := HB'; clear HB'; have HQ := Aside0.mk (show Kd.C (Kd.int .u8) wq12 A0 l0.length l0 from Kd.C_below (by repeat (first | exact HR0_.out | (with_reducible refine Kd.C_alloc ?_ _) | (with_reducible refine Kd.C_drewN ?_ _) | (with_reducible refine Kd.C_drew ?_))) hb); clear HR0_; have HR0_ := HQ; clear HQ; have HQ := Aside0.mk (show Kd.C (Kd.int .u8) wq12 A1 l1.length l1 from Kd.C_below (by repeat (first | exact HR1_.out | (with_reducible refine Kd.C_alloc ?_ _) | (with_reducible refine Kd.C_drewN ?_ _) | (with_reducible refine Kd.C_drew ?_))) hb); clear HR1_; have HR1_ := HQ; clear HQ; have HQ := Aside0.mk (show Kd.C (Kd.int .i64) wq12 Aa a.length a from Kd.C_below (by repeat (first | exact HRa_.out | (with_reducible refine Kd.C_alloc ?_ _) | (with_reducible refine Kd.C_drewN ?_ _) | (with_reducible refine Kd.C_drew ?_))) hb); clear HRa_; have HRa_ := HQ; clear HQ; have HQ := Aside0.mk (show Kd.C (Kd.int .i64) wq12 Ab b.length b from Kd.C_below (by repeat (first | exact HRb_.out | (with_reducible refine Kd.C_alloc ?_ _) | (with_reducible refine Kd.C_drewN ?_ _) | (with_reducible refine Kd.C_drew ?_))) hb); clear HRb_; have HRb_ := HQ; clear HQ; have HQ := Aside0.mk (show Kd.C k51 wq12 Ar rr.length rr from Kd.C_below (by repeat (first | exact HRr_.out | (with_reducible refine Kd.C_alloc ?_ _) | (with_reducible refine Kd.C_drewN ?_ _) | (with_reducible refine Kd.C_drew ?_))) hb); clear HRr_; have HRr_ := HQ; clear HQ; have HQ := Aside0.mk (show Kd.C k51 wq12 Al l.length l from Kd.C_below (by repeat (first | exact HRl_.out | (with_reducible refine Kd.C_alloc ?_ _) | (with_reducible refine Kd.C_drewN ?_ _) | (with_reducible refine Kd.C_drew ?_))) hb); clear HRl_; have HRl_ := HQ; clear HQ; have HQ := Aside0.mk (show Kd.C (Kd.int .i64) wq12 Ax x1.length x1 from Kd.C_below (by repeat (first | exact HRx_.out | (with_reducible refine Kd.C_alloc ?_ _) | (with_reducible refine Kd.C_drewN ?_ _) | (with_reducible refine Kd.C_drew ?_))) hb); clear HRx_; have HRx_ := HQ; clear HQ; have HQ := Aside0.mk (show Kd.C (Kd.int .i64) wq12 Ay y1.length y1 from Kd.C_below (by repeat (first | exact HRy_.out | (with_reducible refine Kd.C_alloc ?_ _) | (with_reducible refine Kd.C_drewN ?_ _) | (with_reducible refine Kd.C_drew ?_))) hb); clear HRy_; have HRy_ := HQ; clear HQ; have HQ := Aside0.mk (show Kd.C (Kd.int .i64) wq12 Af fr.length fr from Kd.C_below (by repeat (first | exact HRf_.out | (with_reducible refine Kd.C_alloc ?_ _) | (with_reducible refine Kd.C_drewN ?_ _) | (with_reducible refine Kd.C_drew ?_))) hb); clear HRf_; have HRf_ := HQ; clear HQ; have HQ := Aside0.mk (show Kd.C k51 wq12 Aq r2.length r2 from Kd.C_below (by repeat (first | exact HRq_.out | (with_reducible refine Kd.C_alloc ?_ _) | (with_reducible refine Kd.C_drewN ?_ _) | (with_reducible refine Kd.C_drew ?_))) hb); clear HRq_; have HRq_ := HQ; clear HQ; have HQ := Aside0.mk (show Kd.C (Kd.int .i64) wq12 Am m1.length m1 from Kd.C_below (by repeat (first | exact HRm_.out | (with_reducible refine Kd.C_alloc ?_ _) | (with_reducible refine Kd.C_drewN ?_ _) | (with_reducible refine Kd.C_drew ?_))) hb); clear HRm_; have HRm_ := HQ; clear HQ; have HQ := Aside0.mk (show Kd.C (Kd.int .i64) wq12 Ap m2.length m2 from Kd.C_below (by repeat (first | exact HRp_.out | (with_reducible refine Kd.C_alloc ?_ _) | (with_reducible refine Kd.C_drewN ?_ _) | (with_reducible refine Kd.C_drew ?_))) hb); clear HRp_; have HRp_ := HQ; clear HQ; have HQ := Aside0.mk (show Kd.C (Kd.int .i64) wq12 Ag f2.length f2 from Kd.C_below (by repeat (first | exact HRg_.out | (with_reducible refine Kd.C_alloc ?_ _) | (with_reducible refine Kd.C_drewN ?_ _) | (with_reducible refine Kd.C_drew ?_))) hb); clear HRg_; have HRg_ := HQ; clear HQ; obtain ⟨Az, cz, rfl⟩ := Kd.R_slice hrz; have HRz_ := Aside0.mk (Kd.R_reads' hrz).2.2; have HCz_ := Aside0.mk (Kd.R_reads' hrz).2.1; clear hrz; clear hb) | (go_at_call 26; (with_reducible refine (impl_BitsOf.calls k Az cz m3 v3 _ (by repeat (first | exact HRz_.out | (with_reducible refine Kd.C_alloc ?_ _) | (with_reducible refine Kd.C_drewN ?_ _) | (with_reducible refine Kd.C_drew ?_))) HCz_.out EV3.out).mono ?_); rintro e w' ⟨rfl, ⟨nd, rfl⟩⟩))
    go_meet
    case rel => exact ⟨(by first | rfl | (simp; done) | (simp [*]; done)), ⟨by repeat (with_reducible first | exact HB.out | exact Below.refl _ _ | apply below_alloc | apply pw_below_drewN | apply below_drew1)⟩, ⟨by repeat (first | exact HRa_.out | (with_reducible refine Kd.C_alloc ?_ _) | (with_reducible refine Kd.C_drewN ?_ _) | (with_reducible refine Kd.C_drew ?_))⟩, ⟨by repeat (first | exact HRb_.out | (with_reducible refine Kd.C_alloc ?_ _) | (with_reducible refine Kd.C_drewN ?_ _) | (with_reducible refine Kd.C_drew ?_))⟩, ⟨by repeat (first | exact HRr_.out | (with_reducible refine Kd.C_alloc ?_ _) | (with_reducible refine Kd.C_drewN ?_ _) | (with_reducible refine Kd.C_drew ?_))⟩, ⟨by repeat (first | exact HRf_.out | (with_reducible refine Kd.C_alloc ?_ _) | (with_reducible refine Kd.C_drewN ?_ _) | (with_reducible refine Kd.C_drew ?_))⟩⟩
   ·
    have n1b : decide (n < 16777216) = false := decide_eq_false n1
    go_wp2
    go_meet
    case rel => exact ⟨(by first | rfl | (simp; done) | (simp [*]; done)), ⟨by repeat (with_reducible first | exact HB.out | exact Below.refl _ _ | apply below_alloc | apply pw_below_drewN | apply below_drew1)⟩, ⟨by repeat (first | exact HRa_.out | (with_reducible refine Kd.C_alloc ?_ _) | (with_reducible refine Kd.C_drewN ?_ _) | (with_reducible refine Kd.C_drew ?_))⟩, ⟨by repeat (first | exact HRb_.out | (with_reducible refine Kd.C_alloc ?_ _) | (with_reducible refine Kd.C_drewN ?_ _) | (with_reducible refine Kd.C_drew ?_))⟩, ⟨by repeat (first | exact HRr_.out | (with_reducible refine Kd.C_alloc ?_ _) | (with_reducible refine Kd.C_drewN ?_ _) | (with_reducible refine Kd.C_drew ?_))⟩, ⟨by repeat (first | exact HRf_.out | (with_reducible refine Kd.C_alloc ?_ _) | (with_reducible refine Kd.C_drewN ?_ _) | (with_reducible refine Kd.C_drew ?_))⟩⟩
  ·
   have n0b : decide (n ≥ 0) = false := decide_eq_false n0
   have n0c : decide (0 ≤ n) = false := decide_eq_false n0
   go_wp2
   go_meet
   case rel => exact ⟨(by first | rfl | (simp; done) | (simp [*]; done)), ⟨by repeat (with_reducible first | exact HB.out | exact Below.refl _ _ | apply below_alloc | apply pw_below_drewN | apply below_drew1)⟩, ⟨by repeat (first | exact HRa_.out | (with_reducible refine Kd.C_alloc ?_ _) | (with_reducible refine Kd.C_drewN ?_ _) | (with_reducible refine Kd.C_drew ?_))⟩, ⟨by repeat (first | exact HRb_.out | (with_reducible refine Kd.C_alloc ?_ _) | (with_reducible refine Kd.C_drewN ?_ _) | (with_reducible refine Kd.C_drew ?_))⟩, ⟨by repeat (first | exact HRr_.out | (with_reducible refine Kd.C_alloc ?_ _) | (with_reducible refine Kd.C_drewN ?_ _) | (with_reducible refine Kd.C_drew ?_))⟩, ⟨by repeat (first | exact HRf_.out | (with_reducible refine Kd.C_alloc ?_ _) | (with_reducible refine Kd.C_drewN ?_ _) | (with_reducible refine Kd.C_drew ?_))⟩⟩
 case rest =>
  clear HB HRa_ HRb_ HRr_ HRf_
  obtain ⟨rfl, HB, HRa_, HRb_, HRr_, HRf_⟩ := hcut
  have h := EH.out
  clear EH
  by_cases csb : sb = true
  rotate_left
  ·
   rw [if_neg csb] at h; cases h
  rw [if_pos csb] at h
  unfold laws_FnArea.ends at h
  replace h := Option.bind_eq_some_iff.1 h
  obtain ⟨ra, era, h⟩ := h
  have ERA := Aside0.mk era
  clear era csb
  cases ra with
  | false =>
   simp only [Bool.false_eq_true, if_false] at h
   by_cases cf0 : fr = []
   rotate_left
   ·
    rw [if_neg cf0] at h; cases h
   rw [if_pos cf0] at h
   obtain rfl := Option.some.inj h
   subst cf0
   go_wp2_with (first | (go_at_call 30; (with_reducible refine (spec_ListRight.calls k Aa ca a _ _ (by repeat (first | exact HRa_.out | (with_reducible refine Kd.C_alloc ?_ _) | (with_reducible refine Kd.C_drewN ?_ _) | (with_reducible refine Kd.C_drew ?_))) HCa_.out ERA.out).mono ?_); rintro e w' ⟨rfl, ⟨nd, rfl⟩⟩))
   go_ret
   exact ⟨rfl, by repeat (with_reducible first | exact HB.out | exact Below.refl _ _ | apply below_alloc | apply pw_below_drewN | apply below_drew1)⟩
  | true =>
   simp only [if_true] at h
   replace h := Option.bind_eq_some_iff.1 h
   obtain ⟨rb, erb, h⟩ := h
   have ERB := Aside0.mk erb
   clear erb
   cases rb with
   | false =>
    simp only [Bool.false_eq_true, if_false] at h
    by_cases cf0 : fr = []
    rotate_left
    ·
     rw [if_neg cf0] at h; cases h
    rw [if_pos cf0] at h
    obtain rfl := Option.some.inj h
    subst cf0
    go_wp2_with (first | (go_at_call 30; (with_reducible refine (spec_ListRight.calls k Aa ca a _ _ (by repeat (first | exact HRa_.out | (with_reducible refine Kd.C_alloc ?_ _) | (with_reducible refine Kd.C_drewN ?_ _) | (with_reducible refine Kd.C_drew ?_))) HCa_.out ERA.out).mono ?_); rintro e w' ⟨rfl, ⟨nd, rfl⟩⟩) | (go_at_call 30; (with_reducible refine (spec_ListRight.calls k Ab cb b _ _ (by repeat (first | exact HRb_.out | (with_reducible refine Kd.C_alloc ?_ _) | (with_reducible refine Kd.C_drewN ?_ _) | (with_reducible refine Kd.C_drew ?_))) HCb_.out ERB.out).mono ?_); rintro e w' ⟨rfl, ⟨nd, rfl⟩⟩))
    go_ret
    exact ⟨rfl, by repeat (with_reducible first | exact HB.out | exact Below.refl _ _ | apply below_alloc | apply pw_below_drewN | apply below_drew1)⟩
   | true =>
    simp only [if_true] at h
    by_cases cc : (laws_FnArea.apart rr = true ∧ laws_FnArea.cover a b fr 24 0 = true) ∧ (rr.length ≤ 1000 ∧ a.length ≤ 1000 ∧ b.length ≤ 1000 ∧ fr.length ≤ 1000)
    rotate_left
    ·
     rw [if_neg cc] at h; cases h
    rw [if_pos cc] at h
    unfold laws_FnArea.last at h
    replace h := Option.bind_eq_some_iff.1 h
    obtain ⟨⟨z1, z2⟩, ez, h⟩ := h
    replace h := Option.bind_eq_some_iff.1 h
    obtain ⟨t5, et5, h⟩ := h
    by_cases k5_ : t5 = true
    rotate_left
    ·
     rw [if_neg k5_] at h; cases h
    rw [if_pos k5_] at h
    subst k5_
    replace h := Option.bind_eq_some_iff.1 h
    obtain ⟨b5, eb5, h⟩ := h
    replace h := Option.bind_eq_some_iff.1 h
    obtain ⟨m5, em5, h⟩ := h
    replace h := Option.bind_eq_some_iff.1 h
    obtain ⟨t6, et6, h⟩ := h
    by_cases k6_ : t6 = true
    rotate_left
    ·
     rw [if_neg k6_] at h; cases h
    rw [if_pos k6_] at h
    subst k6_
    obtain rfl := Option.some.inj h
    clear h
    have HAP := Aside0.mk cc.1.1
    have HCV := Aside0.mk cc.1.2
    have HLN := Aside0.mk cc.2
    have EZ := Aside0.mk ez
    have ET5 := Aside0.mk et5
    have EB5 := Aside0.mk eb5
    have EM5 := Aside0.mk em5
    have ET6 := Aside0.mk et6
    clear cc ez et5 eb5 em5 et6
    go_wp2_with (first | (go_at_call 30; (with_reducible refine (spec_ListRight.calls k Aa ca a _ _ (by repeat (first | exact HRa_.out | (with_reducible refine Kd.C_alloc ?_ _) | (with_reducible refine Kd.C_drewN ?_ _) | (with_reducible refine Kd.C_drew ?_))) HCa_.out ERA.out).mono ?_); rintro e w' ⟨rfl, ⟨nd, rfl⟩⟩) | (go_at_call 30; (with_reducible refine (spec_ListRight.calls k Ab cb b _ _ (by repeat (first | exact HRb_.out | (with_reducible refine Kd.C_alloc ?_ _) | (with_reducible refine Kd.C_drewN ?_ _) | (with_reducible refine Kd.C_drew ?_))) HCb_.out ERB.out).mono ?_); rintro e w' ⟨rfl, ⟨nd, rfl⟩⟩))
    go_loopg [13] rr.length (fun gg v13 wr => ∃ i : Nat, v13 = .int .i64 ((i : Int) + 1) ∧ Aside0 (rr.length ≤ i + 1 + gg) ∧ Drawn0 wc wr)
    case atStart => exact ⟨0, rfl, ⟨by omega⟩, by repeat (first | exact Drawn0.refl _ | apply Drawn0.step)⟩
    case round =>
     obtain ⟨i, rfl, HGG, ⟨m1, rfl⟩⟩ := hrel
     by_cases hlt : i + 1 < rr.length
     ·
      have hz : decide ((i : Int) + 1 < (rr.length : Int)) = true := decide_eq_true (by omega)
      have hw : IntKind.i64.wrap (i : Int) = (i : Int) := by rw [i64_w]; unfold wrap64; have := HLN.out; omega
      have p1 : (0 : Int) ≤ (i : Int) := by omega
      have q1 : (i : Int) < (rr.length : Int) := by omega
      have p2 : (0 : Int) ≤ (i : Int) + 1 := by omega
      have q2 : (i : Int) + 1 < (rr.length : Int) := by omega
      obtain ⟨ad1, e1, hx1, hx2⟩ := at_T51 HRr_.out (i : Int) p1 q1
      cases e1
      obtain ⟨ad2, e2, hy1, hy2⟩ := at_T51 HRr_.out ((i : Int) + 1) p2 q2
      obtain rfl : ad1 = ad2 := (by injection e2)
      simp only [Int.toNat_natCast, Int.toNat_natCast_add_one] at hx1 hx2 hy1 hy2
      have hap := laws_FnArea.apart_at rr i HAP.out hlt
      have c1 : decide ((rd_T51 rr ((i : Int) + 1)).f0 ≤ wrap64 ((rd_T51 rr (i : Int)).f0 + (rd_T51 rr (i : Int)).f1)) = false := decide_eq_false (by omega)
      have c2 : decide ((rd_T51 rr ((i : Int) + 1)).f0 ≤ IntKind.i64.wrap ((rd_T51 rr (i : Int)).f0 + (rd_T51 rr (i : Int)).f1)) = false := by rw [i64_w]; exact c1
      have HAPi := Aside0.mk hap
      clear hap
      replace p1 := eq_true p1
      replace q1 := eq_true q1
      replace p2 := eq_true p2
      replace q2 := eq_true q2
      go_wp2
      refine laws_FnArea.still 18 (by kernel_rfl) (by kernel_rfl) ?_
      simp only [List.take_succ_cons, List.take_zero, List.drop_succ_cons, List.drop_zero]
      repeat still_step
      refine wpStill_nil ?_
      go_wp2
      go_roundg (rr.length - (i + 2))
      case measure => have := HGG.out; omega
      case rel => exact ⟨i + 1, by have := HLN.out; rw [show wrap64 ((i : Int) + 1 + 1) = ((i + 1 : Nat) : Int) + 1 by unfold wrap64; omega], ⟨by omega⟩, by repeat (first | exact Drawn0.refl _ | apply Drawn0.step)⟩
     ·
      have hz : decide ((i : Int) + 1 < (rr.length : Int)) = false := decide_eq_false (by omega)
      clear HGG
      go_wp2
      go_loopg [14] 24 (fun gg v14 wr => ∃ i : Nat, v14 = .int .i64 (i : Int) ∧ Aside0 (24 ≤ i + gg) ∧ Drawn0 wc wr)
      case atStart => exact ⟨0, rfl, ⟨by omega⟩, by repeat (first | exact Drawn0.refl _ | apply Drawn0.step)⟩
      case round =>
       obtain ⟨n, rfl, HGG, ⟨m1, rfl⟩⟩ := hrel
       by_cases h24 : n < 24
       ·
        have hz24 : decide ((n : Int) < 24) = true := decide_eq_true (by omega)
        have hz24' : decide (n < 24) = true := decide_eq_true h24
        have HCN := Aside0.mk (laws_FnArea.cover_at a b fr 24 0 n HCV.out (Nat.zero_le _) (by omega))
        have HGN := HGG
        have HN4 := Aside0.mk h24
        clear HGG h24
        go_wp2
        go_loopg [15, 16] a.length (fun gg v15 v16 wr => ∃ j : Nat, v15 = .bool (laws_FnArea.inL (a.take j) (n : Int)) ∧ v16 = .int .i64 (j : Int) ∧ Aside0 (j ≤ a.length) ∧ Aside0 (a.length ≤ j + gg) ∧ Drawn0 wc wr)
        case atStart => exact ⟨0, by first | rfl | simp [laws_FnArea.inL], rfl, ⟨by omega⟩, ⟨by omega⟩, by repeat (first | exact Drawn0.refl _ | apply Drawn0.step)⟩
        case round =>
         obtain ⟨j, rfl, rfl, HJ, HGG, ⟨m1, rfl⟩⟩ := hrel
         by_cases hlt : j < a.length
         ·
          have hz : decide ((j : Int) < (a.length : Int)) = true := decide_eq_true (by omega)
          have hz' : decide (j < a.length) = true := decide_eq_true hlt
          have p1 : (0 : Int) ≤ (j : Int) := by omega
          have q1 : (j : Int) < (a.length : Int) := by omega
          obtain ⟨ad1, e1, hx1⟩ := Kd.at_int HRa_.out (j : Int) p1 q1
          cases e1
          have hx2 := hx1
          simp only [Int.toNat_natCast, Nat.mul_one] at hx2
          replace p1 := eq_true p1
          replace q1 := eq_true q1
          have HT := Aside0.mk (laws_FnArea.inL_take a (n : Int) j hlt)
          have HLT := Aside0.mk hlt
          clear hlt
          generalize hB : (laws_FnArea.inL (a.take j) (n : Int)) = B
          have HBB := Aside0.mk hB
          clear hB
          cases B with
          | true =>
           go_wp2
           go_roundg (a.length - (j + 1))
           case measure => have := HGG.out; have := HLT.out; omega
           case rel => exact ⟨j + 1, by have h1 := HT.out; have h2 := HBB.out; rw [h1]; first | (rw [← Bool.or_assoc, h2]; simp) | (rw [h2]; simp), by have := HLN.out; have := HLT.out; rw [show wrap64 ((j : Int) + 1) = ((j + 1 : Nat) : Int) by unfold wrap64; omega], ⟨by have := HLT.out; omega⟩, ⟨by omega⟩, by repeat (first | exact Drawn0.refl _ | apply Drawn0.step)⟩
          | false =>
           go_wp2
           go_roundg (a.length - (j + 1))
           case measure => have := HGG.out; have := HLT.out; omega
           case rel => exact ⟨j + 1, by have h1 := HT.out; have h2 := HBB.out; rw [h1]; first | (rw [← Bool.or_assoc, h2]; simp) | (rw [h2]; simp), by have := HLN.out; have := HLT.out; rw [show wrap64 ((j : Int) + 1) = ((j + 1 : Nat) : Int) by unfold wrap64; omega], ⟨by have := HLT.out; omega⟩, ⟨by omega⟩, by repeat (first | exact Drawn0.refl _ | apply Drawn0.step)⟩
         ·
          have hz : decide ((j : Int) < (a.length : Int)) = false := decide_eq_false (by omega)
          have hz' : decide (j < a.length) = false := decide_eq_false hlt
          obtain rfl : j = a.length := by have := HJ.out; omega
          clear HGG hlt HJ
          rw [List.take_length]
          clear hz hz'
          go_wp2
          go_loopg [15, 17] b.length (fun gg v15 v17 wr => ∃ j : Nat, v15 = .bool (laws_FnArea.inL a (n : Int) || laws_FnArea.inL (b.take j) (n : Int)) ∧ v17 = .int .i64 (j : Int) ∧ Aside0 (j ≤ b.length) ∧ Aside0 (b.length ≤ j + gg) ∧ Drawn0 wc wr)
          case atStart => exact ⟨0, by first | rfl | simp [laws_FnArea.inL], rfl, ⟨by omega⟩, ⟨by omega⟩, by repeat (first | exact Drawn0.refl _ | apply Drawn0.step)⟩
          case round =>
           obtain ⟨j, rfl, rfl, HJ, HGG, ⟨m1, rfl⟩⟩ := hrel
           by_cases hlt : j < b.length
           ·
            have hz : decide ((j : Int) < (b.length : Int)) = true := decide_eq_true (by omega)
            have hz' : decide (j < b.length) = true := decide_eq_true hlt
            have p1 : (0 : Int) ≤ (j : Int) := by omega
            have q1 : (j : Int) < (b.length : Int) := by omega
            obtain ⟨ad1, e1, hx1⟩ := Kd.at_int HRb_.out (j : Int) p1 q1
            cases e1
            have hx2 := hx1
            simp only [Int.toNat_natCast, Nat.mul_one] at hx2
            replace p1 := eq_true p1
            replace q1 := eq_true q1
            have HT := Aside0.mk (laws_FnArea.inL_take b (n : Int) j hlt)
            have HLT := Aside0.mk hlt
            clear hlt
            generalize hB : (laws_FnArea.inL a (n : Int) || laws_FnArea.inL (b.take j) (n : Int)) = B
            have HBB := Aside0.mk hB
            clear hB
            cases B with
            | true =>
             go_wp2
             go_roundg (b.length - (j + 1))
             case measure => have := HGG.out; have := HLT.out; omega
             case rel => exact ⟨j + 1, by have h1 := HT.out; have h2 := HBB.out; rw [h1]; first | (rw [← Bool.or_assoc, h2]; simp) | (rw [h2]; simp), by have := HLN.out; have := HLT.out; rw [show wrap64 ((j : Int) + 1) = ((j + 1 : Nat) : Int) by unfold wrap64; omega], ⟨by have := HLT.out; omega⟩, ⟨by omega⟩, by repeat (first | exact Drawn0.refl _ | apply Drawn0.step)⟩
            | false =>
             go_wp2
             go_roundg (b.length - (j + 1))
             case measure => have := HGG.out; have := HLT.out; omega
             case rel => exact ⟨j + 1, by have h1 := HT.out; have h2 := HBB.out; rw [h1]; first | (rw [← Bool.or_assoc, h2]; simp) | (rw [h2]; simp), by have := HLN.out; have := HLT.out; rw [show wrap64 ((j : Int) + 1) = ((j + 1 : Nat) : Int) by unfold wrap64; omega], ⟨by have := HLT.out; omega⟩, ⟨by omega⟩, by repeat (first | exact Drawn0.refl _ | apply Drawn0.step)⟩
           ·
            have hz : decide ((j : Int) < (b.length : Int)) = false := decide_eq_false (by omega)
            have hz' : decide (j < b.length) = false := decide_eq_false hlt
            obtain rfl : j = b.length := by have := HJ.out; omega
            clear HGG hlt HJ
            rw [List.take_length]
            clear hz hz'
            go_wp2
            go_loopg [18, 19] fr.length (fun gg v18 v19 wr => ∃ j : Nat, v18 = .bool (laws_FnArea.inL (fr.take j) (n : Int)) ∧ v19 = .int .i64 (j : Int) ∧ Aside0 (j ≤ fr.length) ∧ Aside0 (fr.length ≤ j + gg) ∧ Drawn0 wc wr)
            case atStart => exact ⟨0, by first | rfl | simp [laws_FnArea.inL], rfl, ⟨by omega⟩, ⟨by omega⟩, by repeat (first | exact Drawn0.refl _ | apply Drawn0.step)⟩
            case round =>
             obtain ⟨j, rfl, rfl, HJ, HGG, ⟨m1, rfl⟩⟩ := hrel
             by_cases hlt : j < fr.length
             ·
              have hz : decide ((j : Int) < (fr.length : Int)) = true := decide_eq_true (by omega)
              have hz' : decide (j < fr.length) = true := decide_eq_true hlt
              have p1 : (0 : Int) ≤ (j : Int) := by omega
              have q1 : (j : Int) < (fr.length : Int) := by omega
              obtain ⟨ad1, e1, hx1⟩ := Kd.at_int HRf_.out (j : Int) p1 q1
              cases e1
              have hx2 := hx1
              simp only [Int.toNat_natCast, Nat.mul_one] at hx2
              replace p1 := eq_true p1
              replace q1 := eq_true q1
              have HT := Aside0.mk (laws_FnArea.inL_take fr (n : Int) j hlt)
              have HLT := Aside0.mk hlt
              clear hlt
              generalize hB : (laws_FnArea.inL (fr.take j) (n : Int)) = B
              have HBB := Aside0.mk hB
              clear hB
              cases B with
              | true =>
               go_wp2
               go_roundg (fr.length - (j + 1))
               case measure => have := HGG.out; have := HLT.out; omega
               case rel => exact ⟨j + 1, by have h1 := HT.out; have h2 := HBB.out; rw [h1]; first | (rw [← Bool.or_assoc, h2]; simp) | (rw [h2]; simp), by have := HLN.out; have := HLT.out; rw [show wrap64 ((j : Int) + 1) = ((j + 1 : Nat) : Int) by unfold wrap64; omega], ⟨by have := HLT.out; omega⟩, ⟨by omega⟩, by repeat (first | exact Drawn0.refl _ | apply Drawn0.step)⟩
              | false =>
               go_wp2
               go_roundg (fr.length - (j + 1))
               case measure => have := HGG.out; have := HLT.out; omega
               case rel => exact ⟨j + 1, by have h1 := HT.out; have h2 := HBB.out; rw [h1]; first | (rw [← Bool.or_assoc, h2]; simp) | (rw [h2]; simp), by have := HLN.out; have := HLT.out; rw [show wrap64 ((j : Int) + 1) = ((j + 1 : Nat) : Int) by unfold wrap64; omega], ⟨by have := HLT.out; omega⟩, ⟨by omega⟩, by repeat (first | exact Drawn0.refl _ | apply Drawn0.step)⟩
             ·
              have hz : decide ((j : Int) < (fr.length : Int)) = false := decide_eq_false (by omega)
              have hz' : decide (j < fr.length) = false := decide_eq_false hlt
              obtain rfl : j = fr.length := by have := HJ.out; omega
              clear HGG hlt HJ
              rw [List.take_length]
              generalize hX : (laws_FnArea.inL a (n : Int) || laws_FnArea.inL b (n : Int)) = X
              generalize hY : laws_FnArea.inL fr (n : Int) = Y
              have hXY : (X == Y) = false := by have := HCN.out; rw [hX, hY] at this; exact this
              go_wp2
              go_roundg (24 - (n + 1))
              case measure => have := HGN.out; have := HN4.out; omega
              case rel => exact ⟨n + 1, by have := HN4.out; rw [show wrap64 ((n : Int) + 1) = ((n + 1 : Nat) : Int) by unfold wrap64; omega], ⟨by omega⟩, by repeat (first | exact Drawn0.refl _ | apply Drawn0.step)⟩
       ·
        have hz24 : decide ((n : Int) < 24) = false := decide_eq_false (by omega)
        have hz24' : decide (n < 24) = false := decide_eq_false h24
        go_wp2_with (first | (go_at_call 17; (with_reducible refine (impl_ListOf.calls k Ar cr rr z1 z2 _ (by repeat (first | exact HRr_.out | (with_reducible refine Kd.C_alloc ?_ _) | (with_reducible refine Kd.C_drewN ?_ _) | (with_reducible refine Kd.C_drew ?_))) HCr_.out EZ.out).mono ?_); rintro e wq13 ⟨vZ, rfl, hrZ, hb⟩; have HB' := Aside0.mk (show Below w.heap.size w wq13 from below_step (by repeat (with_reducible first | exact HB.out | exact Below.refl _ _ | apply below_alloc | apply pw_below_drewN | apply below_drew1)) hb); clear HB; have HB := HB'; clear HB'; have HQ := Aside0.mk (show Kd.C (Kd.int .i64) wq13 Aa a.length a from Kd.C_below (by repeat (first | exact HRa_.out | (with_reducible refine Kd.C_alloc ?_ _) | (with_reducible refine Kd.C_drewN ?_ _) | (with_reducible refine Kd.C_drew ?_))) hb); clear HRa_; have HRa_ := HQ; clear HQ; obtain ⟨AZ, cZ, rfl⟩ := Kd.R_slice hrZ; have HRZ_ := Aside0.mk (Kd.R_reads' hrZ).2.2; have HCZ_ := Aside0.mk (Kd.R_reads' hrZ).2.1; clear hrZ; clear hb) | (go_at_call 23; (with_reducible refine (laws_lwNums.calls k AZ cZ z1 Aa ca a true _ (by repeat (first | exact HRZ_.out | (with_reducible refine Kd.C_alloc ?_ _) | (with_reducible refine Kd.C_drewN ?_ _) | (with_reducible refine Kd.C_drew ?_))) HCZ_.out (by repeat (first | exact HRa_.out | (with_reducible refine Kd.C_alloc ?_ _) | (with_reducible refine Kd.C_drewN ?_ _) | (with_reducible refine Kd.C_drew ?_))) HCa_.out ET5.out).mono ?_); rintro e w' ⟨rfl, ⟨nd, rfl⟩⟩) | (go_at_call 26; (with_reducible refine (impl_BitsOf.calls k Aa ca a b5 _ (by repeat (first | exact HRa_.out | (with_reducible refine Kd.C_alloc ?_ _) | (with_reducible refine Kd.C_drewN ?_ _) | (with_reducible refine Kd.C_drew ?_))) HCa_.out EB5.out).mono ?_); rintro e w' ⟨rfl, ⟨nd, rfl⟩⟩) | (go_at_call 24; (with_reducible refine (impl_FromBits.calls k b5 m5 _ EM5.out).mono ?_); rintro e wq14 ⟨vM, rfl, hrM, hb⟩; have HB' := Aside0.mk (show Below w.heap.size w wq14 from below_step (by repeat (with_reducible first | exact HB.out | exact Below.refl _ _ | apply below_alloc | apply pw_below_drewN | apply below_drew1)) hb); clear HB; have HB := HB'; clear HB'; have HQ := Aside0.mk (show Kd.C (Kd.int .i64) wq14 Aa a.length a from Kd.C_below (by repeat (first | exact HRa_.out | (with_reducible refine Kd.C_alloc ?_ _) | (with_reducible refine Kd.C_drewN ?_ _) | (with_reducible refine Kd.C_drew ?_))) hb); clear HRa_; have HRa_ := HQ; clear HQ; have HQ := Aside0.mk (show Kd.C (Kd.int .i64) wq14 AZ z1.length z1 from Kd.C_below (by repeat (first | exact HRZ_.out | (with_reducible refine Kd.C_alloc ?_ _) | (with_reducible refine Kd.C_drewN ?_ _) | (with_reducible refine Kd.C_drew ?_))) hb); clear HRZ_; have HRZ_ := HQ; clear HQ; obtain ⟨AM, cM, rfl⟩ := Kd.R_slice hrM; have HRM_ := Aside0.mk (Kd.R_reads' hrM).2.2; have HCM_ := Aside0.mk (Kd.R_reads' hrM).2.1; clear hrM; clear hb) | (go_at_call 23; (with_reducible refine (laws_lwNums.calls k AM cM m5 Aa ca a true _ (by repeat (first | exact HRM_.out | (with_reducible refine Kd.C_alloc ?_ _) | (with_reducible refine Kd.C_drewN ?_ _) | (with_reducible refine Kd.C_drew ?_))) HCM_.out (by repeat (first | exact HRa_.out | (with_reducible refine Kd.C_alloc ?_ _) | (with_reducible refine Kd.C_drewN ?_ _) | (with_reducible refine Kd.C_drew ?_))) HCa_.out ET6.out).mono ?_); rintro e w' ⟨rfl, ⟨nd, rfl⟩⟩))
        go_ret
        exact ⟨rfl, by repeat (with_reducible first | exact HB.out | exact Below.refl _ _ | apply below_alloc | apply pw_below_drewN | apply below_drew1)⟩
/-- THE ONE PURE STATEMENT of laws_FnArea: yours. -/
def laws_FnArea.Pure : Prop := ∀ (l0 : List Int) (l1 : List Int), l0.length ≤ maxLen → l0.length * 1 ≤ 140737488351232 → (∀ x ∈ l0, (Lit.int .u8 x).wf = true) → l1.length ≤ maxLen → l1.length * 1 ≤ 140737488351232 → (∀ x ∈ l1, (Lit.int .u8 x).wf = true) → ∃ k, laws_FnArea.f k l0 l1 = some true
theorem laws_FnArea.walk (P : laws_FnArea.Pure) (a0 : Option Addr) (len0 cap0 : Nat) (z0 : List Int) (a1 : Option Addr) (len1 cap1 : Nat) (z1 : List Int) (w : World) (w0 : (a0 = none ∧ len0 = 0 ∧ cap0 = 0 ∧ z0 = []) ∨ ∃ x, a0 = some x ∧ len0 ≤ cap0 ∧ cap0 ≤ maxLen ∧ z0.length = cap0 ∧ (∀ i, i < z0.length → w.cell? (x.add i) = some (.int .u8 (z0.getD i 0))) ∧ ∀ n ∈ z0, (Lit.int .u8 n).wf = true) (y0 : len0 * 1 ≤ 140737488351232) (w1 : (a1 = none ∧ len1 = 0 ∧ cap1 = 0 ∧ z1 = []) ∨ ∃ x, a1 = some x ∧ len1 ≤ cap1 ∧ cap1 ≤ maxLen ∧ z1.length = cap1 ∧ (∀ i, i < z1.length → w.cell? (x.add i) = some (.int .u8 (z1.getD i 0))) ∧ ∀ n ∈ z1, (Lit.int .u8 n).wf = true) (y1 : len1 * 1 ≤ 140737488351232) :
  Calls Try.prog 4 #[.slice a0 len0 cap0, .slice a1 len1 cap1] w fun e w' => e = .returned (.bool true) ∧ Below w.heap.size w w' := by
 obtain ⟨l0, rfl, hr0, hm0, hw0, hc0⟩ := ReadsInt.ofRowC w0
 obtain ⟨l1, rfl, hr1, hm1, hw1, hc1⟩ := ReadsInt.ofRowC w1
 obtain ⟨k, h⟩ := P l0 l1 hm0 y0 hw0 hm1 y1 hw1
 refine (laws_FnArea.calls k _ _ l0 _ _ l1 true w (Kd.C_of_reads (d := (0 : Int)) (h1 := fun _ => rfl) hr0) hc0 (Kd.C_of_reads (d := (0 : Int)) (h1 := fun _ => rfl) hr1) hc1 h).mono ?_
 rintro e w' ⟨rfl, hd⟩
 exact ⟨rfl, hd⟩

end Go.Proofs.Ytcmoenkbckmmfaa.Q
