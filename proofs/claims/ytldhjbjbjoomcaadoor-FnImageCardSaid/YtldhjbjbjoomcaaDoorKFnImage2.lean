/- An image's update keeps the number of blocks, leaves what no step writes and makes the rest of the old image; a block exclusive-ored twice comes back; for every draw. Part 2. -/
import Derived.Test.YtldhjbjbjoomcaaDoorKFnImage1
namespace Go.Proofs.YtldhjbjbjoomcaaDoor.Q
open Go.RowKit Go.Proofs.YtldhjbjbjoomcaaDoorW.PrintWords Go.Proofs.YtldhjbjbjoomcaaDoorW.PrintLast Go.Proofs.YtldhjbjbjoomcaaDoorW.PrintMore
attribute [local go_sem] max2_int min2_int max_two min_two max_three min_three max_four min_four Instr.field asAgg
set_option linter.unusedVariables false
set_option linter.unusedSimpArgs false
set_option maxHeartbeats 8000000
set_option maxRecDepth 100000
mutual
def spec_ImageRight.j0 : Nat → List ByteArray → Bool → Option (Bool)
 | 0, _, _ => none
 | k + 1, x0, x11 => if x11 = true then (some false) else (spec_ImageRight.l0 k x0 0)
def spec_ImageRight.l0 : Nat → List ByteArray → Int → Option (Bool)
 | 0, _, _ => none
 | k + 1, x0, x3 => if x3 < (x0.length : Int) then (if 0 ≤ x3 then (if ((rdOf ByteArray.empty x0 x3).size : Int) = 8 then (spec_ImageRight.l0 k x0 (wrap64 (x3 + 1))) else (some false)) else (none)) else (some true)
end
def spec_ImageRight.f (k : Nat) (l0 : List ByteArray) : Option (Bool) := if (l0.length : Int) < 1 then (spec_ImageRight.j0 k l0 true) else (spec_ImageRight.j0 k l0 (decide ((l0.length : Int) > 8)))
theorem spec_ImageRight.calls (k : Nat) (A0 : Option Addr) (c0 : Nat) (l0 : List ByteArray) (r : Bool) (w : World) (hr0 : Kd.C Kd.string w A0 l0.length l0) (hc0 : l0.length ≤ c0) (h : spec_ImageRight.f k l0 = some r) :
 Calls Tryd.prog 27 #[.slice A0 l0.length c0] w fun e w' => e = .returned (.bool r) ∧ Drawn0 w w' := by
 have HR0 := zA_ hr0
 have HC0 := zA_ hc0
 clear hr0 hc0
 have H : (if (l0.length : Int) < 1 then (spec_ImageRight.j0 k l0 true) else (spec_ImageRight.j0 k l0 (decide ((l0.length : Int) > 8)))) = some r := h
 clear h
 have HC2 := zA_ H
 clear H
 go_enter Tryd.func27, Tryd.ntmps27
 go_upto_region 1 with (fail)
 go_cut [11] (fun v11 wc => ∃ (kq : Nat) (x11_1 : Bool), v11 = .bool x11_1 ∧ Aside0 (spec_ImageRight.j0 kq l0 x11_1 = some r) ∧ Aside0 (kq ≤ k) ∧ Drawn0 w wc)
 case first =>
  have H := HC2.out
  clear HC2
  by_cases c3 : (l0.length : Int) < 1
  · rw [if_pos c3] at H
    have c3b0 : decide ((l0.length : Int) < 1) = true := decide_eq_true c3
    have c3b1 : decide (l0.length < 1) = true := decide_eq_true (by omega)
    clear c3
    (first | rw [c3b0] | (simp only [i64_w, i32_w]; rw [c3b0]) | skip)
    have H' := zA_ H
    clear H
    go_wp2
    go_meet
    case rel => exact ⟨_, (true), βya, H', ⟨βBa⟩, βwa⟩
  · rw [if_neg c3] at H
    have c3b0 : decide ((l0.length : Int) < 1) = false := decide_eq_false c3
    have c3b1 : decide (l0.length < 1) = false := decide_eq_false (by omega)
    clear c3
    (first | rw [c3b0] | (simp only [i64_w, i32_w]; rw [c3b0]) | skip)
    have H' := zA_ H
    clear H
    go_wp2
    go_meet
    case rel => exact ⟨_, (decide ((l0.length : Int) > 8)), βya, H', ⟨βBa⟩, βwa⟩
 case rest =>
  clear HC2
  try clear c2
  try clear p2
  try clear c3
  try clear c3b0
  try clear c3b1
  obtain ⟨kq, x11_1, rfl, HA, HJ1, ⟨mc1, rfl⟩⟩ := hcut
  cases kq with
  | zero => exact absurd HA.out (by simp [spec_ImageRight.j0])
  | succ kj1 =>
   have H := HA.out
   clear HA
   simp only [spec_ImageRight.j0] at H
   by_cases c4 : x11_1 = true
   · subst c4
     have H1 : (some false) = some r := by rw [if_pos rfl] at H; exact H
     clear H
     have H := H1
     clear H1
     obtain rfl := Option.some.inj H
     go_wp2
     go_ret
     exact ⟨βya, βwa⟩
   · replace c4 := Bool.eq_false_iff.mpr c4
     subst c4
     have H1 : (spec_ImageRight.l0 kj1 l0 0) = some r := by rw [if_neg (show ¬ (false = true) by decide)] at H; exact H
     clear H
     have H := H1
     clear H1
     have H' := zA_ H
     clear H
     go_wp2
     go_loopg [3] kj1 (fun kq v3 w' => ∃ (x3_2 : Int), v3 = .int .i64 x3_2 ∧ Aside0 (spec_ImageRight.l0 kq l0 x3_2 = some r) ∧ Aside0 (kq ≤ kj1) ∧ Drawn0 w w')
     case atStart => exact ⟨(0), βya, H', ⟨Nat.le_refl _⟩, βwa⟩
     case round =>
      clear H'
      try clear c1
      try clear c2
      try clear p2
      try clear c3
      try clear c3b0
      try clear c3b1
      try clear c4
      try clear p2
      obtain ⟨x3_2, rfl, HA, HK2, ⟨m2, rfl⟩⟩ := hrel
      cases gk with
      | zero => exact absurd HA.out (by simp [spec_ImageRight.l0])
      | succ k2 =>
       have H := HA.out
       clear HA
       simp only [spec_ImageRight.l0] at H
       by_cases c5 : x3_2 < (l0.length : Int)
       · rw [if_pos c5] at H
         have c5b0 : decide (x3_2 < (l0.length : Int)) = true := decide_eq_true c5
         clear c5
         by_cases c6 : 0 ≤ x3_2
         · rw [if_pos c6] at H
           have c6b0 : decide (0 ≤ x3_2) = true := decide_eq_true c6
           clear c6
           by_cases c7 : ((rdOf ByteArray.empty l0 x3_2).size : Int) = 8
           · rw [if_pos c7] at H
             have c7b0 : (((rdOf ByteArray.empty l0 x3_2).size : Int) == 8) = true := beq_iff_eq.mpr c7
             have c7b1 : (((rdOf ByteArray.empty l0 x3_2).size : Int) != 8) = false := bne_eq_false_iff_eq.mpr c7
             clear c7
             have H' := zA_ H
             clear H
             have p185 : 0 ≤ (x3_2 : Int) := of_decide_eq_true βxa
             have q185 : x3_2 < (l0.length : Int) := of_decide_eq_true βxa
             obtain ⟨ad185, e185, hx185_0⟩ := Kd.at_string HR0.out x3_2 p185 q185
             cases e185
             replace p185 := eq_true p185
             replace q185 := eq_true q185
             go_wp2
             go_roundg k2
             case measure => have := HJ1.out; have := HK2.out; omega
             case rel => exact ⟨(wrap64 (x3_2 + 1)), βya, H', ⟨(by have := HJ1.out; have := HK2.out; omega)⟩, βwa⟩
           · rw [if_neg c7] at H
             have c7b0 : (((rdOf ByteArray.empty l0 x3_2).size : Int) == 8) = false := beq_eq_false_iff_ne.mpr c7
             have c7b1 : (((rdOf ByteArray.empty l0 x3_2).size : Int) != 8) = true := bne_iff_ne.mpr c7
             obtain rfl := Option.some.inj H
             have p185 : 0 ≤ (x3_2 : Int) := of_decide_eq_true βxa
             have q185 : x3_2 < (l0.length : Int) := of_decide_eq_true βxa
             obtain ⟨ad185, e185, hx185_0⟩ := Kd.at_string HR0.out x3_2 p185 q185
             cases e185
             replace p185 := eq_true p185
             replace q185 := eq_true q185
             go_wp2
             go_ret
             exact ⟨βya, βwa⟩
         · rw [if_neg c6] at H
           exact absurd H (by simp)
       · rw [if_neg c5] at H
         have c5b0 : decide (x3_2 < (l0.length : Int)) = false := decide_eq_false c5
         clear c5
         obtain rfl := Option.some.inj H
         go_wp2
         go_ret
         exact ⟨βya, βwa⟩
def spec_l07Join.l0 : Nat → List ByteArray → ByteArray → Int → Option (ByteArray)
 | 0, _, _, _ => none
 | k + 1, x0, x3, x4 => if x4 < (x0.length : Int) then (if 0 ≤ x4 then (if x3.size + (rdOf ByteArray.empty x0 x4).size ≤ 9223372036854775807 then (spec_l07Join.l0 k x0 (x3 ++ (rdOf ByteArray.empty x0 x4)) (wrap64 (x4 + 1))) else (none)) else (none)) else (some x3)
def spec_l07Join.f (k : Nat) (l0 : List ByteArray) : Option (ByteArray) := spec_l07Join.l0 k l0 (⟨#[]⟩ : ByteArray) 0
theorem spec_l07Join.calls (k : Nat) (A0 : Option Addr) (c0 : Nat) (l0 : List ByteArray) (r : ByteArray) (w : World) (hr0 : Kd.C Kd.string w A0 l0.length l0) (hc0 : l0.length ≤ c0) (h : spec_l07Join.f k l0 = some r) :
 Calls Tryd.prog 33 #[.slice A0 l0.length c0] w fun e w' => e = .returned (.string r) ∧ Drawn0 w w' := by
 have HR0 := zA_ hr0
 have HC0 := zA_ hc0
 clear hr0 hc0
 have H : (spec_l07Join.l0 k l0 (⟨#[]⟩ : ByteArray) 0) = some r := h
 clear h
 have H' := zA_ H
 clear H
 go_enter Tryd.func33, Tryd.ntmps33
 go_wp2
 go_loopg [3, 4] k (fun kq v3 v4 w' => ∃ (x3_1 : ByteArray) (x4_1 : Int), v3 = .string x3_1 ∧ v4 = .int .i64 x4_1 ∧ Aside0 (spec_l07Join.l0 kq l0 x3_1 x4_1 = some r) ∧ Aside0 (kq ≤ k) ∧ Drawn0 w w')
 case atStart => exact ⟨((⟨#[]⟩ : ByteArray)), (0), βya, βya, H', ⟨Nat.le_refl _⟩, βwa⟩
 case round =>
  clear H'
  obtain ⟨x3_1, x4_1, rfl, rfl, HA, HK1, ⟨m1, rfl⟩⟩ := hrel
  cases gk with
  | zero => exact absurd HA.out (by simp [spec_l07Join.l0])
  | succ k1 =>
   have H := HA.out
   clear HA
   simp only [spec_l07Join.l0] at H
   by_cases c2 : x4_1 < (l0.length : Int)
   · rw [if_pos c2] at H
     have c2b0 : decide (x4_1 < (l0.length : Int)) = true := decide_eq_true c2
     clear c2
     by_cases c3 : 0 ≤ x4_1
     · rw [if_pos c3] at H
       have c3b0 : decide (0 ≤ x4_1) = true := decide_eq_true c3
       clear c3
       by_cases c4 : x3_1.size + (rdOf ByteArray.empty l0 x4_1).size ≤ 9223372036854775807
       · rw [if_pos c4] at H
         have c4b0 := eq_true c4
         have c4b1 : decide (x3_1.size + (rdOf ByteArray.empty l0 x4_1).size ≤ 9223372036854775807) = true := decide_eq_true c4
         try have c4b2 : (9223372036854775807 < x3_1.size + (rdOf ByteArray.empty l0 x4_1).size) = False := eq_false (Nat.not_lt.2 c4)
         have H' := zA_ H
         clear H
         have p186 : 0 ≤ (x4_1 : Int) := of_decide_eq_true βxa
         have q186 : x4_1 < (l0.length : Int) := of_decide_eq_true βxa
         obtain ⟨ad186, e186, hx186_0⟩ := Kd.at_string HR0.out x4_1 p186 q186
         cases e186
         replace p186 := eq_true p186
         replace q186 := eq_true q186
         go_wp2
         go_roundg k1
         case measure => have := HK1.out; omega
         case rel => exact ⟨(x3_1 ++ (rdOf ByteArray.empty l0 x4_1)), (wrap64 (x4_1 + 1)), βya, βya, H', ⟨βCa⟩, βwa⟩
       · rw [if_neg c4] at H
         exact absurd H (by simp)
     · rw [if_neg c3] at H
       exact absurd H (by simp)
   · rw [if_neg c2] at H
     have c2b0 : decide (x4_1 < (l0.length : Int)) = false := decide_eq_false c2
     clear c2
     obtain rfl := Option.some.inj H
     go_wp2
     go_ret
     exact ⟨βya, βwa⟩
def impl_size_string.f (l0 : List ByteArray) : Option (Int) := some (l0.length : Int)
theorem impl_size_string.calls (A0 : Option Addr) (c0 : Nat) (l0 : List ByteArray) (r : Int) (w : World) (hr0 : Kd.C Kd.string w A0 l0.length l0) (hc0 : l0.length ≤ c0) (h : impl_size_string.f l0 = some r) :
 Calls Tryd.prog 39 #[.slice A0 l0.length c0] w fun e w' => e = .returned (.int .i64 r) ∧ Drawn0 w w' := by
 have HR0 := zA_ hr0
 have HC0 := zA_ hc0
 clear hr0 hc0
 have H : (some (l0.length : Int)) = some r := h
 clear h
 obtain rfl := Option.some.inj H
 go_enter Tryd.func39, Tryd.ntmps39
 go_wp2
 go_ret
 exact ⟨βya, βwa⟩
def impl_within.f (a0 : Int) (a1 : Int) (a2 : Int) : Option (Bool) := if a0 ≥ a1 then (some (decide (a0 ≤ a2))) else (some false)
theorem impl_within.calls (a0 : Int) (a1 : Int) (a2 : Int) (r : Bool) (w : World) (h : impl_within.f a0 a1 a2 = some r) :
 Calls Tryd.prog 72 #[.int .i64 a0, .int .i64 a1, .int .i64 a2] w fun e w' => e = .returned (.bool r) ∧ Drawn0 w w' := by
 have H : (if a0 ≥ a1 then (some (decide (a0 ≤ a2))) else (some false)) = some r := h
 clear h
 by_cases c4 : a0 ≥ a1
 · rw [if_pos c4] at H
   have c4b0 : decide (a1 ≤ a0) = true := decide_eq_true c4
   clear c4
   obtain rfl := Option.some.inj H
   go_enter Tryd.func72, Tryd.ntmps72
   go_wp2
   go_ret
   exact ⟨βya, βwa⟩
 · rw [if_neg c4] at H
   have c4b0 : decide (a1 ≤ a0) = false := decide_eq_false c4
   clear c4
   obtain rfl := Option.some.inj H
   go_enter Tryd.func72, Tryd.ntmps72
   go_wp2
   go_ret
   exact ⟨βya, βwa⟩
def impl_isBlocks.f (a0 : Int) : Option (Bool) := (impl_within.f a0 1 8).bind fun t192 => (some t192)
theorem impl_isBlocks.calls (a0 : Int) (r : Bool) (w : World) (h : impl_isBlocks.f a0 = some r) :
 Calls Tryd.prog 59 #[.int .i64 a0] w fun e w' => e = .returned (.bool r) ∧ Drawn0 w w' := by
 have H : ((impl_within.f a0 1 8).bind fun t192 => (some t192)) = some r := h
 clear h
 replace H := Option.bind_eq_some_iff.mp H
 obtain ⟨t192, A20, H⟩ := H
 replace H : (some t192) = some r := H
 have A2 := zA_ A20
 clear A20
 obtain rfl := Option.some.inj H
 go_enter Tryd.func59, Tryd.ntmps59
 go_wp2_with (first | ((with_reducible refine gate_callee (f := 72) rfl ?_); refine goesL_ (some 4) rfl rfl Tryd.func72 βDa rfl #[.int .i64 a0, .int .i64 1, .int .i64 8] rfl zs_ ?_; (with_reducible refine (impl_within.calls a0 1 8 t192 _ A2.out).mono ?_); rintro e w' ⟨rfl, ⟨nd, rfl⟩⟩; refine ⟨_, rfl, ?_⟩))
 go_ret
 exact ⟨βya, βwa⟩
def idxFrom {α : Type} (p : α → Bool) : List α → Int → Int
 | [], _ => -1
 | x :: r, i => if p x = true then i else idxFrom p r (i + 1)
theorem idxFrom_drop {α : Type} (l : List α) (k : Nat) (h : k < l.length) : l.drop k = l[k] :: l.drop (k + 1) := by simp
theorem idxFrom_nonneg {α : Type} (p : α → Bool) : ∀ (l : List α) (i : Int), 0 ≤ i → (0 ≤ idxFrom p l i ↔ l.any p = true) := by
 intro l
 induction l with
 | nil => intro i h; simp [idxFrom]
 | cons x r ih =>
  intro i h
  rw [idxFrom, List.any_cons]
  by_cases hx : p x = true
  · rw [if_pos hx, hx]; simp [h]
  · rw [if_neg hx, ih (i + 1) (by omega), Bool.eq_false_iff.2 hx]; simp
theorem slices_IndexFunc_s.calls (I : World → Prop) (p : ByteArray → Bool) (g : Nat) (cap : Array Value) (eg : ∀ args w, (callFunc g args).run Tryd.prog w = .ok (.enter g args) w) (Ad : Option Addr) (c : Nat) (l : List ByteArray) (w : World)
 (hR : Kd.string.C w Ad l.length l) (hc : l.length ≤ c) (hbig : l.length ≤ 9223372036854775807) (hw : I w) (hI : ∀ W, I W → Below w.heap.size w W)
 (hp : ∀ (W : World), I W → ∀ x ∈ l, Calls Tryd.prog g (#[.string x] ++ cap) W fun e w' => e = .returned (.bool (p x)) ∧ I w') :
 Calls Tryd.prog 85 #[.slice Ad l.length c, .func (.func g) #[] cap] w fun e w' => e = .returned (.int .i64 (idxFrom p l 0)) ∧ I w' := by
 have HR := zA_ hR
 clear hR
 go_enter Tryd.func85, Tryd.ntmps85
 go_wp2
 go_loopg [5, 8] l.length (fun gg _ s8 wr => ∃ kk : Nat, kk ≤ l.length ∧ l.length - kk ≤ gg ∧ s8 = .int .i64 kk ∧ Aside0 (I wr) ∧ Aside0 (idxFrom p l 0 = idxFrom p (l.drop kk) kk))
 case atStart => exact ⟨0, Nat.zero_le _, (by omega), rfl, ⟨hw⟩, ⟨(by simp)⟩⟩
 case round =>
  obtain ⟨kk, hkk, hg, rfl, IW, IX⟩ := hrel
  by_cases hlt : kk < l.length
  · have hltz : (kk : Int) < (l.length : Int) := by omega
    obtain ⟨ad, rfl, hx⟩ := Kd.at_string HR.out (kk : Int) (by omega) hltz
    have hx' := ((hI wr IW.out).cell (World.block_lt_of_cell? _ _ hx)).trans hx
    have hy : rdOf ByteArray.empty l (kk : Int) = l[kk] := by simp [rdOf, hlt]
    rw [hy] at hx hx'
    simp only [Int.toNat_natCast, Nat.mul_one] at hx'
    have hcall := hp wr IW.out l[kk] (List.getElem_mem hlt)
    have IX2 := IX.out
    rw [idxFrom_drop l kk hlt, idxFrom] at IX2
    clear hp IX hy hx
    generalize l[kk] = y at hx' hcall IX2
    have IX3 := zA_ IX2
    clear IX2
    cases hq : p y with
    | true =>
     rw [hq] at hcall
     go_wp2_with (go_at_fn g; refine hcall.mono ?_; rintro e w' ⟨rfl, hb'⟩)
     go_ret
     exact ⟨(by rw [IX3.out, if_pos hq]; rfl), hb'⟩
    | false =>
     rw [hq] at hcall
     go_wp2_with (go_at_fn g; refine hcall.mono ?_; rintro e w' ⟨rfl, hb'⟩)
     go_roundg (l.length - (kk + 1))
     case measure => omega
     case rel => exact ⟨kk + 1, (by omega), (by omega), (by go_num), ⟨hb'⟩, ⟨(by rw [IX3.out, hq]; simp)⟩⟩
  · have hltz : ¬ (kk : Int) < (l.length : Int) := by omega
    have : kk = l.length := by omega
    subst this
    go_wp2
    go_ret
    exact ⟨(by rw [IX.out]; simp [idxFrom]), IW.out⟩
theorem slices_ContainsFunc_s.calls (I : World → Prop) (p : ByteArray → Bool) (g : Nat) (cap : Array Value) (eg : ∀ args w, (callFunc g args).run Tryd.prog w = .ok (.enter g args) w) (Ad : Option Addr) (c : Nat) (l : List ByteArray) (w : World)
 (hR : Kd.string.C w Ad l.length l) (hc : l.length ≤ c) (hbig : l.length ≤ 9223372036854775807) (hw : I w) (hI : ∀ W, I W → Below w.heap.size w W)
 (hp : ∀ (W : World), I W → ∀ x ∈ l, Calls Tryd.prog g (#[.string x] ++ cap) W fun e w' => e = .returned (.bool (p x)) ∧ I w') :
 Calls Tryd.prog 60 #[.slice Ad l.length c, .func (.func g) #[] cap] w fun e w' => e = .returned (.bool (l.any p)) ∧ I w' := by
 have hcon := slices_IndexFunc_s.calls I p g cap eg Ad c l w hR hc hbig hw hI hp
 have hn := zA_ (idxFrom_nonneg p l 0 (by omega))
 clear hp hR
 generalize idxFrom p l 0 = r at hcon hn
 go_enter Tryd.func60, Tryd.ntmps60
 go_wp2_with (go_at_call 85; refine hcon.mono ?_; rintro e w' ⟨rfl, hb'⟩)
 go_ret
 refine ⟨?_, hb'⟩
 have : decide (0 ≤ r) = l.any p := by rw [Bool.eq_iff_iff, decide_eq_true_iff]; exact hn.out
 rw [← this]; rfl
theorem slices_ContainsFunc_s.quiet (p : ByteArray → Bool) (g : Nat) (cap : Array Value) (eg : ∀ args w, (callFunc g args).run Tryd.prog w = .ok (.enter g args) w) (Ad : Option Addr) (c : Nat) (l : List ByteArray) (w : World)
 (hR : Kd.string.C w Ad l.length l) (hc : l.length ≤ c) (hbig : l.length ≤ 9223372036854775807)
 (hp : ∀ (W : World), ∀ x ∈ l, Calls Tryd.prog g (#[.string x] ++ cap) W fun e w' => e = .returned (.bool (p x)) ∧ Drawn0 W w') :
 Calls Tryd.prog 60 #[.slice Ad l.length c, .func (.func g) #[] cap] w fun e w' => e = .returned (.bool (l.any p)) ∧ Drawn0 w w' :=
 slices_ContainsFunc_s.calls (fun W => Drawn0 w W) p g cap eg Ad c l w hR hc hbig ⟨0, rfl⟩ (fun W ⟨⟨n, hn⟩⟩ => by rw [hn]; exact pw_below_drewN (Below.refl _ _) n)
  (fun W ⟨⟨n, hn⟩⟩ x hx => (hp W x hx).mono fun e w' ⟨he, ⟨m, hm⟩⟩ => ⟨he, ⟨n + m, (by rw [hm, hn]; exact World.drewN_drewN _ _ _)⟩⟩)
def impl_isImage.f (l0 : List ByteArray) : Option (Bool) := if l0.length ≤ 9223372036854775807 then some (decide (1 ≤ (l0.length : Int) ∧ (l0.length : Int) ≤ 8) && !(l0.any (fun s => (s.size : Int) != 8))) else none
theorem impl_isImage.pred (s : ByteArray) (W : World) : Calls Tryd.prog 61 #[.string s] W fun e w' => e = .returned (.bool ((s.size : Int) != 8)) ∧ Drawn0 W w' := by
 go_enter Tryd.func61, Tryd.ntmps61
 go_wp2
 all_goals (go_ret; exact ⟨(by simp_all), ⟨0, rfl⟩⟩)
theorem impl_isImage.calls (A0 : Option Addr) (c0 : Nat) (l0 : List ByteArray) (r : Bool) (w : World) (hr0 : Kd.C Kd.string w A0 l0.length l0) (hc0 : l0.length ≤ c0) (h : impl_isImage.f l0 = some r) :
 Calls Tryd.prog 34 #[.slice A0 l0.length c0] w fun e w' => e = .returned (.bool r) ∧ Drawn0 w w' := by
 unfold impl_isImage.f at h
 by_cases hbig : l0.length ≤ 9223372036854775807
 · rw [if_pos hbig] at h
   have hs : impl_size_string.f l0 = some (l0.length : Int) := rfl
   have hb : impl_isBlocks.f (l0.length : Int) = some (decide (1 ≤ (l0.length : Int) ∧ (l0.length : Int) ≤ 8)) := by
    unfold impl_isBlocks.f impl_within.f
    by_cases h1 : (l0.length : Int) ≥ 1
    · rw [if_pos h1, Option.bind_some]; congr 1; rw [Bool.eq_iff_iff]; simp; omega
    · rw [if_neg h1, Option.bind_some]; congr 1; rw [eq_comm, decide_eq_false_iff_not]; omega
   have eg : ∀ args w, (callFunc 61 args).run Tryd.prog w = .ok (.enter 61 args) w := enters_of Tryd.func61 βDa rfl
   have hcon := fun W hR => slices_ContainsFunc_s.quiet (fun s => (s.size : Int) != 8) 61 #[] eg A0 c0 l0 W hR hc0 hbig (fun W x _ => impl_isImage.pred x W)
   have HR0 := zA_ hr0
   have HC0 := zA_ hc0
   clear hr0 hc0
   generalize hv : l0.any (fun s => (s.size : Int) != 8) = v at h hcon
   generalize hd : decide (1 ≤ (l0.length : Int) ∧ (l0.length : Int) ≤ 8) = d at h hb
   clear hv hd
   have HS := zA_ hs
   have HD := zA_ hb
   clear hs hb
   obtain rfl := Option.some.inj h
   clear h
   cases d <;>
   · go_enter Tryd.func34, Tryd.ntmps34
     go_wp2_with (first
      | (go_at_call 39; refine (impl_size_string.calls A0 c0 l0 _ _ (by repeat (first | exact HR0.out | refine Kd.C_drewN ?_ _)) HC0.out HS.out).mono ?_; rintro e w1 ⟨rfl, ⟨n1, rfl⟩⟩)
      | (go_at_call 59; refine (impl_isBlocks.calls _ _ _ HD.out).mono ?_; rintro e w2 ⟨rfl, ⟨n2, rfl⟩⟩)
      | (go_at_call 60; refine (hcon _ (by repeat (first | exact HR0.out | refine Kd.C_drewN ?_ _))).mono ?_; rintro e w3 ⟨rfl, ⟨n3, rfl⟩⟩))
     go_ret
     exact ⟨(by simp), ⟨_, rfl⟩⟩
 · rw [if_neg hbig] at h
   cases h
def spec_l01Src_one.f (s0_0 : List Int) (s0_1 : Int) (s0_2 : Int) (s0_3 : Int) (a1 : Int) : Option (Bool × Int × Int × Int) := (spec_l01Src_n.f s0_0 s0_1 s0_2 s0_3 a1).bind fun bt209 => (some ((bt209.1 == 0), bt209.2.1, bt209.2.2.1, bt209.2.2.2))
theorem spec_l01Src_one.calls (g : Nat) (s0_0 : List Int) (s0_1 : Int) (s0_2 : Int) (s0_3 : Int) (a1 : Int) (r1 : Bool) (r2 : Int) (r3 : Int) (r4 : Int) (w0 w : World) (hI : IsS78 w0 w g s0_0 s0_1 s0_2 s0_3) (hB : Below w0.heap.size w0 w) (h : spec_l01Src_one.f s0_0 s0_1 s0_2 s0_3 a1 = some (r1, r2, r3, r4)) :
 Calls Tryd.prog 42 #[.pointer (some ⟨g, 0, none⟩), .int .i64 a1] w fun e w' => e = .returned (.bool r1) ∧ IsS78 w0 w' g s0_0 r2 r3 r4 ∧ Below w0.heap.size w0 w' ∧ KeepBut w w' g none := by
 have HI0 := zA_ hI
 have HK := zA_ (KeepBut.refl w g none)
 have HL := zA_ hB.size
 clear hI
 have HW0 := zA_ hB.size
 have HB := zA_ hB
 clear hB
 have H : ((spec_l01Src_n.f s0_0 s0_1 s0_2 s0_3 a1).bind fun bt209 => (some ((bt209.1 == 0), bt209.2.1, bt209.2.2.1, bt209.2.2.2))) = some (r1, r2, r3, r4) := h
 clear h
 replace H := Option.bind_eq_some_iff.mp H
 obtain ⟨⟨t209, t210, t211, t212⟩, A30, H⟩ := H
 replace H : (some ((t209 == 0), t210, t211, t212)) = some (r1, r2, r3, r4) := H
 have A3 := zA_ A30
 clear A30
 simp only [Option.some.injEq, Prod.mk.injEq] at H
 obtain ⟨rfl, rfl, rfl, rfl⟩ := H
 go_enter Tryd.func42, Tryd.ntmps42
 go_wp2_with (first | ((with_reducible refine gate_callee (f := 32) rfl ?_); refine goesL_ (some 7) rfl rfl Tryd.func32 βDa rfl #[.pointer (some ⟨g, 0, none⟩), .int .i64 a1] rfl zs_ ?_; (with_reducible refine (spec_l01Src_n.calls g s0_0 s0_1 s0_2 s0_3 a1 t209 t210 t211 t212 w0 _ ?side1 ?side2 A3.out).mono ?_); (case side1 => exact βA); (case side2 => exact βH); rintro e w4 ⟨rfl, hi, hb, hk⟩; refine ⟨_, rfl, ?_⟩; have n0_ := zA_ (KeepBut.trans βja hk (.inl rfl)); have n1_ := zA_ (hb); have n2_ := zA_ (hi); clear HK HB HI0; have HK := n0_; have HB := n1_; have HI0 := n2_; clear n0_ n1_ n2_; (try clear hb); (try clear hb2); (try clear hk); (try clear hi)))
 go_ret
 exact ⟨βsa, βA, βH, βja⟩
def spec_l01Src_pick.f (s0_0 : List Int) (s0_1 : Int) (s0_2 : Int) (s0_3 : Int) (l1 : List ByteArray) : Option (ByteArray × Int × Int × Int) := (spec_l01Src_n.f s0_0 s0_1 s0_2 s0_3 (l1.length : Int)).bind fun bt213 => (if 0 ≤ bt213.1 then (if bt213.1 < (l1.length : Int) then (some (rdOf ByteArray.empty l1 bt213.1, bt213.2.1, bt213.2.2.1, bt213.2.2.2)) else (none)) else (none))
theorem spec_l01Src_pick.calls (g : Nat) (s0_0 : List Int) (s0_1 : Int) (s0_2 : Int) (s0_3 : Int) (A1 : Option Addr) (c1 : Nat) (l1 : List ByteArray) (r1 : ByteArray) (r2 : Int) (r3 : Int) (r4 : Int) (w0 w : World) (hI : IsS78 w0 w g s0_0 s0_1 s0_2 s0_3) (hB : Below w0.heap.size w0 w) (hr1 : Kd.C Kd.string w A1 l1.length l1) (hc1 : l1.length ≤ c1) (hf1 : ∀ ad, A1 = some ad → 0 < l1.length → ad.block ≠ g) (h : spec_l01Src_pick.f s0_0 s0_1 s0_2 s0_3 l1 = some (r1, r2, r3, r4)) :
 Calls Tryd.prog 70 #[.pointer (some ⟨g, 0, none⟩), .slice A1 l1.length c1] w fun e w' => e = .returned (.string r1) ∧ IsS78 w0 w' g s0_0 r2 r3 r4 ∧ Below w0.heap.size w0 w' ∧ KeepBut w w' g none := by
 have HR1 := zA_ hr1
 have HC1 := zA_ hc1
 clear hr1 hc1
 have HI0 := zA_ hI
 have HK := zA_ (KeepBut.refl w g none)
 have HL := zA_ hB.size
 clear hI
 have HW0 := zA_ hB.size
 have HB := zA_ hB
 clear hB
 have H : ((spec_l01Src_n.f s0_0 s0_1 s0_2 s0_3 (l1.length : Int)).bind fun bt213 => (if 0 ≤ bt213.1 then (if bt213.1 < (l1.length : Int) then (some (rdOf ByteArray.empty l1 bt213.1, bt213.2.1, bt213.2.2.1, bt213.2.2.2)) else (none)) else (none))) = some (r1, r2, r3, r4) := h
 clear h
 replace H := Option.bind_eq_some_iff.mp H
 obtain ⟨⟨t213, t214, t215, t216⟩, A30, H⟩ := H
 replace H : (if 0 ≤ t213 then (if t213 < (l1.length : Int) then (some (rdOf ByteArray.empty l1 t213, t214, t215, t216)) else (none)) else (none)) = some (r1, r2, r3, r4) := H
 have A3 := zA_ A30
 clear A30
 by_cases c4 : 0 ≤ t213
 · rw [if_pos c4] at H
   have c4b0 : decide (0 ≤ t213) = true := decide_eq_true c4
   clear c4
   by_cases c5 : t213 < (l1.length : Int)
   · rw [if_pos c5] at H
     have c5b0 : decide (t213 < (l1.length : Int)) = true := decide_eq_true c5
     clear c5
     simp only [Option.some.injEq, Prod.mk.injEq] at H
     obtain ⟨rfl, rfl, rfl, rfl⟩ := H
     go_enter Tryd.func70, Tryd.ntmps70
     go_wp2_with (first | ((with_reducible refine gate_callee (f := 32) rfl ?_); refine goesL_ (some 9) rfl rfl Tryd.func32 βDa rfl #[.pointer (some ⟨g, 0, none⟩), .int .i64 (l1.length : Int)] rfl zs_ ?_; (with_reducible refine (spec_l01Src_n.calls g s0_0 s0_1 s0_2 s0_3 (l1.length : Int) t213 t214 t215 t216 w0 _ ?side1 ?side2 A3.out).mono ?_); (case side1 => exact βA); (case side2 => exact βH); rintro e w6 ⟨rfl, hi, hb, hk⟩; refine ⟨_, rfl, ?_⟩; have n0_ := zA_ (KeepBut.trans βja hk (.inl rfl)); have n1_ := zA_ (hb); have n2_ := zA_ (hi); clear HK HB HI0; have HK := n0_; have HB := n1_; have HI0 := n2_; clear n0_ n1_ n2_; (try clear hb); (try clear hb2); (try clear hk); (try clear hi); have p217 : 0 ≤ (t213 : Int) := of_decide_eq_true βxa; have q217 : t213 < (l1.length : Int) := of_decide_eq_true βxa; obtain ⟨ad217, e217, hx217_0⟩ := Kd.at_string HR1.out t213 p217 q217; cases e217; replace hx217_0 := keep_cell HK.out hx217_0 (by first | (rw [add_block]; exact hf1 _ rfl (by omega)) | exact hf1 _ rfl (by omega) | exact hf1 ad217 rfl (by omega)); replace p217 := eq_true p217; replace q217 := eq_true q217))
     go_ret
     exact ⟨βsa, βA, βH, βja⟩
   · rw [if_neg c5] at H
     exact absurd H (by simp)
 · rw [if_neg c4] at H
   exact absurd H (by simp)
def spec_l01Src_l06Data.f (s0_0 : List Int) (s0_1 : Int) (s0_2 : Int) (s0_3 : Int) : Option (ByteArray × Int × Int × Int) := (spec_l01Src_pick.f s0_0 s0_1 s0_2 s0_3 (([(⟨#[97, 97, 97, 97, 97, 97, 97, 97]⟩ : ByteArray), (⟨#[97, 98, 97, 98, 97, 98, 97, 98]⟩ : ByteArray), (⟨#[104, 101, 108, 108, 111, 32, 32, 33]⟩ : ByteArray), (⟨#[0, 0, 0, 0, 0, 0, 0, 0]⟩ : ByteArray), (⟨#[0, 0, 0, 1, 0, 0, 0, 0]⟩ : ByteArray)] : List ByteArray))).bind fun bt221 => (some (bt221.1, bt221.2.1, bt221.2.2.1, bt221.2.2.2))
theorem spec_l01Src_l06Data.calls (g : Nat) (s0_0 : List Int) (s0_1 : Int) (s0_2 : Int) (s0_3 : Int) (r1 : ByteArray) (r2 : Int) (r3 : Int) (r4 : Int) (w0 w : World) (hI : IsS78 w0 w g s0_0 s0_1 s0_2 s0_3) (hB : Below w0.heap.size w0 w) (h : spec_l01Src_l06Data.f s0_0 s0_1 s0_2 s0_3 = some (r1, r2, r3, r4)) :
 Calls Tryd.prog 41 #[.pointer (some ⟨g, 0, none⟩)] w fun e w' => e = .returned (.string r1) ∧ IsS78 w0 w' g s0_0 r2 r3 r4 ∧ Below w0.heap.size w0 w' ∧ KeepBut w w' g none := by
 have HI0 := zA_ hI
 have HK := zA_ (KeepBut.refl w g none)
 have HL := zA_ hB.size
 clear hI
 have HW0 := zA_ hB.size
 have HB := zA_ hB
 clear hB
 have H : ((spec_l01Src_pick.f s0_0 s0_1 s0_2 s0_3 (([(⟨#[97, 97, 97, 97, 97, 97, 97, 97]⟩ : ByteArray), (⟨#[97, 98, 97, 98, 97, 98, 97, 98]⟩ : ByteArray), (⟨#[104, 101, 108, 108, 111, 32, 32, 33]⟩ : ByteArray), (⟨#[0, 0, 0, 0, 0, 0, 0, 0]⟩ : ByteArray), (⟨#[0, 0, 0, 1, 0, 0, 0, 0]⟩ : ByteArray)] : List ByteArray))).bind fun bt221 => (some (bt221.1, bt221.2.1, bt221.2.2.1, bt221.2.2.2))) = some (r1, r2, r3, r4) := h
 clear h
 obtain ⟨y218, hy218⟩ : ∃ y_ : List ByteArray, y_ = (([(⟨#[97, 97, 97, 97, 97, 97, 97, 97]⟩ : ByteArray), (⟨#[97, 98, 97, 98, 97, 98, 97, 98]⟩ : ByteArray), (⟨#[104, 101, 108, 108, 111, 32, 32, 33]⟩ : ByteArray), (⟨#[0, 0, 0, 0, 0, 0, 0, 0]⟩ : ByteArray), (⟨#[0, 0, 0, 1, 0, 0, 0, 0]⟩ : ByteArray)] : List ByteArray)) := ⟨_, rfl⟩
 replace H : ((spec_l01Src_pick.f s0_0 s0_1 s0_2 s0_3 y218).bind fun bt221 => (some (bt221.1, bt221.2.1, bt221.2.2.1, bt221.2.2.2))) = some (r1, r2, r3, r4) := by first | (rw [hy218]; with_reducible exact H) | (have H2_ := (Option.bind_some _ _).symm.trans H; rw [hy218]; with_reducible exact H2_) | (have H2_ := (Option.bind_some _ _).symm.trans H; with_reducible exact H2_) | with_reducible exact H | (rw [hy218]; exact H) | exact H
 have Ny218 := zA_ hy218
 clear hy218
 replace H := Option.bind_eq_some_iff.mp H
 obtain ⟨⟨t221, t222, t223, t224⟩, A20, H⟩ := H
 replace H : (some (t221, t222, t223, t224)) = some (r1, r2, r3, r4) := H
 have A2 := zA_ A20
 clear A20
 simp only [Option.some.injEq, Prod.mk.injEq] at H
 obtain ⟨rfl, rfl, rfl, rfl⟩ := H
 go_enter Tryd.func41, Tryd.ntmps41
 go_wp2_with (first | ((with_reducible refine gate_dst (N := 4) rfl ?_); refine Kd.R_lit Kd.string _ 9 ?hg (N := 4) ?hd (xs := ([(⟨#[97, 97, 97, 97, 97, 97, 97, 97]⟩ : ByteArray), (⟨#[97, 98, 97, 98, 97, 98, 97, 98]⟩ : ByteArray), (⟨#[104, 101, 108, 108, 111, 32, 32, 33]⟩ : ByteArray), (⟨#[0, 0, 0, 0, 0, 0, 0, 0]⟩ : ByteArray), (⟨#[0, 0, 0, 1, 0, 0, 0, 0]⟩ : ByteArray)] : List ByteArray)) (inner := [.string (⟨#[97, 97, 97, 97, 97, 97, 97, 97]⟩ : ByteArray), .string (⟨#[97, 98, 97, 98, 97, 98, 97, 98]⟩ : ByteArray), .string (⟨#[104, 101, 108, 108, 111, 32, 32, 33]⟩ : ByteArray), .string (⟨#[0, 0, 0, 0, 0, 0, 0, 0]⟩ : ByteArray), .string (⟨#[0, 0, 0, 1, 0, 0, 0, 0]⟩ : ByteArray)]) (ok := fun _ => True) (okp := fun _ => True) ?hr ?hp (fun _ hk => hk) trivial (Below.refl _ _) (Nat.le_refl _) (by simp) ?_; (case hd => exact (by rfl)); (case hg => exact (by rfl)); (case hr => exact βAa); (case hp => exact (Reps.one (show Kd.M Kd.string _ _ _ (⟨#[97, 97, 97, 97, 97, 97, 97, 97]⟩ : ByteArray) [.string (⟨#[97, 97, 97, 97, 97, 97, 97, 97]⟩ : ByteArray)] from rfl) (Reps.one (show Kd.M Kd.string _ _ _ (⟨#[97, 98, 97, 98, 97, 98, 97, 98]⟩ : ByteArray) [.string (⟨#[97, 98, 97, 98, 97, 98, 97, 98]⟩ : ByteArray)] from rfl) (Reps.one (show Kd.M Kd.string _ _ _ (⟨#[104, 101, 108, 108, 111, 32, 32, 33]⟩ : ByteArray) [.string (⟨#[104, 101, 108, 108, 111, 32, 32, 33]⟩ : ByteArray)] from rfl) (Reps.one (show Kd.M Kd.string _ _ _ (⟨#[0, 0, 0, 0, 0, 0, 0, 0]⟩ : ByteArray) [.string (⟨#[0, 0, 0, 0, 0, 0, 0, 0]⟩ : ByteArray)] from rfl) (Reps.one (show Kd.M Kd.string _ _ _ (⟨#[0, 0, 0, 1, 0, 0, 0, 0]⟩ : ByteArray) [.string (⟨#[0, 0, 0, 1, 0, 0, 0, 0]⟩ : ByteArray)] from rfl) (Reps.none _ _))))))); intro v219 w3 ho4 hb hg_ hnew_; clear hg_ hnew_; (first | rw [← Ny218.out] at ho4 | (simp only [Int.reduceToNat] at ho4; rw [← Ny218.out] at ho4)); have n0_ := zA_ (Kd.R_lower ho4 (keep_size (w := w) (g := g) (row := none) βja)); have n1_ := zA_ (IsS78.below βA hb); have n2_ := zA_ (KeepBut.trans βja (KeepBut.of_below hb g none) (.inl rfl)); have n3_ := zA_ (below_step βH hb); clear HI0 HK HB; have HO220 := n0_; have HI0 := n1_; have HK := n2_; have HB := n3_; clear n0_ n1_ n2_ n3_; clear hb ho4; obtain ⟨Ao5, co5, eo5⟩ := Kd.R_slice HO220.out; subst eo5) | ((with_reducible refine gate_callee (f := 70) rfl ?_); refine goesL_ (some 5) rfl rfl Tryd.func70 βDa rfl #[.pointer (some ⟨g, 0, none⟩), .slice Ao5 y218.length co5] rfl zs_ ?_; (with_reducible refine (spec_l01Src_pick.calls g s0_0 s0_1 s0_2 s0_3 _ _ y218 t221 t222 t223 t224 w0 _ ?side1 ?side2 ?side3 ?side4 ?side5 A2.out).mono ?_); (case side1 => exact βA); (case side2 => exact βH); (case side3 => exact zc_ (Kd.R_reads' HO220.out).2.2); (case side4 => exact (Kd.R_reads' HO220.out).2.1); (case side5 => exact far_slice (IsS78.own_ne HI0.out HO220.out (by decide))); rintro e w6 ⟨rfl, hi, hb, hk⟩; refine ⟨_, rfl, ?_⟩; have n0_ := zA_ (Kd.R_mono (Kd.R_keep (IsS78.apart (show IsS78 w0 _ g s0_0 s0_1 s0_2 s0_3 from by repeat (first | (with_reducible first | exact HI0.out | apply IsS78.alloc | apply IsS78.drewN | apply IsS78.drew | apply IsS78.set_1 | apply IsS78.set_2 | apply IsS78.set_3) | exact HI0.out)) (zr_ HO220.out) (by decide)) hk (fun _ h => h.2)) (fun _ h => h.1)); have n1_ := zA_ (KeepBut.trans βja hk (.inl rfl)); have n2_ := zA_ (hb); have n3_ := zA_ (hi); clear HO220 HK HB HI0; have HO220 := n0_; have HK := n1_; have HB := n2_; have HI0 := n3_; clear n0_ n1_ n2_ n3_; (try clear hb); (try clear hb2); (try clear hk); (try clear hi)))
 go_ret
 exact ⟨βsa, βA, βH, βja⟩
end Go.Proofs.YtldhjbjbjoomcaaDoor.Q
namespace Go.Proofs.YtldhjbjbjoomcaaDoor.Pure
set_option linter.unusedVariables false
set_option linter.unusedSimpArgs false
open Go Go.RowKit Go.Proofs.YtldhjbjbjoomcaaDoor.Q Go.Proofs.YtldhjbjbjoomcaaDoorW.PrintWords Go.Proofs.YtldhjbjbjoomcaaDoorW.PrintLast Go.Proofs.YtldhjbjbjoomcaaDoorW.PrintMore
theorem draw_one (b : List Int) (i m s a : Int) (h : St b i) (ha : a ≤ 9223372036854775807) :
    ∃ r i' m', spec_l01Src_one.f b i m s a = some (r, i', m', s) ∧ St b i' := by
  obtain ⟨r, i', m', e, h', _⟩ := draw_n b i m s a h ha
  unfold spec_l01Src_one.f
  rw [e]
  exact ⟨_, _, _, rfl, h'⟩
theorem draw_bytes_l0 (b : List Int) (s n : Int) (hn : n ≤ 1000000) (d : Nat) : ∀ (j : Nat) (acc : List Int) (i m : Int), (j : Int) + d = n → acc.length = j → St b i →
    ∃ r i' m', Ev (fun k => spec_l01Src_bytes.l0 k n acc (j : Int) b i m s) (r, i', m', s) ∧ St b i' ∧ (r.size : Int) = n := by
  induction d with
  | zero =>
    intro j acc i m h hl hs
    exact ⟨strOfNums acc, i, m, Ev.step (fun k => by rw [spec_l01Src_bytes.l0, if_neg (by omega)]) (Ev.now _), hs, by rw [strOfNums_size]; omega⟩
  | succ d ih =>
    intro j acc i m h hl hs
    obtain ⟨r, i', m', e, h', _⟩ := draw_n b i m s 256 hs (by omega)
    obtain ⟨r2, i2, m2, e2, h2, b2⟩ := ih (j + 1) (acc ++ [r % 256]) i' m' (by omega) (by simp; omega) h'
    refine ⟨r2, i2, m2, Ev.step (fun k => by rw [spec_l01Src_bytes.l0, if_pos (by omega), e, next64 (by omega)]) ?_, h2, b2⟩
    simp only [Option.bind_some, if_pos (show acc.length < 140737488355328 by omega)]
    exact e2
theorem draw_bytes (b : List Int) (i m s n : Int) (hn0 : 0 ≤ n) (hn : n ≤ 1000000) (hs : St b i) :
    ∃ r i' m', Ev (fun k => spec_l01Src_bytes.f k b i m s n) (r, i', m', s) ∧ St b i' ∧ (r.size : Int) = n := by
  unfold spec_l01Src_bytes.f
  exact draw_bytes_l0 b s n hn n.toNat 0 [] i m (by omega) (by simp) hs
end Go.Proofs.YtldhjbjbjoomcaaDoor.Pure
namespace Go.Proofs.YtldhjbjbjoomcaaDoor.Q
open Go.RowKit Go.Proofs.YtldhjbjbjoomcaaDoorW.PrintWords Go.Proofs.YtldhjbjbjoomcaaDoorW.PrintLast Go.Proofs.YtldhjbjbjoomcaaDoorW.PrintMore
attribute [local go_sem] max2_int min2_int max_two min_two max_three min_three max_four min_four Instr.field asAgg
set_option linter.unusedVariables false
set_option linter.unusedSimpArgs false
set_option maxHeartbeats 8000000
set_option maxRecDepth 100000
def spec_l01Src_l07Image.l0 : Nat → Int → List ByteArray → List Int → Int → Int → Int → Option (List ByteArray × Int × Int × Int)
 | 0, _, _, _, _, _, _ => none
 | k + 1, x1, x5, x1000, x1001, x1002, x1003 => if x1 > 0 then ((spec_l01Src_l06Data.f x1000 x1001 x1002 x1003).bind fun bt228 => (if x5.length < 8796093022208 then (spec_l01Src_l07Image.l0 k (wrap64 (x1 - 1)) (x5 ++ [bt228.1]) x1000 bt228.2.1 bt228.2.2.1 bt228.2.2.2) else (none))) else (some (x5, x1001, x1002, x1003))
def spec_l01Src_l07Image.f (k : Nat) (s0_0 : List Int) (s0_1 : Int) (s0_2 : Int) (s0_3 : Int) (a1 : Int) : Option (List ByteArray × Int × Int × Int) := spec_l01Src_l07Image.l0 k a1 (([] : List ByteArray)) s0_0 s0_1 s0_2 s0_3
theorem spec_l01Src_l07Image.calls (k : Nat) (g : Nat) (s0_0 : List Int) (s0_1 : Int) (s0_2 : Int) (s0_3 : Int) (a1 : Int) (r1 : List ByteArray) (r2 : Int) (r3 : Int) (r4 : Int) (w0 w : World) (hI : IsS78 w0 w g s0_0 s0_1 s0_2 s0_3) (hB : Below w0.heap.size w0 w) (h : spec_l01Src_l07Image.f k s0_0 s0_1 s0_2 s0_3 a1 = some (r1, r2, r3, r4)) :
 Calls Tryd.prog 63 #[.pointer (some ⟨g, 0, none⟩), .int .i64 a1] w fun e w' => ∃ v0_ : Value, e = .returned (v0_) ∧ Kd.R Kd.string 9 w' w.heap.size (fun _ => True) v0_ r1 ∧ IsS78 w0 w' g s0_0 r2 r3 r4 ∧ Below w0.heap.size w0 w' ∧ KeepBut w w' g none := by
 have HI0 := zA_ hI
 have HK := zA_ (KeepBut.refl w g none)
 have HL := zA_ hB.size
 clear hI
 have HW0 := zA_ hB.size
 have HB := zA_ hB
 clear hB
 have H : (spec_l01Src_l07Image.l0 k a1 (([] : List ByteArray)) s0_0 s0_1 s0_2 s0_3) = some (r1, r2, r3, r4) := h
 clear h
 obtain ⟨y225, hy225⟩ : ∃ y_ : List ByteArray, y_ = (([] : List ByteArray)) := ⟨_, rfl⟩
 replace H : (spec_l01Src_l07Image.l0 k a1 y225 s0_0 s0_1 s0_2 s0_3) = some (r1, r2, r3, r4) := by first | (rw [hy225]; with_reducible exact H) | (have H2_ := (Option.bind_some _ _).symm.trans H; rw [hy225]; with_reducible exact H2_) | (have H2_ := (Option.bind_some _ _).symm.trans H; with_reducible exact H2_) | with_reducible exact H | (rw [hy225]; exact H) | exact H
 have Ny225 := zA_ hy225
 clear hy225
 have H' := zA_ H
 clear H
 go_enter Tryd.func63, Tryd.ntmps63
 go_wp2_with (first | ((with_reducible refine gate_dst (N := 6) rfl ?_); refine Kd.R_lit Kd.string _ 9 ?hg (N := 6) ?hd (xs := ([] : List ByteArray)) (inner := []) (ok := fun _ => True) (okp := fun _ => True) ?hr ?hp (fun _ hk => hk) trivial (Below.refl _ _) (Nat.le_refl _) (by simp) ?_; (case hd => exact (by rfl)); (case hg => exact (by rfl)); (case hr => exact βAa); (case hp => exact (Reps.none _ _)); intro v226 w3 ho4 hb hg_ hnew_; clear hg_ hnew_; (first | rw [← Ny225.out] at ho4 | (simp only [Int.reduceToNat] at ho4; rw [← Ny225.out] at ho4)); have n0_ := zA_ (Kd.R_lower ho4 (keep_size (w := w) (g := g) (row := none) βja)); have n1_ := zA_ (IsS78.below βA hb); have n2_ := zA_ (KeepBut.trans βja (KeepBut.of_below hb g none) (.inl rfl)); have n3_ := zA_ (below_step βH hb); clear HI0 HK HB; have HO227 := n0_; have HI0 := n1_; have HK := n2_; have HB := n3_; clear n0_ n1_ n2_ n3_; clear hb ho4))
 go_loopg [1, 5] k (fun kq v1 v5 w' => ∃ (x1_1 : Int) (x5_1 : List ByteArray) (x1001_1 : Int) (x1002_1 : Int) (x1003_1 : Int), v1 = .int .i64 x1_1 ∧ Aside0 (spec_l01Src_l07Image.l0 kq x1_1 x5_1 s0_0 x1001_1 x1002_1 x1003_1 = some (r1, r2, r3, r4)) ∧ Aside0 (kq ≤ k) ∧ Aside0 (Kd.R Kd.string 9 w' w.heap.size (fun _ => True) v5 x5_1) ∧ Aside0 (IsS78 w0 w' g s0_0 x1001_1 x1002_1 x1003_1) ∧ Aside0 (KeepBut w w' g none) ∧ Aside0 (Below w0.heap.size w0 w'))
 case atStart => exact ⟨(a1), (y225), (s0_1), (s0_2), (s0_3), βya, H', ⟨Nat.le_refl _⟩, ⟨zr_ HO227.out⟩, ⟨βA⟩, ⟨βja⟩, ⟨βH⟩⟩
 case round =>
  clear H'
  try clear p2
  obtain ⟨x1_1, x5_1, x1001_1, x1002_1, x1003_1, rfl, HA, HK1, HO_5, HI0, HK, HB⟩ := hrel
  cases gk with
  | zero => exact absurd HA.out (by simp [spec_l01Src_l07Image.l0])
  | succ k1 =>
   have H := HA.out
   clear HA
   simp only [spec_l01Src_l07Image.l0] at H
   by_cases c5 : x1_1 > 0
   · rw [if_pos c5] at H
     have c5b0 : decide (0 < x1_1) = true := decide_eq_true c5
     clear c5
     replace H := Option.bind_eq_some_iff.mp H
     obtain ⟨⟨t228, t229, t230, t231⟩, A60, H⟩ := H
     replace H : (if x5_1.length < 8796093022208 then (spec_l01Src_l07Image.l0 k1 (wrap64 (x1_1 - 1)) (x5_1 ++ [t228]) s0_0 t229 t230 t231) else (none)) = some (r1, r2, r3, r4) := H
     have A6 := zA_ A60
     clear A60
     by_cases c7 : x5_1.length < 8796093022208
     · rw [if_pos c7] at H
       have LMc7 := zA_ c7
       clear c7
       obtain ⟨y232, hy232⟩ : ∃ y_ : List ByteArray, y_ = (x5_1 ++ [t228]) := ⟨_, rfl⟩
       replace H : (spec_l01Src_l07Image.l0 k1 (wrap64 (x1_1 - 1)) y232 s0_0 t229 t230 t231) = some (r1, r2, r3, r4) := by first | (rw [hy232]; with_reducible exact H) | (have H2_ := (Option.bind_some _ _).symm.trans H; rw [hy232]; with_reducible exact H2_) | (have H2_ := (Option.bind_some _ _).symm.trans H; with_reducible exact H2_) | with_reducible exact H | (rw [hy232]; exact H) | exact H
       have Ny232 := zA_ hy232
       clear hy232
       have H' := zA_ H
       clear H
       go_wp2_with (first | ((with_reducible refine gate_callee (f := 41) rfl ?_); refine goesL_ (some 13) rfl rfl Tryd.func41 βDa rfl #[.pointer (some ⟨g, 0, none⟩)] rfl zs_ ?_; (with_reducible refine (spec_l01Src_l06Data.calls g s0_0 x1001_1 x1002_1 x1003_1 t228 t229 t230 t231 w0 _ ?side1 ?side2 A6.out).mono ?_); (case side1 => exact βA); (case side2 => exact βH); rintro e w8 ⟨rfl, hi, hb, hk⟩; refine ⟨_, rfl, ?_⟩; have n0_ := zA_ (Kd.R_mono (Kd.R_keep (IsS78.apart (show IsS78 w0 _ g s0_0 x1001_1 x1002_1 x1003_1 from by repeat (first | (with_reducible first | exact HI0.out | apply IsS78.alloc | apply IsS78.drewN | apply IsS78.drew | apply IsS78.set_1 | apply IsS78.set_2 | apply IsS78.set_3) | exact HI0.out)) (zr_ HO_5.out) (by decide)) hk (fun _ h => h.2)) (fun _ h => h.1)); have n1_ := zA_ (KeepBut.trans βja hk (.inl rfl)); have n2_ := zA_ (hb); have n3_ := zA_ (hi); clear HO_5 HK HB HI0; have HO_5 := n0_; have HK := n1_; have HB := n2_; have HI0 := n3_; clear n0_ n1_ n2_ n3_; (try clear hb); (try clear hb2); (try clear hk); (try clear hi)) | ((with_reducible refine gate_builtin (b := .append) (xs := #[.tmp 11, .tmp 14]) rfl ?_); at_builtin; refine Kd.R_append Kd.string w.heap.size rfl (.tmp 11) (.tmp 14) 27 9 (.string ⟨#[]⟩) 16 rfl Tryd.underlying27 info9 rfl (by decide) (by omega) u5 x5_1 t228 [.string t228] (fun _ => True) (fun _ => False) rfl rfl ?aP (fun _ hk => hk.elim) ?aF ?aO (Below.refl _ _) ?aS ?aL ?_; (case aP => exact rfl); (case aF => exact (fun _ _ => trivial)); (case aO => exact (zr_ HO_5.out)); (case aS => exact (keep_size (w := w) (g := g) (row := none) βja)); (case aL => exact (by have := LMc7.out; omega)); intro v233 w9 ho hb hg hat; rw [← Ny232.out] at ho; have n0_ := zA_ (IsS78.grown βA hg (IsS78.own_ne HI0.out HO_5.out (by decide))); have n1_ := zA_ (below_weaken βH HL.out hb); have n2_ := zA_ (KeepBut.trans βja (KeepBut.of_grown hg g) (Kd.R_base2 HO_5.out)); have n3_ := zA_ (ho); clear HI0 HB HK HO_5; have HI0 := n0_; have HB := n1_; have HK := n2_; have HO234 := n3_; clear n0_ n1_ n2_ n3_; clear ho hb hg hat))
       go_roundg k1
       case measure => have := HK1.out; omega
       case rel => exact ⟨(wrap64 (x1_1 - 1)), (y232), (t229), (t230), (t231), βya, H', ⟨βCa⟩, ⟨zr_ HO234.out⟩, ⟨βA⟩, ⟨βja⟩, ⟨βH⟩⟩
     · rw [if_neg c7] at H
       exact absurd H (by simp)
   · rw [if_neg c5] at H
     have c5b0 : decide (0 < x1_1) = false := decide_eq_false c5
     clear c5
     simp only [Option.some.injEq, Prod.mk.injEq] at H
     obtain ⟨rfl, rfl, rfl, rfl⟩ := H
     go_wp2
     go_ret
     exact ⟨_, βsa, βpa, βA, βH, βja⟩
def spec_l01Src_l07Odd.f (k : Nat) (s0_0 : List Int) (s0_1 : Int) (s0_2 : Int) (s0_3 : Int) : Option (List ByteArray × Int × Int × Int) := (spec_l01Src_n.f s0_0 s0_1 s0_2 s0_3 5).bind fun bt235 => ((spec_l01Src_l07Image.f k s0_0 bt235.2.1 bt235.2.2.1 bt235.2.2.2 (wrap64 (1 + bt235.1))).bind fun bt239 => ((spec_l01Src_one.f s0_0 bt239.2.1 bt239.2.2.1 bt239.2.2.2 12).bind fun bt245 => (if bt245.1 = true then ((spec_l01Src_n.f s0_0 bt245.2.1 bt245.2.2.1 bt245.2.2.2 3).bind fun bt249 => (if bt249.1 = 0 then ((spec_l01Src_n.f s0_0 bt249.2.1 bt249.2.2.1 bt249.2.2.2 2).bind fun bt253 => ((spec_l01Src_bytes.f k s0_0 bt253.2.1 bt253.2.2.1 bt253.2.2.2 (wrap64 (7 + (wrap64 (2 * bt253.1))))).bind fun bt257 => (if 0 < (bt239.1.length : Int) then (some ((bt239.1.set (0 : Int).toNat bt257.1), bt257.2.1, bt257.2.2.1, bt257.2.2.2)) else (none)))) else (if bt249.1 = 1 then (some (([] : List ByteArray), bt249.2.1, bt249.2.2.1, bt249.2.2.2)) else ((spec_l01Src_n.f s0_0 bt249.2.1 bt249.2.2.1 bt249.2.2.2 2).bind fun bt262 => ((spec_l01Src_l07Image.f k s0_0 bt262.2.1 bt262.2.2.1 bt262.2.2.2 (wrap64 (8 + bt262.1))).bind fun bt266 => (some (bt266.1, bt266.2.1, bt266.2.2.1, bt266.2.2.2))))))) else (some (bt239.1, bt245.2.1, bt245.2.2.1, bt245.2.2.2)))))
theorem spec_l01Src_l07Odd.calls (k : Nat) (g : Nat) (s0_0 : List Int) (s0_1 : Int) (s0_2 : Int) (s0_3 : Int) (r1 : List ByteArray) (r2 : Int) (r3 : Int) (r4 : Int) (w0 w : World) (hI : IsS78 w0 w g s0_0 s0_1 s0_2 s0_3) (hB : Below w0.heap.size w0 w) (h : spec_l01Src_l07Odd.f k s0_0 s0_1 s0_2 s0_3 = some (r1, r2, r3, r4)) :
 Calls Tryd.prog 36 #[.pointer (some ⟨g, 0, none⟩)] w fun e w' => ∃ v0_ : Value, e = .returned (v0_) ∧ Kd.R Kd.string 9 w' w.heap.size (fun _ => True) v0_ r1 ∧ IsS78 w0 w' g s0_0 r2 r3 r4 ∧ Below w0.heap.size w0 w' ∧ KeepBut w w' g none := by
 have HI0 := zA_ hI
 have HK := zA_ (KeepBut.refl w g none)
 have HL := zA_ hB.size
 clear hI
 have HW0 := zA_ hB.size
 have HB := zA_ hB
 clear hB
 have H : ((spec_l01Src_n.f s0_0 s0_1 s0_2 s0_3 5).bind fun bt235 => ((spec_l01Src_l07Image.f k s0_0 bt235.2.1 bt235.2.2.1 bt235.2.2.2 (wrap64 (1 + bt235.1))).bind fun bt239 => ((spec_l01Src_one.f s0_0 bt239.2.1 bt239.2.2.1 bt239.2.2.2 12).bind fun bt245 => (if bt245.1 = true then ((spec_l01Src_n.f s0_0 bt245.2.1 bt245.2.2.1 bt245.2.2.2 3).bind fun bt249 => (if bt249.1 = 0 then ((spec_l01Src_n.f s0_0 bt249.2.1 bt249.2.2.1 bt249.2.2.2 2).bind fun bt253 => ((spec_l01Src_bytes.f k s0_0 bt253.2.1 bt253.2.2.1 bt253.2.2.2 (wrap64 (7 + (wrap64 (2 * bt253.1))))).bind fun bt257 => (if 0 < (bt239.1.length : Int) then (some ((bt239.1.set (0 : Int).toNat bt257.1), bt257.2.1, bt257.2.2.1, bt257.2.2.2)) else (none)))) else (if bt249.1 = 1 then (some (([] : List ByteArray), bt249.2.1, bt249.2.2.1, bt249.2.2.2)) else ((spec_l01Src_n.f s0_0 bt249.2.1 bt249.2.2.1 bt249.2.2.2 2).bind fun bt262 => ((spec_l01Src_l07Image.f k s0_0 bt262.2.1 bt262.2.2.1 bt262.2.2.2 (wrap64 (8 + bt262.1))).bind fun bt266 => (some (bt266.1, bt266.2.1, bt266.2.2.1, bt266.2.2.2))))))) else (some (bt239.1, bt245.2.1, bt245.2.2.1, bt245.2.2.2)))))) = some (r1, r2, r3, r4) := h
 clear h
 replace H := Option.bind_eq_some_iff.mp H
 obtain ⟨⟨t235, t236, t237, t238⟩, A20, H⟩ := H
 replace H : ((spec_l01Src_l07Image.f k s0_0 t236 t237 t238 (wrap64 (1 + t235))).bind fun bt239 => ((spec_l01Src_one.f s0_0 bt239.2.1 bt239.2.2.1 bt239.2.2.2 12).bind fun bt245 => (if bt245.1 = true then ((spec_l01Src_n.f s0_0 bt245.2.1 bt245.2.2.1 bt245.2.2.2 3).bind fun bt249 => (if bt249.1 = 0 then ((spec_l01Src_n.f s0_0 bt249.2.1 bt249.2.2.1 bt249.2.2.2 2).bind fun bt253 => ((spec_l01Src_bytes.f k s0_0 bt253.2.1 bt253.2.2.1 bt253.2.2.2 (wrap64 (7 + (wrap64 (2 * bt253.1))))).bind fun bt257 => (if 0 < (bt239.1.length : Int) then (some ((bt239.1.set (0 : Int).toNat bt257.1), bt257.2.1, bt257.2.2.1, bt257.2.2.2)) else (none)))) else (if bt249.1 = 1 then (some (([] : List ByteArray), bt249.2.1, bt249.2.2.1, bt249.2.2.2)) else ((spec_l01Src_n.f s0_0 bt249.2.1 bt249.2.2.1 bt249.2.2.2 2).bind fun bt262 => ((spec_l01Src_l07Image.f k s0_0 bt262.2.1 bt262.2.2.1 bt262.2.2.2 (wrap64 (8 + bt262.1))).bind fun bt266 => (some (bt266.1, bt266.2.1, bt266.2.2.1, bt266.2.2.2))))))) else (some (bt239.1, bt245.2.1, bt245.2.2.1, bt245.2.2.2))))) = some (r1, r2, r3, r4) := H
 have A2 := zA_ A20
 clear A20
 replace H := Option.bind_eq_some_iff.mp H
 obtain ⟨⟨t239, t242, t243, t244⟩, A30, H⟩ := H
 replace H : ((spec_l01Src_one.f s0_0 t242 t243 t244 12).bind fun bt245 => (if bt245.1 = true then ((spec_l01Src_n.f s0_0 bt245.2.1 bt245.2.2.1 bt245.2.2.2 3).bind fun bt249 => (if bt249.1 = 0 then ((spec_l01Src_n.f s0_0 bt249.2.1 bt249.2.2.1 bt249.2.2.2 2).bind fun bt253 => ((spec_l01Src_bytes.f k s0_0 bt253.2.1 bt253.2.2.1 bt253.2.2.2 (wrap64 (7 + (wrap64 (2 * bt253.1))))).bind fun bt257 => (if 0 < (t239.length : Int) then (some ((t239.set (0 : Int).toNat bt257.1), bt257.2.1, bt257.2.2.1, bt257.2.2.2)) else (none)))) else (if bt249.1 = 1 then (some (([] : List ByteArray), bt249.2.1, bt249.2.2.1, bt249.2.2.2)) else ((spec_l01Src_n.f s0_0 bt249.2.1 bt249.2.2.1 bt249.2.2.2 2).bind fun bt262 => ((spec_l01Src_l07Image.f k s0_0 bt262.2.1 bt262.2.2.1 bt262.2.2.2 (wrap64 (8 + bt262.1))).bind fun bt266 => (some (bt266.1, bt266.2.1, bt266.2.2.1, bt266.2.2.2))))))) else (some (t239, bt245.2.1, bt245.2.2.1, bt245.2.2.2)))) = some (r1, r2, r3, r4) := H
 have A3 := zA_ A30
 clear A30
 replace H := Option.bind_eq_some_iff.mp H
 obtain ⟨⟨t245, t246, t247, t248⟩, A40, H⟩ := H
 replace H : (if t245 = true then ((spec_l01Src_n.f s0_0 t246 t247 t248 3).bind fun bt249 => (if bt249.1 = 0 then ((spec_l01Src_n.f s0_0 bt249.2.1 bt249.2.2.1 bt249.2.2.2 2).bind fun bt253 => ((spec_l01Src_bytes.f k s0_0 bt253.2.1 bt253.2.2.1 bt253.2.2.2 (wrap64 (7 + (wrap64 (2 * bt253.1))))).bind fun bt257 => (if 0 < (t239.length : Int) then (some ((t239.set (0 : Int).toNat bt257.1), bt257.2.1, bt257.2.2.1, bt257.2.2.2)) else (none)))) else (if bt249.1 = 1 then (some (([] : List ByteArray), bt249.2.1, bt249.2.2.1, bt249.2.2.2)) else ((spec_l01Src_n.f s0_0 bt249.2.1 bt249.2.2.1 bt249.2.2.2 2).bind fun bt262 => ((spec_l01Src_l07Image.f k s0_0 bt262.2.1 bt262.2.2.1 bt262.2.2.2 (wrap64 (8 + bt262.1))).bind fun bt266 => (some (bt266.1, bt266.2.1, bt266.2.2.1, bt266.2.2.2))))))) else (some (t239, t246, t247, t248))) = some (r1, r2, r3, r4) := H
 have A4 := zA_ A40
 clear A40
 by_cases c5 : t245 = true
 · subst c5
   have H1 : ((spec_l01Src_n.f s0_0 t246 t247 t248 3).bind fun bt249 => (if bt249.1 = 0 then ((spec_l01Src_n.f s0_0 bt249.2.1 bt249.2.2.1 bt249.2.2.2 2).bind fun bt253 => ((spec_l01Src_bytes.f k s0_0 bt253.2.1 bt253.2.2.1 bt253.2.2.2 (wrap64 (7 + (wrap64 (2 * bt253.1))))).bind fun bt257 => (if 0 < (t239.length : Int) then (some ((t239.set (0 : Int).toNat bt257.1), bt257.2.1, bt257.2.2.1, bt257.2.2.2)) else (none)))) else (if bt249.1 = 1 then (some (([] : List ByteArray), bt249.2.1, bt249.2.2.1, bt249.2.2.2)) else ((spec_l01Src_n.f s0_0 bt249.2.1 bt249.2.2.1 bt249.2.2.2 2).bind fun bt262 => ((spec_l01Src_l07Image.f k s0_0 bt262.2.1 bt262.2.2.1 bt262.2.2.2 (wrap64 (8 + bt262.1))).bind fun bt266 => (some (bt266.1, bt266.2.1, bt266.2.2.1, bt266.2.2.2))))))) = some (r1, r2, r3, r4) := by rw [if_pos rfl] at H; exact H
   clear H
   have H := H1
   clear H1
   replace H := Option.bind_eq_some_iff.mp H
   obtain ⟨⟨t249, t250, t251, t252⟩, A60, H⟩ := H
   replace H : (if t249 = 0 then ((spec_l01Src_n.f s0_0 t250 t251 t252 2).bind fun bt253 => ((spec_l01Src_bytes.f k s0_0 bt253.2.1 bt253.2.2.1 bt253.2.2.2 (wrap64 (7 + (wrap64 (2 * bt253.1))))).bind fun bt257 => (if 0 < (t239.length : Int) then (some ((t239.set (0 : Int).toNat bt257.1), bt257.2.1, bt257.2.2.1, bt257.2.2.2)) else (none)))) else (if t249 = 1 then (some (([] : List ByteArray), t250, t251, t252)) else ((spec_l01Src_n.f s0_0 t250 t251 t252 2).bind fun bt262 => ((spec_l01Src_l07Image.f k s0_0 bt262.2.1 bt262.2.2.1 bt262.2.2.2 (wrap64 (8 + bt262.1))).bind fun bt266 => (some (bt266.1, bt266.2.1, bt266.2.2.1, bt266.2.2.2)))))) = some (r1, r2, r3, r4) := H
   have A6 := zA_ A60
   clear A60
   by_cases c7 : t249 = 0
   · rw [if_pos c7] at H
     have c7b0 : (t249 == 0) = true := beq_iff_eq.mpr c7
     have c7b1 : (t249 != 0) = false := bne_eq_false_iff_eq.mpr c7
     clear c7
     replace H := Option.bind_eq_some_iff.mp H
     obtain ⟨⟨t253, t254, t255, t256⟩, A80, H⟩ := H
     replace H : ((spec_l01Src_bytes.f k s0_0 t254 t255 t256 (wrap64 (7 + (wrap64 (2 * t253))))).bind fun bt257 => (if 0 < (t239.length : Int) then (some ((t239.set (0 : Int).toNat bt257.1), bt257.2.1, bt257.2.2.1, bt257.2.2.2)) else (none))) = some (r1, r2, r3, r4) := H
     have A8 := zA_ A80
     clear A80
     replace H := Option.bind_eq_some_iff.mp H
     obtain ⟨⟨t257, t258, t259, t260⟩, A90, H⟩ := H
     replace H : (if 0 < (t239.length : Int) then (some ((t239.set (0 : Int).toNat t257), t258, t259, t260)) else (none)) = some (r1, r2, r3, r4) := H
     have A9 := zA_ A90
     clear A90
     by_cases c10 : 0 < (t239.length : Int)
     · rw [if_pos c10] at H
       have c10b0 : decide (0 < (t239.length : Int)) = true := decide_eq_true c10
       have c10b1 : decide (0 < t239.length) = true := decide_eq_true (by omega)
       clear c10
       obtain ⟨y261, hy261⟩ : ∃ y_ : List ByteArray, y_ = (t239.set (0 : Int).toNat t257) := ⟨_, rfl⟩
       replace H : (some (y261, t258, t259, t260)) = some (r1, r2, r3, r4) := by first | (rw [hy261]; with_reducible exact H) | (have H2_ := (Option.bind_some _ _).symm.trans H; rw [hy261]; with_reducible exact H2_) | (have H2_ := (Option.bind_some _ _).symm.trans H; with_reducible exact H2_) | with_reducible exact H | (rw [hy261]; exact H) | exact H
       have Ny261 := zA_ hy261
       clear hy261
       simp only [Option.some.injEq, Prod.mk.injEq] at H
       obtain ⟨rfl, rfl, rfl, rfl⟩ := H
       go_enter Tryd.func36, Tryd.ntmps36
       go_wp2_with (first | ((with_reducible refine gate_callee (f := 32) rfl ?_); refine goesL_ (some 6) rfl rfl Tryd.func32 βDa rfl #[.pointer (some ⟨g, 0, none⟩), .int .i64 5] rfl zs_ ?_; (with_reducible refine (spec_l01Src_n.calls g s0_0 s0_1 s0_2 s0_3 5 t235 t236 t237 t238 w0 _ ?side1 ?side2 A2.out).mono ?_); (case side1 => exact βA); (case side2 => exact βH); rintro e w12 ⟨rfl, hi, hb, hk⟩; refine ⟨_, rfl, ?_⟩; have n0_ := zA_ (KeepBut.trans βja hk (.inl rfl)); have n1_ := zA_ (hb); have n2_ := zA_ (hi); clear HK HB HI0; have HK := n0_; have HB := n1_; have HI0 := n2_; clear n0_ n1_ n2_; (try clear hb); (try clear hb2); (try clear hk); (try clear hi)) | ((with_reducible refine gate_callee (f := 63) rfl ?_); refine goesL_ (some 8) rfl rfl Tryd.func63 βDa rfl #[.pointer (some ⟨g, 0, none⟩), .int .i64 (wrap64 (1 + t235))] rfl zs_ ?_; (with_reducible refine (spec_l01Src_l07Image.calls k g s0_0 t236 t237 t238 (wrap64 (1 + t235)) t239 t242 t243 t244 w0 _ ?side1 ?side2 A3.out).mono ?_); (case side1 => exact βA); (case side2 => exact βH); rintro e w13 ⟨v240, rfl, ho0, hi, hb, hk⟩; refine ⟨_, rfl, ?_⟩; have n0_ := zA_ (Kd.R_lower ho0 (keep_size (w := w) (g := g) (row := none) βja)); have n1_ := zA_ (KeepBut.trans βja hk (.inl rfl)); have n2_ := zA_ (hb); have n3_ := zA_ (hi); clear HK HB HI0; have HO241 := n0_; have HK := n1_; have HB := n2_; have HI0 := n3_; clear n0_ n1_ n2_ n3_; (try clear hb); (try clear hb2); (try clear hk); (try clear hi); (try clear ho0)) | ((with_reducible refine gate_callee (f := 42) rfl ?_); refine goesL_ (some 10) rfl rfl Tryd.func42 βDa rfl #[.pointer (some ⟨g, 0, none⟩), .int .i64 12] rfl zs_ ?_; (with_reducible refine (spec_l01Src_one.calls g s0_0 t242 t243 t244 12 true t246 t247 t248 w0 _ ?side1 ?side2 A4.out).mono ?_); (case side1 => exact βA); (case side2 => exact βH); rintro e w14 ⟨rfl, hi, hb, hk⟩; refine ⟨_, rfl, ?_⟩; have n0_ := zA_ (Kd.R_mono (Kd.R_keep (IsS78.apart (show IsS78 w0 _ g s0_0 t242 t243 t244 from by repeat (first | (with_reducible first | exact HI0.out | apply IsS78.alloc | apply IsS78.drewN | apply IsS78.drew | apply IsS78.set_1 | apply IsS78.set_2 | apply IsS78.set_3) | exact HI0.out)) (zr_ HO241.out) (by decide)) hk (fun _ h => h.2)) (fun _ h => h.1)); have n1_ := zA_ (KeepBut.trans βja hk (.inl rfl)); have n2_ := zA_ (hb); have n3_ := zA_ (hi); clear HO241 HK HB HI0; have HO241 := n0_; have HK := n1_; have HB := n2_; have HI0 := n3_; clear n0_ n1_ n2_ n3_; (try clear hb); (try clear hb2); (try clear hk); (try clear hi)) | ((with_reducible refine gate_callee (f := 32) rfl ?_); refine goesL_ (some 12) rfl rfl Tryd.func32 βDa rfl #[.pointer (some ⟨g, 0, none⟩), .int .i64 3] rfl zs_ ?_; (with_reducible refine (spec_l01Src_n.calls g s0_0 t246 t247 t248 3 t249 t250 t251 t252 w0 _ ?side1 ?side2 A6.out).mono ?_); (case side1 => exact βA); (case side2 => exact βH); rintro e w15 ⟨rfl, hi, hb, hk⟩; refine ⟨_, rfl, ?_⟩; have n0_ := zA_ (Kd.R_mono (Kd.R_keep (IsS78.apart (show IsS78 w0 _ g s0_0 t246 t247 t248 from by repeat (first | (with_reducible first | exact HI0.out | apply IsS78.alloc | apply IsS78.drewN | apply IsS78.drew | apply IsS78.set_1 | apply IsS78.set_2 | apply IsS78.set_3) | exact HI0.out)) (zr_ HO241.out) (by decide)) hk (fun _ h => h.2)) (fun _ h => h.1)); have n1_ := zA_ (KeepBut.trans βja hk (.inl rfl)); have n2_ := zA_ (hb); have n3_ := zA_ (hi); clear HO241 HK HB HI0; have HO241 := n0_; have HK := n1_; have HB := n2_; have HI0 := n3_; clear n0_ n1_ n2_ n3_; (try clear hb); (try clear hb2); (try clear hk); (try clear hi)) | ((with_reducible refine gate_callee (f := 32) rfl ?_); refine goesL_ (some 23) rfl rfl Tryd.func32 βDa rfl #[.pointer (some ⟨g, 0, none⟩), .int .i64 2] rfl zs_ ?_; (with_reducible refine (spec_l01Src_n.calls g s0_0 t250 t251 t252 2 t253 t254 t255 t256 w0 _ ?side1 ?side2 A8.out).mono ?_); (case side1 => exact βA); (case side2 => exact βH); rintro e w16 ⟨rfl, hi, hb, hk⟩; refine ⟨_, rfl, ?_⟩; have n0_ := zA_ (Kd.R_mono (Kd.R_keep (IsS78.apart (show IsS78 w0 _ g s0_0 t250 t251 t252 from by repeat (first | (with_reducible first | exact HI0.out | apply IsS78.alloc | apply IsS78.drewN | apply IsS78.drew | apply IsS78.set_1 | apply IsS78.set_2 | apply IsS78.set_3) | exact HI0.out)) (zr_ HO241.out) (by decide)) hk (fun _ h => h.2)) (fun _ h => h.1)); have n1_ := zA_ (KeepBut.trans βja hk (.inl rfl)); have n2_ := zA_ (hb); have n3_ := zA_ (hi); clear HO241 HK HB HI0; have HO241 := n0_; have HK := n1_; have HB := n2_; have HI0 := n3_; clear n0_ n1_ n2_ n3_; (try clear hb); (try clear hb2); (try clear hk); (try clear hi)) | ((with_reducible refine gate_callee (f := 31) rfl ?_); refine goesL_ (some 26) rfl rfl Tryd.func31 βDa rfl #[.pointer (some ⟨g, 0, none⟩), .int .i64 (wrap64 (7 + (wrap64 (2 * t253))))] rfl zs_ ?_; (with_reducible refine (spec_l01Src_bytes.calls k g s0_0 t254 t255 t256 (wrap64 (7 + (wrap64 (2 * t253)))) t257 t258 t259 t260 w0 _ ?side1 ?side2 A9.out).mono ?_); (case side1 => exact βA); (case side2 => exact βH); rintro e w17 ⟨rfl, hi, hb, hk⟩; refine ⟨_, rfl, ?_⟩; have n0_ := zA_ (Kd.R_mono (Kd.R_keep (IsS78.apart (show IsS78 w0 _ g s0_0 t254 t255 t256 from by repeat (first | (with_reducible first | exact HI0.out | apply IsS78.alloc | apply IsS78.drewN | apply IsS78.drew | apply IsS78.set_1 | apply IsS78.set_2 | apply IsS78.set_3) | exact HI0.out)) (zr_ HO241.out) (by decide)) hk (fun _ h => h.2)) (fun _ h => h.1)); have n1_ := zA_ (KeepBut.trans βja hk (.inl rfl)); have n2_ := zA_ (hb); have n3_ := zA_ (hi); clear HO241 HK HB HI0; have HO241 := n0_; have HK := n1_; have HB := n2_; have HI0 := n3_; clear n0_ n1_ n2_ n3_; (try clear hb); (try clear hb2); (try clear hk); (try clear hi); have p11 : 0 ≤ (0 : Int) := (by omega); have q11 : (0 : Int) < ((t239.length : Int) : Int) := of_decide_eq_true βxa; have qi11 : (0 < t239.length) = True := eq_true (by omega); obtain ⟨go11, co11, eo11, gb11, gl11, cl11, HG11⟩ := Kd.R_form HO241.out (by omega); (first | cases eo11 | (injection eo11 with ea_ en_ ec_; (first | subst ea_ | (injection ea_ with ea_; subst ea_)); subst ec_; clear en_)); have GB11 := zA_ gb11; have GG11 := zA_ HG11; clear gb11 gl11 HG11; obtain ⟨hx11_0, hf11_0⟩ := Kd.R_celln (⟨#[]⟩ : ByteArray) HO241.out (0 : Int) p11 q11; (try rw [show ((0 : Int)).toNat = 0 from rfl] at hx11_0); (try simp only [Nat.reduceMul, Nat.zero_mul, Nat.zero_add, Nat.reduceAdd] at hx11_0); (try rw [show ((0 : Int)).toNat = 0 from rfl] at hf11_0); (try simp only [Nat.reduceMul, Nat.zero_mul, Nat.zero_add, Nat.reduceAdd] at hf11_0); replace p11 := eq_true p11; replace q11 := eq_true q11; obtain ⟨hy18_, hz18_⟩ := Kd.R_celln (⟨#[]⟩ : ByteArray) HO241.out (0 : Int) (by omega) (of_decide_eq_true βxa); (try simp only [Int.reduceToNat, Int.toNat_zero, Int.toNat_ofNat, Nat.reduceMul, Nat.zero_mul, Nat.zero_add] at hy18_ hz18_); (try rw [show ((0 : Int)).toNat = 0 from rfl] at hy18_); (try rw [show ((0 : Int)).toNat = 0 from rfl] at hz18_); have HP18 := Kd.R_putg HO241.out (0 : Int) t257) | ((with_reducible refine gate_store (t := 9) (p := 27) rfl ?_); refine store_event (t := 9) (p := 27) (v := ?vo_w19) (w1 := (w17.setCell ⟨go11, (0 : Int).toNat, none⟩ (.string t257))) ?hg ?ho ?hn ?hr ?_; (case ho => exact (by rfl)); (case hg => exact (by rfl)); (case hn => exact (by rfl)); (case hr => exact (by first | (go_simp; done) | (go_simp; rfl) | (have hq_ := HQ_.out; subst hq_; go_simp; done) | (have hq_ := HQ_.out; subst hq_; go_simp; rfl))); intro w19 hw; have hg : w17.grownBy w19 (some go11) := (by rw [hw]; exact HP18.2); have hp_ : Kd.R Kd.string 9 w19 w.heap.size (fun _ => True) (.slice (some ⟨go11, 0, none⟩) t239.length co11) y261 := (by rw [hw, Ny261.out]; exact HP18.1); clear HP18; have n0_ := zA_ (IsS78.grown βA hg (IsS78.own_ne HI0.out HO241.out (by decide))); have n1_ := zA_ (hp_); have n2_ := zA_ ((by rw [hw]; exact below_set (HB.out) (Nat.le_trans HL.out GB11.out) : Below w0.heap.size w0 w19)); have n3_ := zA_ (KeepBut.trans βja (KeepBut.of_grown hg g) (Kd.R_base2 HO241.out)); clear HI0 HO241 HB HK; have HI0 := n0_; have HO241 := n1_; have HB := n2_; have HK := n3_; clear n0_ n1_ n2_ n3_; clear hg hw hp_))
       go_ret
       exact ⟨_, βsa, (by (with_reducible repeat (first | apply Kd.R_alloc | apply Kd.R_drewN | apply Kd.R_drew)); exact HO241.out), βA, βH, βja⟩
     · rw [if_neg c10] at H
       exact absurd H (by simp)
   · rw [if_neg c7] at H
     have c7b0 : (t249 == 0) = false := beq_eq_false_iff_ne.mpr c7
     have c7b1 : (t249 != 0) = true := bne_iff_ne.mpr c7
     by_cases c20 : t249 = 1
     · rw [if_pos c20] at H
       have c20b0 : (t249 == 1) = true := beq_iff_eq.mpr c20
       have c20b1 : (t249 != 1) = false := bne_eq_false_iff_eq.mpr c20
       clear c20
       simp only [Option.some.injEq, Prod.mk.injEq] at H
       obtain ⟨rfl, rfl, rfl, rfl⟩ := H
       go_enter Tryd.func36, Tryd.ntmps36
       go_wp2_with (first | ((with_reducible refine gate_callee (f := 32) rfl ?_); refine goesL_ (some 6) rfl rfl Tryd.func32 βDa rfl #[.pointer (some ⟨g, 0, none⟩), .int .i64 5] rfl zs_ ?_; (with_reducible refine (spec_l01Src_n.calls g s0_0 s0_1 s0_2 s0_3 5 t235 t236 t237 t238 w0 _ ?side1 ?side2 A2.out).mono ?_); (case side1 => exact βA); (case side2 => exact βH); rintro e w21 ⟨rfl, hi, hb, hk⟩; refine ⟨_, rfl, ?_⟩; have n0_ := zA_ (KeepBut.trans βja hk (.inl rfl)); have n1_ := zA_ (hb); have n2_ := zA_ (hi); clear HK HB HI0; have HK := n0_; have HB := n1_; have HI0 := n2_; clear n0_ n1_ n2_; (try clear hb); (try clear hb2); (try clear hk); (try clear hi)) | ((with_reducible refine gate_callee (f := 63) rfl ?_); refine goesL_ (some 8) rfl rfl Tryd.func63 βDa rfl #[.pointer (some ⟨g, 0, none⟩), .int .i64 (wrap64 (1 + t235))] rfl zs_ ?_; (with_reducible refine (spec_l01Src_l07Image.calls k g s0_0 t236 t237 t238 (wrap64 (1 + t235)) t239 t242 t243 t244 w0 _ ?side1 ?side2 A3.out).mono ?_); (case side1 => exact βA); (case side2 => exact βH); rintro e w22 ⟨v240, rfl, ho0, hi, hb, hk⟩; refine ⟨_, rfl, ?_⟩; have n0_ := zA_ (Kd.R_lower ho0 (keep_size (w := w) (g := g) (row := none) βja)); have n1_ := zA_ (KeepBut.trans βja hk (.inl rfl)); have n2_ := zA_ (hb); have n3_ := zA_ (hi); clear HK HB HI0; have HO241 := n0_; have HK := n1_; have HB := n2_; have HI0 := n3_; clear n0_ n1_ n2_ n3_; (try clear hb); (try clear hb2); (try clear hk); (try clear hi); (try clear ho0)) | ((with_reducible refine gate_callee (f := 42) rfl ?_); refine goesL_ (some 10) rfl rfl Tryd.func42 βDa rfl #[.pointer (some ⟨g, 0, none⟩), .int .i64 12] rfl zs_ ?_; (with_reducible refine (spec_l01Src_one.calls g s0_0 t242 t243 t244 12 true t246 t247 t248 w0 _ ?side1 ?side2 A4.out).mono ?_); (case side1 => exact βA); (case side2 => exact βH); rintro e w23 ⟨rfl, hi, hb, hk⟩; refine ⟨_, rfl, ?_⟩; have n0_ := zA_ (Kd.R_mono (Kd.R_keep (IsS78.apart (show IsS78 w0 _ g s0_0 t242 t243 t244 from by repeat (first | (with_reducible first | exact HI0.out | apply IsS78.alloc | apply IsS78.drewN | apply IsS78.drew | apply IsS78.set_1 | apply IsS78.set_2 | apply IsS78.set_3) | exact HI0.out)) (zr_ HO241.out) (by decide)) hk (fun _ h => h.2)) (fun _ h => h.1)); have n1_ := zA_ (KeepBut.trans βja hk (.inl rfl)); have n2_ := zA_ (hb); have n3_ := zA_ (hi); clear HO241 HK HB HI0; have HO241 := n0_; have HK := n1_; have HB := n2_; have HI0 := n3_; clear n0_ n1_ n2_ n3_; (try clear hb); (try clear hb2); (try clear hk); (try clear hi)) | ((with_reducible refine gate_callee (f := 32) rfl ?_); refine goesL_ (some 12) rfl rfl Tryd.func32 βDa rfl #[.pointer (some ⟨g, 0, none⟩), .int .i64 3] rfl zs_ ?_; (with_reducible refine (spec_l01Src_n.calls g s0_0 t246 t247 t248 3 t249 t250 t251 t252 w0 _ ?side1 ?side2 A6.out).mono ?_); (case side1 => exact βA); (case side2 => exact βH); rintro e w24 ⟨rfl, hi, hb, hk⟩; refine ⟨_, rfl, ?_⟩; have n0_ := zA_ (Kd.R_mono (Kd.R_keep (IsS78.apart (show IsS78 w0 _ g s0_0 t246 t247 t248 from by repeat (first | (with_reducible first | exact HI0.out | apply IsS78.alloc | apply IsS78.drewN | apply IsS78.drew | apply IsS78.set_1 | apply IsS78.set_2 | apply IsS78.set_3) | exact HI0.out)) (zr_ HO241.out) (by decide)) hk (fun _ h => h.2)) (fun _ h => h.1)); have n1_ := zA_ (KeepBut.trans βja hk (.inl rfl)); have n2_ := zA_ (hb); have n3_ := zA_ (hi); clear HO241 HK HB HI0; have HO241 := n0_; have HK := n1_; have HB := n2_; have HI0 := n3_; clear n0_ n1_ n2_ n3_; (try clear hb); (try clear hb2); (try clear hk); (try clear hi)))
       go_ret
       exact ⟨_, βsa, βka, βA, βH, βja⟩
     · rw [if_neg c20] at H
       have c20b0 : (t249 == 1) = false := beq_eq_false_iff_ne.mpr c20
       have c20b1 : (t249 != 1) = true := bne_iff_ne.mpr c20
       replace H := Option.bind_eq_some_iff.mp H
       obtain ⟨⟨t262, t263, t264, t265⟩, A250, H⟩ := H
       replace H : ((spec_l01Src_l07Image.f k s0_0 t263 t264 t265 (wrap64 (8 + t262))).bind fun bt266 => (some (bt266.1, bt266.2.1, bt266.2.2.1, bt266.2.2.2))) = some (r1, r2, r3, r4) := H
       have A25 := zA_ A250
       clear A250
       replace H := Option.bind_eq_some_iff.mp H
       obtain ⟨⟨t266, t269, t270, t271⟩, A260, H⟩ := H
       replace H : (some (t266, t269, t270, t271)) = some (r1, r2, r3, r4) := H
       have A26 := zA_ A260
       clear A260
       simp only [Option.some.injEq, Prod.mk.injEq] at H
       obtain ⟨rfl, rfl, rfl, rfl⟩ := H
       go_enter Tryd.func36, Tryd.ntmps36
       go_wp2_with (first | ((with_reducible refine gate_callee (f := 32) rfl ?_); refine goesL_ (some 6) rfl rfl Tryd.func32 βDa rfl #[.pointer (some ⟨g, 0, none⟩), .int .i64 5] rfl zs_ ?_; (with_reducible refine (spec_l01Src_n.calls g s0_0 s0_1 s0_2 s0_3 5 t235 t236 t237 t238 w0 _ ?side1 ?side2 A2.out).mono ?_); (case side1 => exact βA); (case side2 => exact βH); rintro e w27 ⟨rfl, hi, hb, hk⟩; refine ⟨_, rfl, ?_⟩; have n0_ := zA_ (KeepBut.trans βja hk (.inl rfl)); have n1_ := zA_ (hb); have n2_ := zA_ (hi); clear HK HB HI0; have HK := n0_; have HB := n1_; have HI0 := n2_; clear n0_ n1_ n2_; (try clear hb); (try clear hb2); (try clear hk); (try clear hi)) | ((with_reducible refine gate_callee (f := 63) rfl ?_); refine goesL_ (some 8) rfl rfl Tryd.func63 βDa rfl #[.pointer (some ⟨g, 0, none⟩), .int .i64 (wrap64 (1 + t235))] rfl zs_ ?_; (with_reducible refine (spec_l01Src_l07Image.calls k g s0_0 t236 t237 t238 (wrap64 (1 + t235)) t239 t242 t243 t244 w0 _ ?side1 ?side2 A3.out).mono ?_); (case side1 => exact βA); (case side2 => exact βH); rintro e w28 ⟨v240, rfl, ho0, hi, hb, hk⟩; refine ⟨_, rfl, ?_⟩; have n0_ := zA_ (Kd.R_lower ho0 (keep_size (w := w) (g := g) (row := none) βja)); have n1_ := zA_ (KeepBut.trans βja hk (.inl rfl)); have n2_ := zA_ (hb); have n3_ := zA_ (hi); clear HK HB HI0; have HO241 := n0_; have HK := n1_; have HB := n2_; have HI0 := n3_; clear n0_ n1_ n2_ n3_; (try clear hb); (try clear hb2); (try clear hk); (try clear hi); (try clear ho0)) | ((with_reducible refine gate_callee (f := 42) rfl ?_); refine goesL_ (some 10) rfl rfl Tryd.func42 βDa rfl #[.pointer (some ⟨g, 0, none⟩), .int .i64 12] rfl zs_ ?_; (with_reducible refine (spec_l01Src_one.calls g s0_0 t242 t243 t244 12 true t246 t247 t248 w0 _ ?side1 ?side2 A4.out).mono ?_); (case side1 => exact βA); (case side2 => exact βH); rintro e w29 ⟨rfl, hi, hb, hk⟩; refine ⟨_, rfl, ?_⟩; have n0_ := zA_ (Kd.R_mono (Kd.R_keep (IsS78.apart (show IsS78 w0 _ g s0_0 t242 t243 t244 from by repeat (first | (with_reducible first | exact HI0.out | apply IsS78.alloc | apply IsS78.drewN | apply IsS78.drew | apply IsS78.set_1 | apply IsS78.set_2 | apply IsS78.set_3) | exact HI0.out)) (zr_ HO241.out) (by decide)) hk (fun _ h => h.2)) (fun _ h => h.1)); have n1_ := zA_ (KeepBut.trans βja hk (.inl rfl)); have n2_ := zA_ (hb); have n3_ := zA_ (hi); clear HO241 HK HB HI0; have HO241 := n0_; have HK := n1_; have HB := n2_; have HI0 := n3_; clear n0_ n1_ n2_ n3_; (try clear hb); (try clear hb2); (try clear hk); (try clear hi)) | ((with_reducible refine gate_callee (f := 32) rfl ?_); refine goesL_ (some 12) rfl rfl Tryd.func32 βDa rfl #[.pointer (some ⟨g, 0, none⟩), .int .i64 3] rfl zs_ ?_; (with_reducible refine (spec_l01Src_n.calls g s0_0 t246 t247 t248 3 t249 t250 t251 t252 w0 _ ?side1 ?side2 A6.out).mono ?_); (case side1 => exact βA); (case side2 => exact βH); rintro e w30 ⟨rfl, hi, hb, hk⟩; refine ⟨_, rfl, ?_⟩; have n0_ := zA_ (Kd.R_mono (Kd.R_keep (IsS78.apart (show IsS78 w0 _ g s0_0 t246 t247 t248 from by repeat (first | (with_reducible first | exact HI0.out | apply IsS78.alloc | apply IsS78.drewN | apply IsS78.drew | apply IsS78.set_1 | apply IsS78.set_2 | apply IsS78.set_3) | exact HI0.out)) (zr_ HO241.out) (by decide)) hk (fun _ h => h.2)) (fun _ h => h.1)); have n1_ := zA_ (KeepBut.trans βja hk (.inl rfl)); have n2_ := zA_ (hb); have n3_ := zA_ (hi); clear HO241 HK HB HI0; have HO241 := n0_; have HK := n1_; have HB := n2_; have HI0 := n3_; clear n0_ n1_ n2_ n3_; (try clear hb); (try clear hb2); (try clear hk); (try clear hi)) | ((with_reducible refine gate_callee (f := 32) rfl ?_); refine goesL_ (some 15) rfl rfl Tryd.func32 βDa rfl #[.pointer (some ⟨g, 0, none⟩), .int .i64 2] rfl zs_ ?_; (with_reducible refine (spec_l01Src_n.calls g s0_0 t250 t251 t252 2 t262 t263 t264 t265 w0 _ ?side1 ?side2 A25.out).mono ?_); (case side1 => exact βA); (case side2 => exact βH); rintro e w31 ⟨rfl, hi, hb, hk⟩; refine ⟨_, rfl, ?_⟩; have n0_ := zA_ (Kd.R_mono (Kd.R_keep (IsS78.apart (show IsS78 w0 _ g s0_0 t250 t251 t252 from by repeat (first | (with_reducible first | exact HI0.out | apply IsS78.alloc | apply IsS78.drewN | apply IsS78.drew | apply IsS78.set_1 | apply IsS78.set_2 | apply IsS78.set_3) | exact HI0.out)) (zr_ HO241.out) (by decide)) hk (fun _ h => h.2)) (fun _ h => h.1)); have n1_ := zA_ (KeepBut.trans βja hk (.inl rfl)); have n2_ := zA_ (hb); have n3_ := zA_ (hi); clear HO241 HK HB HI0; have HO241 := n0_; have HK := n1_; have HB := n2_; have HI0 := n3_; clear n0_ n1_ n2_ n3_; (try clear hb); (try clear hb2); (try clear hk); (try clear hi)) | ((with_reducible refine gate_callee (f := 63) rfl ?_); refine goesL_ (some 17) rfl rfl Tryd.func63 βDa rfl #[.pointer (some ⟨g, 0, none⟩), .int .i64 (wrap64 (8 + t262))] rfl zs_ ?_; (with_reducible refine (spec_l01Src_l07Image.calls k g s0_0 t263 t264 t265 (wrap64 (8 + t262)) t266 t269 t270 t271 w0 _ ?side1 ?side2 A26.out).mono ?_); (case side1 => exact βA); (case side2 => exact βH); rintro e w32 ⟨v267, rfl, ho0, hi, hb, hk⟩; refine ⟨_, rfl, ?_⟩; have n0_ := zA_ (Kd.R_mono (Kd.R_told (Kd.R_oldK (IsS78.apart (show IsS78 w0 _ g s0_0 t263 t264 t265 from by repeat (first | (with_reducible first | exact HI0.out | apply IsS78.alloc | apply IsS78.drewN | apply IsS78.drew | apply IsS78.set_1 | apply IsS78.set_2 | apply IsS78.set_3) | exact HI0.out)) (zr_ HO241.out) (by decide)) hk) (Kd.R_base ho0)) (fun _ h_ => h_.1)); have n1_ := zA_ (Kd.R_lower (Kd.R_new' ho0 (Kd.R_lt (zr_ HO241.out))) (keep_size (w := w) (g := g) (row := none) βja)); have n2_ := zA_ (KeepBut.trans βja hk (.inl rfl)); have n3_ := zA_ (hb); have n4_ := zA_ (hi); clear HO241 HK HB HI0; have HO241 := n0_; have HO268 := n1_; have HK := n2_; have HB := n3_; have HI0 := n4_; clear n0_ n1_ n2_ n3_ n4_; (try clear hb); (try clear hb2); (try clear hk); (try clear hi); (try clear ho0)))
       go_ret
       exact ⟨_, βsa, (by (with_reducible repeat (first | apply Kd.R_alloc | apply Kd.R_drewN | apply Kd.R_drew)); exact Kd.R_mono HO268.out (fun _ hk => trivial)), βA, βH, βja⟩
 · replace c5 := Bool.eq_false_iff.mpr c5
   subst c5
   have H1 : (some (t239, t246, t247, t248)) = some (r1, r2, r3, r4) := by rw [if_neg (show ¬ (false = true) by decide)] at H; exact H
   clear H
   have H := H1
   clear H1
   simp only [Option.some.injEq, Prod.mk.injEq] at H
   obtain ⟨rfl, rfl, rfl, rfl⟩ := H
   go_enter Tryd.func36, Tryd.ntmps36
   go_wp2_with (first | ((with_reducible refine gate_callee (f := 32) rfl ?_); refine goesL_ (some 6) rfl rfl Tryd.func32 βDa rfl #[.pointer (some ⟨g, 0, none⟩), .int .i64 5] rfl zs_ ?_; (with_reducible refine (spec_l01Src_n.calls g s0_0 s0_1 s0_2 s0_3 5 t235 t236 t237 t238 w0 _ ?side1 ?side2 A2.out).mono ?_); (case side1 => exact βA); (case side2 => exact βH); rintro e w33 ⟨rfl, hi, hb, hk⟩; refine ⟨_, rfl, ?_⟩; have n0_ := zA_ (KeepBut.trans βja hk (.inl rfl)); have n1_ := zA_ (hb); have n2_ := zA_ (hi); clear HK HB HI0; have HK := n0_; have HB := n1_; have HI0 := n2_; clear n0_ n1_ n2_; (try clear hb); (try clear hb2); (try clear hk); (try clear hi)) | ((with_reducible refine gate_callee (f := 63) rfl ?_); refine goesL_ (some 8) rfl rfl Tryd.func63 βDa rfl #[.pointer (some ⟨g, 0, none⟩), .int .i64 (wrap64 (1 + t235))] rfl zs_ ?_; (with_reducible refine (spec_l01Src_l07Image.calls k g s0_0 t236 t237 t238 (wrap64 (1 + t235)) t239 t242 t243 t244 w0 _ ?side1 ?side2 A3.out).mono ?_); (case side1 => exact βA); (case side2 => exact βH); rintro e w34 ⟨v240, rfl, ho0, hi, hb, hk⟩; refine ⟨_, rfl, ?_⟩; have n0_ := zA_ (Kd.R_lower ho0 (keep_size (w := w) (g := g) (row := none) βja)); have n1_ := zA_ (KeepBut.trans βja hk (.inl rfl)); have n2_ := zA_ (hb); have n3_ := zA_ (hi); clear HK HB HI0; have HO241 := n0_; have HK := n1_; have HB := n2_; have HI0 := n3_; clear n0_ n1_ n2_ n3_; (try clear hb); (try clear hb2); (try clear hk); (try clear hi); (try clear ho0)) | ((with_reducible refine gate_callee (f := 42) rfl ?_); refine goesL_ (some 10) rfl rfl Tryd.func42 βDa rfl #[.pointer (some ⟨g, 0, none⟩), .int .i64 12] rfl zs_ ?_; (with_reducible refine (spec_l01Src_one.calls g s0_0 t242 t243 t244 12 false t246 t247 t248 w0 _ ?side1 ?side2 A4.out).mono ?_); (case side1 => exact βA); (case side2 => exact βH); rintro e w35 ⟨rfl, hi, hb, hk⟩; refine ⟨_, rfl, ?_⟩; have n0_ := zA_ (Kd.R_mono (Kd.R_keep (IsS78.apart (show IsS78 w0 _ g s0_0 t242 t243 t244 from by repeat (first | (with_reducible first | exact HI0.out | apply IsS78.alloc | apply IsS78.drewN | apply IsS78.drew | apply IsS78.set_1 | apply IsS78.set_2 | apply IsS78.set_3) | exact HI0.out)) (zr_ HO241.out) (by decide)) hk (fun _ h => h.2)) (fun _ h => h.1)); have n1_ := zA_ (KeepBut.trans βja hk (.inl rfl)); have n2_ := zA_ (hb); have n3_ := zA_ (hi); clear HO241 HK HB HI0; have HO241 := n0_; have HK := n1_; have HB := n2_; have HI0 := n3_; clear n0_ n1_ n2_ n3_; (try clear hb); (try clear hb2); (try clear hk); (try clear hi)))
   go_ret
   exact ⟨_, βsa, (by (with_reducible repeat (first | apply Kd.R_alloc | apply Kd.R_drewN | apply Kd.R_drew)); exact HO241.out), βA, βH, βja⟩
end Go.Proofs.YtldhjbjbjoomcaaDoor.Q
namespace Go.Proofs.YtldhjbjbjoomcaaDoor.Pure
set_option linter.unusedVariables false
set_option linter.unusedSimpArgs false
open Go Go.RowKit Go.Proofs.YtldhjbjbjoomcaaDoor.Q Go.Proofs.YtldhjbjbjoomcaaDoorW.PrintWords Go.Proofs.YtldhjbjbjoomcaaDoorW.PrintLast Go.Proofs.YtldhjbjbjoomcaaDoorW.PrintMore
theorem draw_data (b : List Int) (i m s : Int) (h : St b i) : ∃ r i' m', spec_l01Src_l06Data.f b i m s = some (r, i', m', s) ∧ St b i' := by
  unfold spec_l01Src_l06Data.f spec_l01Src_pick.f
  generalize hL : ([(⟨#[97, 97, 97, 97, 97, 97, 97, 97]⟩ : ByteArray), (⟨#[97, 98, 97, 98, 97, 98, 97, 98]⟩ : ByteArray), (⟨#[104, 101, 108, 108, 111, 32, 32, 33]⟩ : ByteArray), (⟨#[0, 0, 0, 0, 0, 0, 0, 0]⟩ : ByteArray), (⟨#[0, 0, 0, 1, 0, 0, 0, 0]⟩ : ByteArray)] : List ByteArray) = L
  have hl : (L.length : Int) = 5 := by subst hL; rfl
  obtain ⟨r, i', m', e, h', c0, _, c1⟩ := draw_n b i m s (L.length : Int) h (by omega)
  have c1 := c1 (by omega)
  rw [e]
  simp only [Option.bind_some, if_pos c0, if_pos c1]
  exact ⟨_, _, _, rfl, h'⟩
theorem draw_image_l0 (b : List Int) (s : Int) (d : Nat) : ∀ (acc : List ByteArray) (i m : Int), d + acc.length ≤ 1000 → St b i → ∃ r i' m', Ev (fun k => spec_l01Src_l07Image.l0 k (d : Int) acc b i m s) (r, i', m', s) ∧ St b i' ∧ r.length = acc.length + d := by
  induction d with
  | zero =>
    intro acc i m _ hs
    exact ⟨acc, i, m, Ev.step (fun k => by rw [spec_l01Src_l07Image.l0, if_neg (by omega)]) (Ev.now _), hs, rfl⟩
  | succ d ih =>
    intro acc i m hl hs
    obtain ⟨r, i', m', e, h'⟩ := draw_data b i m s hs
    obtain ⟨r2, i2, m2, e2, h2, l2⟩ := ih (acc ++ [r]) i' m' (by simp; omega) h'
    refine ⟨r2, i2, m2, Ev.step (fun k => by rw [spec_l01Src_l07Image.l0, if_pos (by omega), e, wrap64_id (by omega) (by omega)]) ?_, h2, by rw [l2, List.length_append, List.length_singleton]; omega⟩
    simp only [Option.bind_some, if_pos (show acc.length < 8796093022208 by omega)]
    rw [show ((d + 1 : Nat) : Int) - 1 = (d : Int) by omega]
    exact e2
theorem draw_image (b : List Int) (i m s n : Int) (h0 : 0 ≤ n) (h1 : n ≤ 1000) (hs : St b i) : ∃ r i' m', Ev (fun k => spec_l01Src_l07Image.f k b i m s n) (r, i', m', s) ∧ St b i' ∧ (r.length : Int) = n := by
  unfold spec_l01Src_l07Image.f
  obtain ⟨r, i', m', e, h', l⟩ := draw_image_l0 b s n.toNat [] i m (by simp; omega) hs
  rw [Int.toNat_of_nonneg h0] at e
  exact ⟨r, i', m', e, h', by rw [l]; simp; omega⟩
theorem draw_odd (b : List Int) (i m s : Int) (hs : St b i) : ∃ r i' m', Ev (fun k => spec_l01Src_l07Odd.f k b i m s) (r, i', m', s) ∧ St b i' ∧ r.length ≤ 9 := by
  unfold spec_l01Src_l07Odd.f
  obtain ⟨r1, i1, m1, e1, s1, a1, _, c1⟩ := draw_n b i m s 5 hs (by omega)
  have c1 := c1 (by omega)
  simp only [e1, Option.bind_some]
  rw [wrap64_id (n := 1 + r1) (by omega) (by omega)]
  obtain ⟨r2, i2, m2, e2, s2, l2⟩ := draw_image b i1 m1 s (1 + r1) (by omega) (by omega) s1
  obtain ⟨r3, i3, m3, e3, s3⟩ := draw_one b i2 m2 s 12 s2 (by omega)
  obtain ⟨r4, i4, m4, e4, s4, _⟩ := draw_n b i3 m3 s 3 s3 (by omega)
  obtain ⟨r5, i5, m5, e5, s5, a5, _, c5⟩ := draw_n b i4 m4 s 2 s4 (by omega)
  have c5 := c5 (by omega)
  obtain ⟨r6, i6, m6, e6, s6, _⟩ := draw_bytes b i5 m5 s (7 + 2 * r5) (by omega) (by omega) s5
  obtain ⟨r7, i7, m7, e7, s7, l7⟩ := draw_image b i5 m5 s (8 + r5) (by omega) (by omega) s5
  by_cases g1 : r3 = true
  · by_cases g2 : r4 = 0
    · refine ⟨r2.set (0 : Int).toNat r6, i6, m6, Ev.bind e2 ?_, s6, by rw [List.length_set]; omega⟩
      simp only [e3, Option.bind_some, if_pos g1, e4, if_pos g2, e5]
      rw [wrap64_id (n := 2 * r5) (by omega) (by omega), wrap64_id (n := 7 + 2 * r5) (by omega) (by omega)]
      refine Ev.bind e6 ?_
      simp only [if_pos (show (0 : Int) < (r2.length : Int) by omega)]
      exact Ev.now _
    · by_cases g3 : r4 = 1
      · refine ⟨[], i4, m4, Ev.bind e2 ?_, s4, by simp⟩
        simp only [e3, Option.bind_some, if_pos g1, e4, if_neg g2, if_pos g3]
        exact Ev.now _
      · refine ⟨r7, i7, m7, Ev.bind e2 ?_, s7, by omega⟩
        simp only [e3, Option.bind_some, if_pos g1, e4, if_neg g2, if_neg g3, e5]
        rw [wrap64_id (n := 8 + r5) (by omega) (by omega)]
        exact Ev.bind e7 (Ev.now _)
  · refine ⟨r2, i3, m3, Ev.bind e2 ?_, s3, by omega⟩
    simp only [e3, Option.bind_some, if_neg g1]
    exact Ev.now _
theorem rdS_mid (p : List ByteArray) (a : ByteArray) (r : List ByteArray) : rdOf ByteArray.empty (p ++ a :: r) (p.length : Int) = a := by simp [rdOf]
theorem lenS_snoc {α : Type} (q : List α) (e : α) : (q ++ [e]).length = q.length + 1 := by simp
abbrev Stp := S42
theorem rdSt_mid (p : List Stp) (a : Stp) (r : List Stp) : rd_T42 (p ++ a :: r) (p.length : Int) = a := by simp [rd_T42]
end Go.Proofs.YtldhjbjbjoomcaaDoor.Pure
namespace Go.Proofs.YtldhjbjbjoomcaaDoor.Q
open Go.RowKit Go.Proofs.YtldhjbjbjoomcaaDoorW.PrintWords Go.Proofs.YtldhjbjbjoomcaaDoorW.PrintLast Go.Proofs.YtldhjbjbjoomcaaDoorW.PrintMore
attribute [local go_sem] max2_int min2_int max_two min_two max_three min_three max_four min_four Instr.field asAgg
set_option linter.unusedVariables false
set_option linter.unusedSimpArgs false
set_option maxHeartbeats 8000000
set_option maxRecDepth 100000
mutual
def spec_l01Src_l06Step.j0 : Nat → List Int → Int → Int → Int → Int → Int → Int → ByteArray → Option (Int × Int × Int × ByteArray × Int × Int × Int)
 | 0, _, _, _, _, _, _, _, _ => none
 | k + 1, x1000, x1001, x1002, x1003, x282000, x282001, x282002, x282003 => if x282000 = 2 then (spec_l01Src_l06Step.j1 k true x1000 x1001 x1002 x1003 x282000 x282001 x282002 x282003) else (spec_l01Src_l06Step.j1 k (x282000 == 4) x1000 x1001 x1002 x1003 x282000 x282001 x282002 x282003)
def spec_l01Src_l06Step.j1 : Nat → Bool → List Int → Int → Int → Int → Int → Int → Int → ByteArray → Option (Int × Int × Int × ByteArray × Int × Int × Int)
 | 0, _, _, _, _, _, _, _, _, _ => none
 | k + 1, x27, x1000, x1001, x1002, x1003, x282000, x282001, x282002, x282003 => if x27 = true then ((spec_l01Src_l06Data.f x1000 x1001 x1002 x1003).bind fun bt286 => (some (x282000, x282001, x282002, bt286.1, bt286.2.1, bt286.2.2.1, bt286.2.2.2))) else (some (x282000, x282001, x282002, x282003, x1001, x1002, x1003))
end
def spec_l01Src_l06Step.f (k : Nat) (s0_0 : List Int) (s0_1 : Int) (s0_2 : Int) (s0_3 : Int) (a1 : Int) : Option (Int × Int × Int × ByteArray × Int × Int × Int) := (spec_l01Src_n.f s0_0 s0_1 s0_2 s0_3 4).bind fun bt273 => ((spec_l01Src_n.f s0_0 bt273.2.1 bt273.2.2.1 bt273.2.2.2 a1).bind fun bt277 => (if (wrap64 (1 + bt273.1)) ≥ 3 then ((spec_l01Src_n.f s0_0 bt277.2.1 bt277.2.2.1 bt277.2.2.2 a1).bind fun bt282 => (spec_l01Src_l06Step.j0 k s0_0 bt282.2.1 bt282.2.2.1 bt282.2.2.2 (wrap64 (1 + bt273.1)) bt277.1 bt282.1 (⟨#[]⟩ : ByteArray))) else (spec_l01Src_l06Step.j0 k s0_0 bt277.2.1 bt277.2.2.1 bt277.2.2.2 (wrap64 (1 + bt273.1)) bt277.1 0 (⟨#[]⟩ : ByteArray))))
theorem spec_l01Src_l06Step.calls (k : Nat) (g : Nat) (s0_0 : List Int) (s0_1 : Int) (s0_2 : Int) (s0_3 : Int) (a1 : Int) (r1 : Int) (r2 : Int) (r3 : Int) (r4 : ByteArray) (r5 : Int) (r6 : Int) (r7 : Int) (w0 w : World) (hI : IsS78 w0 w g s0_0 s0_1 s0_2 s0_3) (hB : Below w0.heap.size w0 w) (h : spec_l01Src_l06Step.f k s0_0 s0_1 s0_2 s0_3 a1 = some (r1, r2, r3, r4, r5, r6, r7)) :
 Calls Tryd.prog 44 #[.pointer (some ⟨g, 0, none⟩), .int .i64 a1] w fun e w' => e = .returned (.agg #[.int .i64 r1, .int .i64 r2, .int .i64 r3, .string r4]) ∧ IsS78 w0 w' g s0_0 r5 r6 r7 ∧ Below w0.heap.size w0 w' ∧ KeepBut w w' g none := by
 have hu42 := Tryd.underlying42
 have HI0 := zA_ hI
 have HK := zA_ (KeepBut.refl w g none)
 have HL := zA_ hB.size
 clear hI
 have HW0 := zA_ hB.size
 have HB := zA_ hB
 clear hB
 have H : ((spec_l01Src_n.f s0_0 s0_1 s0_2 s0_3 4).bind fun bt273 => ((spec_l01Src_n.f s0_0 bt273.2.1 bt273.2.2.1 bt273.2.2.2 a1).bind fun bt277 => (if (wrap64 (1 + bt273.1)) ≥ 3 then ((spec_l01Src_n.f s0_0 bt277.2.1 bt277.2.2.1 bt277.2.2.2 a1).bind fun bt282 => (spec_l01Src_l06Step.j0 k s0_0 bt282.2.1 bt282.2.2.1 bt282.2.2.2 (wrap64 (1 + bt273.1)) bt277.1 bt282.1 (⟨#[]⟩ : ByteArray))) else (spec_l01Src_l06Step.j0 k s0_0 bt277.2.1 bt277.2.2.1 bt277.2.2.2 (wrap64 (1 + bt273.1)) bt277.1 0 (⟨#[]⟩ : ByteArray))))) = some (r1, r2, r3, r4, r5, r6, r7) := h
 clear h
 replace H := Option.bind_eq_some_iff.mp H
 obtain ⟨⟨t273, t274, t275, t276⟩, A30, H⟩ := H
 replace H : ((spec_l01Src_n.f s0_0 t274 t275 t276 a1).bind fun bt277 => (if (wrap64 (1 + t273)) ≥ 3 then ((spec_l01Src_n.f s0_0 bt277.2.1 bt277.2.2.1 bt277.2.2.2 a1).bind fun bt282 => (spec_l01Src_l06Step.j0 k s0_0 bt282.2.1 bt282.2.2.1 bt282.2.2.2 (wrap64 (1 + t273)) bt277.1 bt282.1 (⟨#[]⟩ : ByteArray))) else (spec_l01Src_l06Step.j0 k s0_0 bt277.2.1 bt277.2.2.1 bt277.2.2.2 (wrap64 (1 + t273)) bt277.1 0 (⟨#[]⟩ : ByteArray)))) = some (r1, r2, r3, r4, r5, r6, r7) := H
 have A3 := zA_ A30
 clear A30
 replace H := Option.bind_eq_some_iff.mp H
 obtain ⟨⟨t277, t278, t279, t280⟩, A40, H⟩ := H
 replace H : (if (wrap64 (1 + t273)) ≥ 3 then ((spec_l01Src_n.f s0_0 t278 t279 t280 a1).bind fun bt282 => (spec_l01Src_l06Step.j0 k s0_0 bt282.2.1 bt282.2.2.1 bt282.2.2.2 (wrap64 (1 + t273)) t277 bt282.1 (⟨#[]⟩ : ByteArray))) else (spec_l01Src_l06Step.j0 k s0_0 t278 t279 t280 (wrap64 (1 + t273)) t277 0 (⟨#[]⟩ : ByteArray))) = some (r1, r2, r3, r4, r5, r6, r7) := H
 have A4 := zA_ A40
 clear A40
 have HC5 := zA_ H
 clear H
 go_enter Tryd.func44, Tryd.ntmps44
 go_upto_if 15 with (first | ((with_reducible refine gate_dst (N := 4) rfl ?_); refine box_event ?hg (N := 4) ?hd (cs := #[.int .i64 0, .int .i64 0, .int .i64 0, .string (⟨#[]⟩ : ByteArray)]) (t := 42) ?hr ?_; (case hd => exact (by rfl)); (case hg => exact (by rfl)); (case hr => exact βAa); intro gb272 hg w6 hbox hb; have n0_ := zA_ (IsS78.below βA hb); have n1_ := zA_ (KeepBut.trans βja (KeepBut.of_below hb g none) (.inl rfl)); have n2_ := zA_ (below_step βH hb); have n3_ := zA_ (hbox); have n4_ := zA_ ((by rw [hg]; exact (keep_size (w := w) (g := g) (row := none) βja) : w.heap.size ≤ gb272)); have n5_ := zA_ ((Nat.le_trans HW0.out (by rw [hg]; exact (keep_size (w := w) (g := g) (row := none) βja) : w.heap.size ≤ gb272) : w0.heap.size ≤ gb272)); have n6_ := zA_ ((by rw [hg]; exact Nat.ne_of_lt (IsS78.lt (show IsS78 w0 _ g s0_0 s0_1 s0_2 s0_3 from by repeat (first | (with_reducible first | exact HI0.out | apply IsS78.alloc | apply IsS78.drewN | apply IsS78.drew | apply IsS78.set_1 | apply IsS78.set_2 | apply IsS78.set_3) | exact HI0.out))) : g ≠ gb272)); have n7_ := zA_ ((by rw [hg]; exact Nat.ne_of_gt (IsS78.lt (show IsS78 w0 _ g s0_0 s0_1 s0_2 s0_3 from by repeat (first | (with_reducible first | exact HI0.out | apply IsS78.alloc | apply IsS78.drewN | apply IsS78.drew | apply IsS78.set_1 | apply IsS78.set_2 | apply IsS78.set_3) | exact HI0.out))) : gb272 ≠ g)); clear HI0 HK HB; have HI0 := n0_; have HK := n1_; have HB := n2_; have BK272 := n3_; have GW272 := n4_; have GE272 := n5_; have NB0_272 := n6_; have NB272_0 := n7_; clear n0_ n1_ n2_ n3_ n4_ n5_ n6_ n7_; clear hb hbox hg) | ((with_reducible refine gate_callee (f := 32) rfl ?_); refine goesL_ (some 7) rfl rfl Tryd.func32 βDa rfl #[.pointer (some ⟨g, 0, none⟩), .int .i64 4] rfl zs_ ?_; (with_reducible refine (spec_l01Src_n.calls g s0_0 s0_1 s0_2 s0_3 4 t273 t274 t275 t276 w0 _ ?side1 ?side2 A3.out).mono ?_); (case side1 => exact βn); (case side2 => exact βt); rintro e w7 ⟨rfl, hi, hb, hk⟩; refine ⟨_, rfl, ?_⟩; have n0_ := zA_ (KeepBut.blk hk (g' := gb272) (o := .cells #[.int .i64 0, .int .i64 0, .int .i64 0, .string (⟨#[]⟩ : ByteArray)] 42 (0, 0)) (zb_ BK272.out) NB272_0.out (by simp)); have n1_ := zA_ (KeepBut.trans βB hk (.inl rfl)); have n2_ := zA_ (hb); have n3_ := zA_ (hi); clear BK272 HK HB HI0; have BK272 := n0_; have HK := n1_; have HB := n2_; have HI0 := n3_; clear n0_ n1_ n2_ n3_; (try clear hb); (try clear hb2); (try clear hk); (try clear hi)) | ((with_reducible refine gate_callee (f := 32) rfl ?_); refine goesL_ (some 11) rfl rfl Tryd.func32 βDa rfl #[.pointer (some ⟨g, 0, none⟩), .int .i64 a1] rfl zs_ ?_; (with_reducible refine (spec_l01Src_n.calls g s0_0 t274 t275 t276 a1 t277 t278 t279 t280 w0 _ ?side1 ?side2 A4.out).mono ?_); (case side1 => exact βn); (case side2 => exact βt); rintro e w8 ⟨rfl, hi, hb, hk⟩; refine ⟨_, rfl, ?_⟩; have n0_ := zA_ (KeepBut.blk hk (g' := gb272) (o := .cells #[.int .i64 0, .int .i64 0, .int .i64 0, .string (⟨#[]⟩ : ByteArray)] 42 (0, 0)) (zb_ BK272.out) NB272_0.out (by simp)); have n1_ := zA_ (KeepBut.trans βB hk (.inl rfl)); have n2_ := zA_ (hb); have n3_ := zA_ (hi); clear BK272 HK HB HI0; have BK272 := n0_; have HK := n1_; have HB := n2_; have HI0 := n3_; clear n0_ n1_ n2_ n3_; (try clear hb); (try clear hb2); (try clear hk); (try clear hi)) | ((with_reducible refine gate_dst (N := 5) rfl ?_); refine box_event ?hg (N := 5) ?hd (cs := #[.int .i64 0, .int .i64 0, .int .i64 0, .string (⟨#[]⟩ : ByteArray)]) (t := 42) ?hr ?_; (case hd => exact (by rfl)); (case hg => exact (by rfl)); (case hr => exact βAa); intro gb281 hg w9 hbox hb; have n0_ := zA_ (IsS78.below βn hb); have n1_ := zA_ (blk_below (g := gb272) (o := .cells #[.int .i64 0, .int .i64 0, .int .i64 0, .string (⟨#[]⟩ : ByteArray)] 42 (0, 0)) (zb_ BK272.out) hb); have n2_ := zA_ (KeepBut.trans βB (KeepBut.of_below hb g none) (.inl rfl)); have n3_ := zA_ (below_step βt hb); have n4_ := zA_ (hbox); have n5_ := zA_ ((by rw [hg]; exact (keep_size (w := w) (g := g) (row := none) βB) : w.heap.size ≤ gb281)); have n6_ := zA_ ((Nat.le_trans HW0.out (by rw [hg]; exact (keep_size (w := w) (g := g) (row := none) βB) : w.heap.size ≤ gb281) : w0.heap.size ≤ gb281)); have n7_ := zA_ ((by rw [hg]; exact Nat.ne_of_lt (blk_lt (g := gb272) (o := .cells #[.int .i64 0, .int .i64 0, .int .i64 0, .string (⟨#[]⟩ : ByteArray)] 42 (0, 0)) (zb_ BK272.out)) : gb272 ≠ gb281)); have n8_ := zA_ ((by rw [hg]; exact Nat.ne_of_gt (blk_lt (g := gb272) (o := .cells #[.int .i64 0, .int .i64 0, .int .i64 0, .string (⟨#[]⟩ : ByteArray)] 42 (0, 0)) (zb_ BK272.out)) : gb281 ≠ gb272)); have n9_ := zA_ ((by rw [hg]; exact Nat.ne_of_lt (IsS78.lt (show IsS78 w0 _ g s0_0 t278 t279 t280 from by repeat (first | (with_reducible first | exact HI0.out | apply IsS78.alloc | apply IsS78.drewN | apply IsS78.drew | apply IsS78.set_1 | apply IsS78.set_2 | apply IsS78.set_3 | refine IsS78.far ?_ NB0_272.out _) | exact HI0.out))) : g ≠ gb281)); have n10_ := zA_ ((by rw [hg]; exact Nat.ne_of_gt (IsS78.lt (show IsS78 w0 _ g s0_0 t278 t279 t280 from by repeat (first | (with_reducible first | exact HI0.out | apply IsS78.alloc | apply IsS78.drewN | apply IsS78.drew | apply IsS78.set_1 | apply IsS78.set_2 | apply IsS78.set_3 | refine IsS78.far ?_ NB0_272.out _) | exact HI0.out))) : gb281 ≠ g)); clear HI0 BK272 HK HB; have HI0 := n0_; have BK272 := n1_; have HK := n2_; have HB := n3_; have BK281 := n4_; have GW281 := n5_; have GE281 := n6_; have NB272_281 := n7_; have NB281_272 := n8_; have NB0_281 := n9_; have NB281_0 := n10_; clear n0_ n1_ n2_ n3_ n4_ n5_ n6_ n7_ n8_ n9_ n10_; clear hb hbox hg; have hnb10 := NB281_272.out; have hnc10 := NB272_281.out; have hnb11 := NB281_0.out; have hnc11 := NB0_281.out; have hcz12_0 := cz_ BK281.out 0 (.int .i64 0) rfl; have hcz12_1 := cz_ BK281.out 1 (.int .i64 0) rfl; have hcz12_2 := cz_ BK281.out 2 (.int .i64 0) rfl; have hcz12_3 := cz_ BK281.out 3 (.string (⟨#[]⟩ : ByteArray)) rfl; have hfz12_0 := blk_frozen BK281.out 0; have hfz12_1 := blk_frozen BK281.out 1; have hfz12_2 := blk_frozen BK281.out 2; have hfz12_3 := blk_frozen BK281.out 3))
 (try simp only [Act.put, List.setIfInBounds_toArray, List.set_cons_zero, List.set_cons_succ])
 go_cut [] (fun wc => ∃ (kq : Nat) (x1001_4 : Int) (x1002_4 : Int) (x1003_4 : Int) (x282002_4 : Int), Aside0 (spec_l01Src_l06Step.j0 kq s0_0 x1001_4 x1002_4 x1003_4 (wrap64 (1 + t273)) t277 x282002_4 (⟨#[]⟩ : ByteArray) = some (r1, r2, r3, r4, r5, r6, r7)) ∧ Aside0 (kq ≤ k) ∧ Aside0 (wc.heap[gb272]? = some (.cells #[.int .i64 0, .int .i64 0, .int .i64 0, .string (⟨#[]⟩ : ByteArray)] 42 (0, 0))) ∧ Aside0 (wc.heap[gb281]? = some (.cells #[.int .i64 (wrap64 (1 + t273)), .int .i64 t277, .int .i64 x282002_4, .string (⟨#[]⟩ : ByteArray)] 42 (0, 0))) ∧ Aside0 (IsS78 w0 wc g s0_0 x1001_4 x1002_4 x1003_4) ∧ Aside0 (KeepBut w wc g none) ∧ Aside0 (Below w0.heap.size w0 wc))
 case first =>
  have H := HC5.out
  clear HC5
  by_cases c13 : (wrap64 (1 + t273)) ≥ 3
  · rw [if_pos c13] at H
    have c13b0 : decide (3 ≤ (wrap64 (1 + t273))) = true := decide_eq_true c13
    clear c13
    (first | rw [c13b0] | (simp only [i64_w, i32_w]; rw [c13b0]) | skip)
    replace H := Option.bind_eq_some_iff.mp H
    obtain ⟨⟨t282, t283, t284, t285⟩, A140, H⟩ := H
    replace H : (spec_l01Src_l06Step.j0 k s0_0 t283 t284 t285 (wrap64 (1 + t273)) t277 t282 (⟨#[]⟩ : ByteArray)) = some (r1, r2, r3, r4, r5, r6, r7) := H
    have A14 := zA_ A140
    clear A140
    have H' := zA_ H
    clear H
    go_wp2_with (first | ((with_reducible refine gate_callee (f := 32) rfl ?_); refine goesL_ (some 18) rfl rfl Tryd.func32 βDa rfl #[.pointer (some ⟨g, 0, none⟩), .int .i64 a1] rfl zs_ ?_; (with_reducible refine (spec_l01Src_n.calls g s0_0 t278 t279 t280 a1 t282 t283 t284 t285 w0 _ ?side1 ?side2 A14.out).mono ?_); (case side1 => exact βi); (case side2 => exact βk); rintro e w15 ⟨rfl, hi, hb, hk⟩; refine ⟨_, rfl, ?_⟩; have n0_ := zA_ (KeepBut.blk hk (g' := gb272) (o := .cells #[.int .i64 0, .int .i64 0, .int .i64 0, .string (⟨#[]⟩ : ByteArray)] 42 (0, 0)) (zf4_ NB272_281.out NB272_281.out NB272_281.out NB272_281.out BK272.out) NB272_0.out (by simp)); have n1_ := zA_ (KeepBut.blk hk (g' := gb281) (o := .cells #[.int .i64 (wrap64 (1 + t273)), .int .i64 t277, .int .i64 0, .string (⟨#[]⟩ : ByteArray)] 42 (0, 0)) βb NB281_0.out (by simp)); have n2_ := zA_ (KeepBut.trans βq hk (.inl rfl)); have n3_ := zA_ (hb); have n4_ := zA_ (hi); clear BK272 BK281 HK HB HI0; have BK272 := n0_; have BK281 := n1_; have HK := n2_; have HB := n3_; have HI0 := n4_; clear n0_ n1_ n2_ n3_ n4_; (try clear hb); (try clear hb2); (try clear hk); (try clear hi); have hnb16 := NB281_272.out; have hnc16 := NB272_281.out; have hnb17 := NB281_0.out; have hnc17 := NB0_281.out; have hcz18_0 : w15.cell? ⟨gb281, 0, none⟩ = some (.int .i64 (wrap64 (1 + t273))) := (blk_cell BK281.out 0).trans rfl; have hcz18_1 := cz_ BK281.out 1 (.int .i64 t277) rfl; have hcz18_2 := cz_ BK281.out 2 (.int .i64 0) rfl; have hcz18_3 := cz_ BK281.out 3 (.string (⟨#[]⟩ : ByteArray)) rfl; have hfz18_0 := blk_frozen BK281.out 0; have hfz18_1 := blk_frozen BK281.out 1; have hfz18_2 := blk_frozen BK281.out 2; have hfz18_3 := blk_frozen BK281.out 3))
    go_meet
    case rel => exact ⟨_, (t283), (t284), (t285), (t282), H', ⟨βBa⟩, ⟨zf1_ NB272_281.out BK272.out⟩, ⟨(by (with_reducible repeat (first | refine blk_drewN ?_ _ | refine blk_drew ?_ | refine blk_alloc ?_ _)); refine blk_put (cs := #[.int .i64 (wrap64 (1 + t273)), .int .i64 t277, .int .i64 0, .string (⟨#[]⟩ : ByteArray)]) ?_ 2 _ rfl; (with_reducible repeat (first | refine blk_drewN ?_ _ | refine blk_drew ?_ | refine blk_alloc ?_ _)); exact BK281.out)⟩, ⟨βi⟩, ⟨βq⟩, ⟨βk⟩⟩
  · rw [if_neg c13] at H
    have c13b0 : decide (3 ≤ (wrap64 (1 + t273))) = false := decide_eq_false c13
    clear c13
    (first | rw [c13b0] | (simp only [i64_w, i32_w]; rw [c13b0]) | skip)
    have H' := zA_ H
    clear H
    go_wp2
    go_meet
    case rel => exact ⟨_, (t278), (t279), (t280), (0), H', ⟨βBa⟩, ⟨zf4_ NB272_281.out NB272_281.out NB272_281.out NB272_281.out BK272.out⟩, ⟨βb⟩, ⟨βi⟩, ⟨βq⟩, ⟨βk⟩⟩
 case rest =>
  clear HC5
  try clear c1
  try clear p2
  try clear c3
  try clear c4
  try clear p6
  try clear c10
  try clear c11
  try clear c13
  try clear c13b0
  try clear c16
  try clear c17
  try clear hcz12_0
  try clear hcz12_1
  try clear hcz12_2
  try clear hcz12_3
  try clear hcz18_0
  try clear hcz18_1
  try clear hcz18_2
  try clear hcz18_3
  try clear hfz12_0
  try clear hfz12_1
  try clear hfz12_2
  try clear hfz12_3
  try clear hfz18_0
  try clear hfz18_1
  try clear hfz18_2
  try clear hfz18_3
  obtain ⟨kq, x1001_4, x1002_4, x1003_4, x282002_4, HA, HJ4, BK272, BK281, HI0, HK, HB⟩ := hcut
  cases kq with
  | zero => exact absurd HA.out (by simp [spec_l01Src_l06Step.j0])
  | succ kj4 =>
   have H := HA.out
   clear HA
   simp only [spec_l01Src_l06Step.j0] at H
   have HC19 := zA_ H
   clear H
   go_upto_region 4 with (fail)
   go_cut [27] (fun v27 wc => ∃ (kq : Nat) (x27_18 : Bool), v27 = .bool x27_18 ∧ Aside0 (spec_l01Src_l06Step.j1 kq x27_18 s0_0 x1001_4 x1002_4 x1003_4 (wrap64 (1 + t273)) t277 x282002_4 (⟨#[]⟩ : ByteArray) = some (r1, r2, r3, r4, r5, r6, r7)) ∧ Aside0 (kq ≤ kj4) ∧ Aside0 (wc.heap[gb272]? = some (.cells #[.int .i64 0, .int .i64 0, .int .i64 0, .string (⟨#[]⟩ : ByteArray)] 42 (0, 0))) ∧ Aside0 (wc.heap[gb281]? = some (.cells #[.int .i64 (wrap64 (1 + t273)), .int .i64 t277, .int .i64 x282002_4, .string (⟨#[]⟩ : ByteArray)] 42 (0, 0))) ∧ Aside0 (IsS78 w0 wc g s0_0 x1001_4 x1002_4 x1003_4) ∧ Aside0 (KeepBut w wc g none) ∧ Aside0 (Below w0.heap.size w0 wc))
   case first =>
    have H := HC19.out
    clear HC19
    by_cases c20 : (wrap64 (1 + t273)) = 2
    · rw [if_pos c20] at H
      have c20b0 : ((wrap64 (1 + t273)) == 2) = true := beq_iff_eq.mpr c20
      have c20b1 : ((wrap64 (1 + t273)) != 2) = false := bne_eq_false_iff_eq.mpr c20
      clear c20
      (first | rw [c20b0] | (simp only [i64_w, i32_w]; rw [c20b0]) | skip)
      have H' := zA_ H
      clear H
      have hnb21 := NB281_272.out
      have hnc21 := NB272_281.out
      have hnb22 := NB281_0.out
      have hnc22 := NB0_281.out
      have hcz23_0 : wc.cell? ⟨gb281, 0, none⟩ = some (.int .i64 (wrap64 (1 + t273))) := (blk_cell BK281.out 0).trans rfl
      have hcz23_1 := cz_ BK281.out 1 (.int .i64 t277) rfl
      have hcz23_2 := cz_ BK281.out 2 (.int .i64 x282002_4) rfl
      have hcz23_3 := cz_ BK281.out 3 (.string (⟨#[]⟩ : ByteArray)) rfl
      have hfz23_0 := blk_frozen BK281.out 0
      have hfz23_1 := blk_frozen BK281.out 1
      have hfz23_2 := blk_frozen BK281.out 2
      have hfz23_3 := blk_frozen BK281.out 3
      go_wp2
      go_meet
      case rel => exact ⟨_, (true), βya, H', ⟨(by have := HJ4.out; first | omega | exact Nat.le_refl _)⟩, ⟨zb_ BK272.out⟩, ⟨zb_ BK281.out⟩, ⟨βi⟩, ⟨βq⟩, ⟨βk⟩⟩
    · rw [if_neg c20] at H
      have c20b0 : ((wrap64 (1 + t273)) == 2) = false := beq_eq_false_iff_ne.mpr c20
      have c20b1 : ((wrap64 (1 + t273)) != 2) = true := bne_iff_ne.mpr c20
      (first | rw [c20b0] | (simp only [i64_w, i32_w]; rw [c20b0]) | skip)
      have H' := zA_ H
      clear H
      have hnb24 := NB281_272.out
      have hnc24 := NB272_281.out
      have hnb25 := NB281_0.out
      have hnc25 := NB0_281.out
      have hcz26_0 : wc.cell? ⟨gb281, 0, none⟩ = some (.int .i64 (wrap64 (1 + t273))) := (blk_cell BK281.out 0).trans rfl
      have hcz26_1 := cz_ BK281.out 1 (.int .i64 t277) rfl
      have hcz26_2 := cz_ BK281.out 2 (.int .i64 x282002_4) rfl
      have hcz26_3 := cz_ BK281.out 3 (.string (⟨#[]⟩ : ByteArray)) rfl
      have hfz26_0 := blk_frozen BK281.out 0
      have hfz26_1 := blk_frozen BK281.out 1
      have hfz26_2 := blk_frozen BK281.out 2
      have hfz26_3 := blk_frozen BK281.out 3
      go_wp2
      go_meet
      case rel => exact ⟨_, (((wrap64 (1 + t273)) == 4)), βya, H', ⟨(by have := HJ4.out; first | omega | exact Nat.le_refl _)⟩, ⟨zb_ BK272.out⟩, ⟨zb_ BK281.out⟩, ⟨βi⟩, ⟨βq⟩, ⟨βk⟩⟩
   case rest =>
    clear HC19
    try clear c1
    try clear c2
    try clear p2
    try clear c3
    try clear c4
    try clear p6
    try clear c10
    try clear c11
    try clear c13
    try clear c13b0
    try clear c16
    try clear c17
    try clear c20
    try clear c20b0
    try clear c20b1
    try clear c21
    try clear c22
    try clear c24
    try clear c25
    try clear hcz12_0
    try clear hcz12_1
    try clear hcz12_2
    try clear hcz12_3
    try clear hcz18_0
    try clear hcz18_1
    try clear hcz18_2
    try clear hcz18_3
    try clear hcz23_0
    try clear hcz23_1
    try clear hcz23_2
    try clear hcz23_3
    try clear hcz26_0
    try clear hcz26_1
    try clear hcz26_2
    try clear hcz26_3
    try clear hfz12_0
    try clear hfz12_1
    try clear hfz12_2
    try clear hfz12_3
    try clear hfz18_0
    try clear hfz18_1
    try clear hfz18_2
    try clear hfz18_3
    try clear hfz23_0
    try clear hfz23_1
    try clear hfz23_2
    try clear hfz23_3
    try clear hfz26_0
    try clear hfz26_1
    try clear hfz26_2
    try clear hfz26_3
    try clear p2
    try clear p6
    obtain ⟨kq, x27_18, rfl, HA, HJ18, BK272, BK281, HI0, HK, HB⟩ := hcut
    cases kq with
    | zero => exact absurd HA.out (by simp [spec_l01Src_l06Step.j1])
    | succ kj18 =>
     have H := HA.out
     clear HA
     simp only [spec_l01Src_l06Step.j1] at H
     by_cases c27 : x27_18 = true
     · subst c27
       have H1 : ((spec_l01Src_l06Data.f s0_0 x1001_4 x1002_4 x1003_4).bind fun bt286 => (some ((wrap64 (1 + t273)), t277, x282002_4, bt286.1, bt286.2.1, bt286.2.2.1, bt286.2.2.2))) = some (r1, r2, r3, r4, r5, r6, r7) := by rw [if_pos rfl] at H; exact H
       clear H
       have H := H1
       clear H1
       replace H := Option.bind_eq_some_iff.mp H
       obtain ⟨⟨t286, t287, t288, t289⟩, A280, H⟩ := H
       replace H : (some ((wrap64 (1 + t273)), t277, x282002_4, t286, t287, t288, t289)) = some (r1, r2, r3, r4, r5, r6, r7) := H
       have A28 := zA_ A280
       clear A280
       simp only [Option.some.injEq, Prod.mk.injEq] at H
       obtain ⟨rfl, rfl, rfl, rfl, rfl, rfl, rfl⟩ := H
       go_wp2_with (first | ((with_reducible refine gate_callee (f := 41) rfl ?_); refine goesL_ (some 29) rfl rfl Tryd.func41 βDa rfl #[.pointer (some ⟨g, 0, none⟩)] rfl zs_ ?_; (with_reducible refine (spec_l01Src_l06Data.calls g s0_0 x1001_4 x1002_4 x1003_4 t286 t287 t288 t289 w0 _ ?side1 ?side2 A28.out).mono ?_); (case side1 => exact βi); (case side2 => exact βk); rintro e w29 ⟨rfl, hi, hb, hk⟩; refine ⟨_, rfl, ?_⟩; have n0_ := zA_ (KeepBut.blk hk (g' := gb272) (o := .cells #[.int .i64 0, .int .i64 0, .int .i64 0, .string (⟨#[]⟩ : ByteArray)] 42 (0, 0)) (zb_ BK272.out) NB272_0.out (by simp)); have n1_ := zA_ (KeepBut.blk hk (g' := gb281) (o := .cells #[.int .i64 (wrap64 (1 + t273)), .int .i64 t277, .int .i64 x282002_4, .string (⟨#[]⟩ : ByteArray)] 42 (0, 0)) (zb_ BK281.out) NB281_0.out (by simp)); have n2_ := zA_ (KeepBut.trans βq hk (.inl rfl)); have n3_ := zA_ (hb); have n4_ := zA_ (hi); clear BK272 BK281 HK HB HI0; have BK272 := n0_; have BK281 := n1_; have HK := n2_; have HB := n3_; have HI0 := n4_; clear n0_ n1_ n2_ n3_ n4_; (try clear hb); (try clear hb2); (try clear hk); (try clear hi); have hnb30 := NB281_272.out; have hnc30 := NB272_281.out; have hnb31 := NB281_0.out; have hnc31 := NB0_281.out; have hcz32_0 : w29.cell? ⟨gb281, 0, none⟩ = some (.int .i64 (wrap64 (1 + t273))) := (blk_cell BK281.out 0).trans rfl; have hcz32_1 := cz_ BK281.out 1 (.int .i64 t277) rfl; have hcz32_2 := cz_ BK281.out 2 (.int .i64 x282002_4) rfl; have hcz32_3 := cz_ BK281.out 3 (.string (⟨#[]⟩ : ByteArray)) rfl; have hfz32_0 := blk_frozen BK281.out 0; have hfz32_1 := blk_frozen BK281.out 1; have hfz32_2 := blk_frozen BK281.out 2; have hfz32_3 := blk_frozen BK281.out 3; have hnb33 := NB272_0.out; have hnc33 := NB0_272.out; have hcz34_0 := cz_ BK272.out 0 (.int .i64 0) rfl; have hcz34_1 := cz_ BK272.out 1 (.int .i64 0) rfl; have hcz34_2 := cz_ BK272.out 2 (.int .i64 0) rfl; have hcz34_3 := cz_ BK272.out 3 (.string (⟨#[]⟩ : ByteArray)) rfl; have hfz34_0 := blk_frozen BK272.out 0; have hfz34_1 := blk_frozen BK272.out 1; have hfz34_2 := blk_frozen BK272.out 2; have hfz34_3 := blk_frozen BK272.out 3))
       refine bodyPost_ret (results_cell_row rfl _ _ gb272 42 #[.int .i64 (wrap64 (1 + t273)), .int .i64 t277, .int .i64 x282002_4, .string t286] (0, 0) _ rfl (by (with_reducible repeat (first | refine blk_drewN ?_ _ | refine blk_drew ?_ | refine blk_alloc ?_ _)); refine blk_put (cs := #[.int .i64 (wrap64 (1 + t273)), .int .i64 t277, .int .i64 x282002_4, .string (⟨#[]⟩ : ByteArray)]) ?_ 3 _ rfl; (with_reducible repeat (first | refine blk_drewN ?_ _ | refine blk_drew ?_ | refine blk_alloc ?_ _)); refine blk_put (cs := #[.int .i64 (wrap64 (1 + t273)), .int .i64 t277, .int .i64 0, .string (⟨#[]⟩ : ByteArray)]) ?_ 2 _ rfl; (with_reducible repeat (first | refine blk_drewN ?_ _ | refine blk_drew ?_ | refine blk_alloc ?_ _)); refine blk_put (cs := #[.int .i64 (wrap64 (1 + t273)), .int .i64 0, .int .i64 0, .string (⟨#[]⟩ : ByteArray)]) ?_ 1 _ rfl; (with_reducible repeat (first | refine blk_drewN ?_ _ | refine blk_drew ?_ | refine blk_alloc ?_ _)); refine blk_put (cs := #[.int .i64 0, .int .i64 0, .int .i64 0, .string (⟨#[]⟩ : ByteArray)]) ?_ 0 _ rfl; (with_reducible repeat (first | refine blk_drewN ?_ _ | refine blk_drew ?_ | refine blk_alloc ?_ _)); refine blk_far ?_ NB272_281.out _; (with_reducible repeat (first | refine blk_drewN ?_ _ | refine blk_drew ?_ | refine blk_alloc ?_ _)); exact BK272.out) Tryd.underlying42 rfl βDa) rfl ?_
       exact ⟨βsa, βi, βk, βq⟩
     · replace c27 := Bool.eq_false_iff.mpr c27
       subst c27
       have H1 : (some ((wrap64 (1 + t273)), t277, x282002_4, (⟨#[]⟩ : ByteArray), x1001_4, x1002_4, x1003_4)) = some (r1, r2, r3, r4, r5, r6, r7) := by rw [if_neg (show ¬ (false = true) by decide)] at H; exact H
       clear H
       have H := H1
       clear H1
       simp only [Option.some.injEq, Prod.mk.injEq] at H
       obtain ⟨rfl, rfl, rfl, rfl, rfl, rfl, rfl⟩ := H
       have hnb35 := NB281_272.out
       have hnc35 := NB272_281.out
       have hnb36 := NB281_0.out
       have hnc36 := NB0_281.out
       have hcz37_0 : wc.cell? ⟨gb281, 0, none⟩ = some (.int .i64 (wrap64 (1 + t273))) := (blk_cell BK281.out 0).trans rfl
       have hcz37_1 := cz_ BK281.out 1 (.int .i64 t277) rfl
       have hcz37_2 := cz_ BK281.out 2 (.int .i64 x282002_4) rfl
       have hcz37_3 := cz_ BK281.out 3 (.string (⟨#[]⟩ : ByteArray)) rfl
       have hfz37_0 := blk_frozen BK281.out 0
       have hfz37_1 := blk_frozen BK281.out 1
       have hfz37_2 := blk_frozen BK281.out 2
       have hfz37_3 := blk_frozen BK281.out 3
       have hnb38 := NB272_0.out
       have hnc38 := NB0_272.out
       have hcz39_0 := cz_ BK272.out 0 (.int .i64 0) rfl
       have hcz39_1 := cz_ BK272.out 1 (.int .i64 0) rfl
       have hcz39_2 := cz_ BK272.out 2 (.int .i64 0) rfl
       have hcz39_3 := cz_ BK272.out 3 (.string (⟨#[]⟩ : ByteArray)) rfl
       have hfz39_0 := blk_frozen BK272.out 0
       have hfz39_1 := blk_frozen BK272.out 1
       have hfz39_2 := blk_frozen BK272.out 2
       have hfz39_3 := blk_frozen BK272.out 3
       go_wp2
       refine bodyPost_ret (results_cell_row rfl _ _ gb272 42 #[.int .i64 (wrap64 (1 + t273)), .int .i64 t277, .int .i64 x282002_4, .string (⟨#[]⟩ : ByteArray)] (0, 0) _ rfl (by (with_reducible repeat (first | refine blk_drewN ?_ _ | refine blk_drew ?_ | refine blk_alloc ?_ _)); refine blk_put (cs := #[.int .i64 (wrap64 (1 + t273)), .int .i64 t277, .int .i64 x282002_4, .string (⟨#[]⟩ : ByteArray)]) ?_ 3 _ rfl; (with_reducible repeat (first | refine blk_drewN ?_ _ | refine blk_drew ?_ | refine blk_alloc ?_ _)); refine blk_put (cs := #[.int .i64 (wrap64 (1 + t273)), .int .i64 t277, .int .i64 0, .string (⟨#[]⟩ : ByteArray)]) ?_ 2 _ rfl; (with_reducible repeat (first | refine blk_drewN ?_ _ | refine blk_drew ?_ | refine blk_alloc ?_ _)); refine blk_put (cs := #[.int .i64 (wrap64 (1 + t273)), .int .i64 0, .int .i64 0, .string (⟨#[]⟩ : ByteArray)]) ?_ 1 _ rfl; (with_reducible repeat (first | refine blk_drewN ?_ _ | refine blk_drew ?_ | refine blk_alloc ?_ _)); refine blk_put (cs := #[.int .i64 0, .int .i64 0, .int .i64 0, .string (⟨#[]⟩ : ByteArray)]) ?_ 0 _ rfl; (with_reducible repeat (first | refine blk_drewN ?_ _ | refine blk_drew ?_ | refine blk_alloc ?_ _)); exact BK272.out) Tryd.underlying42 rfl βDa) rfl ?_
       exact ⟨βsa, βi, βk, βq⟩
def spec_l01Src_l06Any.j0 : Nat → List Int → Int → Int → Int → Int → Int → Int → ByteArray → Option (Int × Int × Int × ByteArray × Int × Int × Int)
 | 0, _, _, _, _, _, _, _, _ => none
 | k + 1, x1000, x1001, x1002, x1003, x299000, x299001, x299002, x299003 => (spec_l01Src_one.f x1000 x1001 x1002 x1003 10).bind fun bt307 => (if bt307.1 = true then ((spec_l01Src_n.f x1000 bt307.2.1 bt307.2.2.1 bt307.2.2.2 5).bind fun bt311 => (if bt311.1 = 0 then ((spec_l01Src_n.f x1000 bt311.2.1 bt311.2.2.1 bt311.2.2.2 7).bind fun bt315 => (some (bt315.1, x299001, x299002, x299003, bt315.2.1, bt315.2.2.1, bt315.2.2.2))) else (if bt311.1 = 1 then ((some (([(-1), 7, 8] : List Int) : List Int)).bind fun y319 => ((spec_l01Src_n.f x1000 bt311.2.1 bt311.2.2.1 bt311.2.2.2 3).bind fun bt322 => (if 0 ≤ bt322.1 then (if bt322.1 < (y319.length : Int) then (some (x299000, rd y319 bt322.1, x299002, x299003, bt322.2.1, bt322.2.2.1, bt322.2.2.2)) else (none)) else (none)))) else (if bt311.1 = 2 then ((some (([(-1), 7, 8, 1000000, 1000001] : List Int) : List Int)).bind fun y327 => ((spec_l01Src_n.f x1000 bt311.2.1 bt311.2.2.1 bt311.2.2.2 5).bind fun bt330 => (if 0 ≤ bt330.1 then (if bt330.1 < (y327.length : Int) then (some (x299000, x299001, rd y327 bt330.1, x299003, bt330.2.1, bt330.2.2.1, bt330.2.2.2)) else (none)) else (none)))) else (if bt311.1 = 3 then ((spec_l01Src_n.f x1000 bt311.2.1 bt311.2.2.1 bt311.2.2.2 3).bind fun bt335 => ((spec_l01Src_bytes.f k x1000 bt335.2.1 bt335.2.2.1 bt335.2.2.2 (wrap64 (7 + bt335.1))).bind fun bt339 => (some (x299000, x299001, x299002, bt339.1, bt339.2.1, bt339.2.2.1, bt339.2.2.2)))) else (some (x299000, x299001, x299002, (⟨#[]⟩ : ByteArray), bt311.2.1, bt311.2.2.1, bt311.2.2.2))))))) else (some (x299000, x299001, x299002, x299003, bt307.2.1, bt307.2.2.1, bt307.2.2.2)))
def spec_l01Src_l06Any.f (k : Nat) (s0_0 : List Int) (s0_1 : Int) (s0_2 : Int) (s0_3 : Int) : Option (Int × Int × Int × ByteArray × Int × Int × Int) := (spec_l01Src_l06Step.f k s0_0 s0_1 s0_2 s0_3 4).bind fun bt291 => ((spec_l01Src_one.f s0_0 bt291.2.2.2.2.1 bt291.2.2.2.2.2.1 bt291.2.2.2.2.2.2 6).bind fun bt299 => (if bt299.1 = true then ((spec_l01Src_n.f s0_0 bt299.2.1 bt299.2.2.1 bt299.2.2.2 9).bind fun bt303 => (spec_l01Src_l06Any.j0 k s0_0 bt303.2.1 bt303.2.2.1 bt303.2.2.2 5 0 bt303.1 (⟨#[]⟩ : ByteArray))) else (spec_l01Src_l06Any.j0 k s0_0 bt299.2.1 bt299.2.2.1 bt299.2.2.2 bt291.1 bt291.2.1 bt291.2.2.1 bt291.2.2.2.1)))
theorem spec_l01Src_l06Any.calls (k : Nat) (g : Nat) (s0_0 : List Int) (s0_1 : Int) (s0_2 : Int) (s0_3 : Int) (r1 : Int) (r2 : Int) (r3 : Int) (r4 : ByteArray) (r5 : Int) (r6 : Int) (r7 : Int) (w0 w : World) (hI : IsS78 w0 w g s0_0 s0_1 s0_2 s0_3) (hB : Below w0.heap.size w0 w) (h : spec_l01Src_l06Any.f k s0_0 s0_1 s0_2 s0_3 = some (r1, r2, r3, r4, r5, r6, r7)) :
 Calls Tryd.prog 43 #[.pointer (some ⟨g, 0, none⟩)] w fun e w' => e = .returned (.agg #[.int .i64 r1, .int .i64 r2, .int .i64 r3, .string r4]) ∧ IsS78 w0 w' g s0_0 r5 r6 r7 ∧ Below w0.heap.size w0 w' ∧ KeepBut w w' g none := by
 have hu42 := Tryd.underlying42
 have HI0 := zA_ hI
 have HK := zA_ (KeepBut.refl w g none)
 have HL := zA_ hB.size
 clear hI
 have HW0 := zA_ hB.size
 have HB := zA_ hB
 clear hB
 have H : ((spec_l01Src_l06Step.f k s0_0 s0_1 s0_2 s0_3 4).bind fun bt291 => ((spec_l01Src_one.f s0_0 bt291.2.2.2.2.1 bt291.2.2.2.2.2.1 bt291.2.2.2.2.2.2 6).bind fun bt299 => (if bt299.1 = true then ((spec_l01Src_n.f s0_0 bt299.2.1 bt299.2.2.1 bt299.2.2.2 9).bind fun bt303 => (spec_l01Src_l06Any.j0 k s0_0 bt303.2.1 bt303.2.2.1 bt303.2.2.2 5 0 bt303.1 (⟨#[]⟩ : ByteArray))) else (spec_l01Src_l06Any.j0 k s0_0 bt299.2.1 bt299.2.2.1 bt299.2.2.2 bt291.1 bt291.2.1 bt291.2.2.1 bt291.2.2.2.1)))) = some (r1, r2, r3, r4, r5, r6, r7) := h
 clear h
 replace H := Option.bind_eq_some_iff.mp H
 obtain ⟨⟨t291, t292, t293, t294, t295, t296, t297⟩, A20, H⟩ := H
 replace H : ((spec_l01Src_one.f s0_0 t295 t296 t297 6).bind fun bt299 => (if bt299.1 = true then ((spec_l01Src_n.f s0_0 bt299.2.1 bt299.2.2.1 bt299.2.2.2 9).bind fun bt303 => (spec_l01Src_l06Any.j0 k s0_0 bt303.2.1 bt303.2.2.1 bt303.2.2.2 5 0 bt303.1 (⟨#[]⟩ : ByteArray))) else (spec_l01Src_l06Any.j0 k s0_0 bt299.2.1 bt299.2.2.1 bt299.2.2.2 t291 t292 t293 t294))) = some (r1, r2, r3, r4, r5, r6, r7) := H
 have A2 := zA_ A20
 clear A20
 replace H := Option.bind_eq_some_iff.mp H
 obtain ⟨⟨t299, t300, t301, t302⟩, A30, H⟩ := H
 replace H : (if t299 = true then ((spec_l01Src_n.f s0_0 t300 t301 t302 9).bind fun bt303 => (spec_l01Src_l06Any.j0 k s0_0 bt303.2.1 bt303.2.2.1 bt303.2.2.2 5 0 bt303.1 (⟨#[]⟩ : ByteArray))) else (spec_l01Src_l06Any.j0 k s0_0 t300 t301 t302 t291 t292 t293 t294)) = some (r1, r2, r3, r4, r5, r6, r7) := H
 have A3 := zA_ A30
 clear A30
 have HC4 := zA_ H
 clear H
 go_enter Tryd.func43, Tryd.ntmps43
 go_upto_if 7 with (first | ((with_reducible refine gate_dst (N := 2) rfl ?_); refine box_event ?hg (N := 2) ?hd (cs := #[.int .i64 0, .int .i64 0, .int .i64 0, .string (⟨#[]⟩ : ByteArray)]) (t := 42) ?hr ?_; (case hd => exact (by rfl)); (case hg => exact (by rfl)); (case hr => exact βAa); intro gb290 hg w5 hbox hb; have n0_ := zA_ (IsS78.below βA hb); have n1_ := zA_ (KeepBut.trans βja (KeepBut.of_below hb g none) (.inl rfl)); have n2_ := zA_ (below_step βH hb); have n3_ := zA_ (hbox); have n4_ := zA_ ((by rw [hg]; exact (keep_size (w := w) (g := g) (row := none) βja) : w.heap.size ≤ gb290)); have n5_ := zA_ ((Nat.le_trans HW0.out (by rw [hg]; exact (keep_size (w := w) (g := g) (row := none) βja) : w.heap.size ≤ gb290) : w0.heap.size ≤ gb290)); have n6_ := zA_ ((by rw [hg]; exact Nat.ne_of_lt (IsS78.lt (show IsS78 w0 _ g s0_0 s0_1 s0_2 s0_3 from by repeat (first | (with_reducible first | exact HI0.out | apply IsS78.alloc | apply IsS78.drewN | apply IsS78.drew | apply IsS78.set_1 | apply IsS78.set_2 | apply IsS78.set_3) | exact HI0.out))) : g ≠ gb290)); have n7_ := zA_ ((by rw [hg]; exact Nat.ne_of_gt (IsS78.lt (show IsS78 w0 _ g s0_0 s0_1 s0_2 s0_3 from by repeat (first | (with_reducible first | exact HI0.out | apply IsS78.alloc | apply IsS78.drewN | apply IsS78.drew | apply IsS78.set_1 | apply IsS78.set_2 | apply IsS78.set_3) | exact HI0.out))) : gb290 ≠ g)); clear HI0 HK HB; have HI0 := n0_; have HK := n1_; have HB := n2_; have BK290 := n3_; have GW290 := n4_; have GE290 := n5_; have NB0_290 := n6_; have NB290_0 := n7_; clear n0_ n1_ n2_ n3_ n4_ n5_ n6_ n7_; clear hb hbox hg) | ((with_reducible refine gate_callee (f := 44) rfl ?_); refine goesL_ (some 5) rfl rfl Tryd.func44 βDa rfl #[.pointer (some ⟨g, 0, none⟩), .int .i64 4] rfl zs_ ?_; (with_reducible refine (spec_l01Src_l06Step.calls k g s0_0 s0_1 s0_2 s0_3 4 t291 t292 t293 t294 t295 t296 t297 w0 _ ?side1 ?side2 A2.out).mono ?_); (case side1 => exact βo); (case side2 => exact βu); rintro e w6 ⟨rfl, hi, hb, hk⟩; refine ⟨_, rfl, ?_⟩; have n0_ := zA_ (KeepBut.blk hk (g' := gb290) (o := .cells #[.int .i64 0, .int .i64 0, .int .i64 0, .string (⟨#[]⟩ : ByteArray)] 42 (0, 0)) (zb_ BK290.out) NB290_0.out (by simp)); have n1_ := zA_ (KeepBut.trans βC hk (.inl rfl)); have n2_ := zA_ (hb); have n3_ := zA_ (hi); clear BK290 HK HB HI0; have BK290 := n0_; have HK := n1_; have HB := n2_; have HI0 := n3_; clear n0_ n1_ n2_ n3_; (try clear hb); (try clear hb2); (try clear hk); (try clear hi)) | ((with_reducible refine gate_dst (N := 3) rfl ?_); refine box_event ?hg (N := 3) ?hd (cs := #[.int .i64 0, .int .i64 0, .int .i64 0, .string (⟨#[]⟩ : ByteArray)]) (t := 42) ?hr ?_; (case hd => exact (by rfl)); (case hg => exact (by rfl)); (case hr => exact βAa); intro gb298 hg w7 hbox hb; have n0_ := zA_ (IsS78.below βo hb); have n1_ := zA_ (blk_below (g := gb290) (o := .cells #[.int .i64 0, .int .i64 0, .int .i64 0, .string (⟨#[]⟩ : ByteArray)] 42 (0, 0)) (zb_ BK290.out) hb); have n2_ := zA_ (KeepBut.trans βC (KeepBut.of_below hb g none) (.inl rfl)); have n3_ := zA_ (below_step βu hb); have n4_ := zA_ (hbox); have n5_ := zA_ ((by rw [hg]; exact (keep_size (w := w) (g := g) (row := none) βC) : w.heap.size ≤ gb298)); have n6_ := zA_ ((Nat.le_trans HW0.out (by rw [hg]; exact (keep_size (w := w) (g := g) (row := none) βC) : w.heap.size ≤ gb298) : w0.heap.size ≤ gb298)); have n7_ := zA_ ((by rw [hg]; exact Nat.ne_of_lt (blk_lt (g := gb290) (o := .cells #[.int .i64 0, .int .i64 0, .int .i64 0, .string (⟨#[]⟩ : ByteArray)] 42 (0, 0)) (zb_ BK290.out)) : gb290 ≠ gb298)); have n8_ := zA_ ((by rw [hg]; exact Nat.ne_of_gt (blk_lt (g := gb290) (o := .cells #[.int .i64 0, .int .i64 0, .int .i64 0, .string (⟨#[]⟩ : ByteArray)] 42 (0, 0)) (zb_ BK290.out)) : gb298 ≠ gb290)); have n9_ := zA_ ((by rw [hg]; exact Nat.ne_of_lt (IsS78.lt (show IsS78 w0 _ g s0_0 t295 t296 t297 from by repeat (first | (with_reducible first | exact HI0.out | apply IsS78.alloc | apply IsS78.drewN | apply IsS78.drew | apply IsS78.set_1 | apply IsS78.set_2 | apply IsS78.set_3 | refine IsS78.far ?_ NB0_290.out _) | exact HI0.out))) : g ≠ gb298)); have n10_ := zA_ ((by rw [hg]; exact Nat.ne_of_gt (IsS78.lt (show IsS78 w0 _ g s0_0 t295 t296 t297 from by repeat (first | (with_reducible first | exact HI0.out | apply IsS78.alloc | apply IsS78.drewN | apply IsS78.drew | apply IsS78.set_1 | apply IsS78.set_2 | apply IsS78.set_3 | refine IsS78.far ?_ NB0_290.out _) | exact HI0.out))) : gb298 ≠ g)); clear HI0 BK290 HK HB; have HI0 := n0_; have BK290 := n1_; have HK := n2_; have HB := n3_; have BK298 := n4_; have GW298 := n5_; have GE298 := n6_; have NB290_298 := n7_; have NB298_290 := n8_; have NB0_298 := n9_; have NB298_0 := n10_; clear n0_ n1_ n2_ n3_ n4_ n5_ n6_ n7_ n8_ n9_ n10_; clear hb hbox hg; have hnb8 := NB298_290.out; have hnc8 := NB290_298.out; have hnb9 := NB298_0.out; have hnc9 := NB0_298.out; have hcz10_0 := cz_ BK298.out 0 (.int .i64 0) rfl; have hcz10_1 := cz_ BK298.out 1 (.int .i64 0) rfl; have hcz10_2 := cz_ BK298.out 2 (.int .i64 0) rfl; have hcz10_3 := cz_ BK298.out 3 (.string (⟨#[]⟩ : ByteArray)) rfl; have hfz10_0 := blk_frozen BK298.out 0; have hfz10_1 := blk_frozen BK298.out 1; have hfz10_2 := blk_frozen BK298.out 2; have hfz10_3 := blk_frozen BK298.out 3) | ((with_reducible refine gate_callee (f := 42) rfl ?_); refine goesL_ (some 7) rfl rfl Tryd.func42 βDa rfl #[.pointer (some ⟨g, 0, none⟩), .int .i64 6] rfl zs_ ?_; (with_reducible refine (spec_l01Src_one.calls g s0_0 t295 t296 t297 6 t299 t300 t301 t302 w0 _ ?side1 ?side2 A3.out).mono ?_); (case side1 => exact βj); (case side2 => exact βl); rintro e w11 ⟨rfl, hi, hb, hk⟩; refine ⟨_, rfl, ?_⟩; have n0_ := zA_ (KeepBut.blk hk (g' := gb290) (o := .cells #[.int .i64 0, .int .i64 0, .int .i64 0, .string (⟨#[]⟩ : ByteArray)] 42 (0, 0)) (zf4_ NB290_298.out NB290_298.out NB290_298.out NB290_298.out BK290.out) NB290_0.out (by simp)); have n1_ := zA_ (KeepBut.blk hk (g' := gb298) (o := .cells #[.int .i64 t291, .int .i64 t292, .int .i64 t293, .string t294] 42 (0, 0)) (by (with_reducible repeat (first | refine blk_drewN ?_ _ | refine blk_drew ?_ | refine blk_alloc ?_ _)); refine blk_put (cs := #[.int .i64 t291, .int .i64 t292, .int .i64 t293, .string (⟨#[]⟩ : ByteArray)]) ?_ 3 _ rfl; (with_reducible repeat (first | refine blk_drewN ?_ _ | refine blk_drew ?_ | refine blk_alloc ?_ _)); refine blk_put (cs := #[.int .i64 t291, .int .i64 t292, .int .i64 0, .string (⟨#[]⟩ : ByteArray)]) ?_ 2 _ rfl; (with_reducible repeat (first | refine blk_drewN ?_ _ | refine blk_drew ?_ | refine blk_alloc ?_ _)); refine blk_put (cs := #[.int .i64 t291, .int .i64 0, .int .i64 0, .string (⟨#[]⟩ : ByteArray)]) ?_ 1 _ rfl; (with_reducible repeat (first | refine blk_drewN ?_ _ | refine blk_drew ?_ | refine blk_alloc ?_ _)); refine blk_put (cs := #[.int .i64 0, .int .i64 0, .int .i64 0, .string (⟨#[]⟩ : ByteArray)]) ?_ 0 _ rfl; (with_reducible repeat (first | refine blk_drewN ?_ _ | refine blk_drew ?_ | refine blk_alloc ?_ _)); exact BK298.out) NB298_0.out (by simp)); have n2_ := zA_ (KeepBut.trans βr hk (.inl rfl)); have n3_ := zA_ (hb); have n4_ := zA_ (hi); clear BK290 BK298 HK HB HI0; have BK290 := n0_; have BK298 := n1_; have HK := n2_; have HB := n3_; have HI0 := n4_; clear n0_ n1_ n2_ n3_ n4_; (try clear hb); (try clear hb2); (try clear hk); (try clear hi)))
 (try simp only [Act.put, List.setIfInBounds_toArray, List.set_cons_zero, List.set_cons_succ])
 go_cut [] (fun wc => ∃ (kq : Nat) (x1001_3 : Int) (x1002_3 : Int) (x1003_3 : Int) (x299000_3 : Int) (x299001_3 : Int) (x299002_3 : Int) (x299003_3 : ByteArray), Aside0 (spec_l01Src_l06Any.j0 kq s0_0 x1001_3 x1002_3 x1003_3 x299000_3 x299001_3 x299002_3 x299003_3 = some (r1, r2, r3, r4, r5, r6, r7)) ∧ Aside0 (kq ≤ k) ∧ Aside0 (wc.heap[gb290]? = some (.cells #[.int .i64 0, .int .i64 0, .int .i64 0, .string (⟨#[]⟩ : ByteArray)] 42 (0, 0))) ∧ Aside0 (wc.heap[gb298]? = some (.cells #[.int .i64 x299000_3, .int .i64 x299001_3, .int .i64 x299002_3, .string x299003_3] 42 (0, 0))) ∧ Aside0 (IsS78 w0 wc g s0_0 x1001_3 x1002_3 x1003_3) ∧ Aside0 (KeepBut w wc g none) ∧ Aside0 (Below w0.heap.size w0 wc))
 case first =>
  have H := HC4.out
  clear HC4
  by_cases c12 : t299 = true
  · subst c12
    have H1 : ((spec_l01Src_n.f s0_0 t300 t301 t302 9).bind fun bt303 => (spec_l01Src_l06Any.j0 k s0_0 bt303.2.1 bt303.2.2.1 bt303.2.2.2 5 0 bt303.1 (⟨#[]⟩ : ByteArray))) = some (r1, r2, r3, r4, r5, r6, r7) := by rw [if_pos rfl] at H; exact H
    clear H
    have H := H1
    clear H1
    replace H := Option.bind_eq_some_iff.mp H
    obtain ⟨⟨t303, t304, t305, t306⟩, A130, H⟩ := H
    replace H : (spec_l01Src_l06Any.j0 k s0_0 t304 t305 t306 5 0 t303 (⟨#[]⟩ : ByteArray)) = some (r1, r2, r3, r4, r5, r6, r7) := H
    have A13 := zA_ A130
    clear A130
    have H' := zA_ H
    clear H
    go_wp2_with (first | ((with_reducible refine gate_callee (f := 32) rfl ?_); refine goesL_ (some 9) rfl rfl Tryd.func32 βDa rfl #[.pointer (some ⟨g, 0, none⟩), .int .i64 9] rfl zs_ ?_; (with_reducible refine (spec_l01Src_n.calls g s0_0 t300 t301 t302 9 t303 t304 t305 t306 w0 _ ?side1 ?side2 A13.out).mono ?_); (case side1 => exact βj); (case side2 => exact βl); rintro e w14 ⟨rfl, hi, hb, hk⟩; refine ⟨_, rfl, ?_⟩; have n0_ := zA_ (KeepBut.blk hk (g' := gb290) (o := .cells #[.int .i64 0, .int .i64 0, .int .i64 0, .string (⟨#[]⟩ : ByteArray)] 42 (0, 0)) (zb_ BK290.out) NB290_0.out (by simp)); have n1_ := zA_ (KeepBut.blk hk (g' := gb298) (o := .cells #[.int .i64 t291, .int .i64 t292, .int .i64 t293, .string t294] 42 (0, 0)) (zb_ BK298.out) NB298_0.out (by simp)); have n2_ := zA_ (KeepBut.trans βr hk (.inl rfl)); have n3_ := zA_ (hb); have n4_ := zA_ (hi); clear BK290 BK298 HK HB HI0; have BK290 := n0_; have BK298 := n1_; have HK := n2_; have HB := n3_; have HI0 := n4_; clear n0_ n1_ n2_ n3_ n4_; (try clear hb); (try clear hb2); (try clear hk); (try clear hi); have hnb15 := NB298_290.out; have hnc15 := NB290_298.out; have hnb16 := NB298_0.out; have hnc16 := NB0_298.out; have hcz17_0 := cz_ BK298.out 0 (.int .i64 t291) rfl; have hcz17_1 := cz_ BK298.out 1 (.int .i64 t292) rfl; have hcz17_2 := cz_ BK298.out 2 (.int .i64 t293) rfl; have hcz17_3 := cz_ BK298.out 3 (.string t294) rfl; have hfz17_0 := blk_frozen BK298.out 0; have hfz17_1 := blk_frozen BK298.out 1; have hfz17_2 := blk_frozen BK298.out 2; have hfz17_3 := blk_frozen BK298.out 3))
    go_meet
    case rel => exact ⟨_, (t304), (t305), (t306), (5), (0), (t303), ((⟨#[]⟩ : ByteArray)), H', ⟨βBa⟩, ⟨zf4_ NB290_298.out NB290_298.out NB290_298.out NB290_298.out BK290.out⟩, ⟨(by (with_reducible repeat (first | refine blk_drewN ?_ _ | refine blk_drew ?_ | refine blk_alloc ?_ _)); refine blk_put (cs := #[.int .i64 5, .int .i64 0, .int .i64 t303, .string t294]) ?_ 3 _ rfl; (with_reducible repeat (first | refine blk_drewN ?_ _ | refine blk_drew ?_ | refine blk_alloc ?_ _)); refine blk_put (cs := #[.int .i64 5, .int .i64 0, .int .i64 t293, .string t294]) ?_ 2 _ rfl; (with_reducible repeat (first | refine blk_drewN ?_ _ | refine blk_drew ?_ | refine blk_alloc ?_ _)); refine blk_put (cs := #[.int .i64 5, .int .i64 t292, .int .i64 t293, .string t294]) ?_ 1 _ rfl; (with_reducible repeat (first | refine blk_drewN ?_ _ | refine blk_drew ?_ | refine blk_alloc ?_ _)); refine blk_put (cs := #[.int .i64 t291, .int .i64 t292, .int .i64 t293, .string t294]) ?_ 0 _ rfl; (with_reducible repeat (first | refine blk_drewN ?_ _ | refine blk_drew ?_ | refine blk_alloc ?_ _)); exact BK298.out)⟩, ⟨βj⟩, ⟨βr⟩, ⟨βl⟩⟩
  · replace c12 := Bool.eq_false_iff.mpr c12
    subst c12
    have H1 : (spec_l01Src_l06Any.j0 k s0_0 t300 t301 t302 t291 t292 t293 t294) = some (r1, r2, r3, r4, r5, r6, r7) := by rw [if_neg (show ¬ (false = true) by decide)] at H; exact H
    clear H
    have H := H1
    clear H1
    have H' := zA_ H
    clear H
    go_wp2
    go_meet
    case rel => exact ⟨_, (t300), (t301), (t302), (t291), (t292), (t293), (t294), H', ⟨βBa⟩, ⟨zb_ BK290.out⟩, ⟨zb_ BK298.out⟩, ⟨βj⟩, ⟨βr⟩, ⟨βl⟩⟩
 case rest =>
  clear HC4
  try clear c1
  try clear p2
  try clear c3
  try clear c4
  try clear c8
  try clear c9
  try clear c12
  try clear c15
  try clear c16
  try clear hcz10_0
  try clear hcz10_1
  try clear hcz10_2
  try clear hcz10_3
  try clear hcz17_0
  try clear hcz17_1
  try clear hcz17_2
  try clear hcz17_3
  try clear hfz10_0
  try clear hfz10_1
  try clear hfz10_2
  try clear hfz10_3
  try clear hfz17_0
  try clear hfz17_1
  try clear hfz17_2
  try clear hfz17_3
  obtain ⟨kq, x1001_3, x1002_3, x1003_3, x299000_3, x299001_3, x299002_3, x299003_3, HA, HJ3, BK290, BK298, HI0, HK, HB⟩ := hcut
  cases kq with
  | zero => exact absurd HA.out (by simp [spec_l01Src_l06Any.j0])
  | succ kj3 =>
   have H := HA.out
   clear HA
   simp only [spec_l01Src_l06Any.j0] at H
   replace H := Option.bind_eq_some_iff.mp H
   obtain ⟨⟨t307, t308, t309, t310⟩, A180, H⟩ := H
   replace H : (if t307 = true then ((spec_l01Src_n.f s0_0 t308 t309 t310 5).bind fun bt311 => (if bt311.1 = 0 then ((spec_l01Src_n.f s0_0 bt311.2.1 bt311.2.2.1 bt311.2.2.2 7).bind fun bt315 => (some (bt315.1, x299001_3, x299002_3, x299003_3, bt315.2.1, bt315.2.2.1, bt315.2.2.2))) else (if bt311.1 = 1 then ((some (([(-1), 7, 8] : List Int) : List Int)).bind fun y319 => ((spec_l01Src_n.f s0_0 bt311.2.1 bt311.2.2.1 bt311.2.2.2 3).bind fun bt322 => (if 0 ≤ bt322.1 then (if bt322.1 < (y319.length : Int) then (some (x299000_3, rd y319 bt322.1, x299002_3, x299003_3, bt322.2.1, bt322.2.2.1, bt322.2.2.2)) else (none)) else (none)))) else (if bt311.1 = 2 then ((some (([(-1), 7, 8, 1000000, 1000001] : List Int) : List Int)).bind fun y327 => ((spec_l01Src_n.f s0_0 bt311.2.1 bt311.2.2.1 bt311.2.2.2 5).bind fun bt330 => (if 0 ≤ bt330.1 then (if bt330.1 < (y327.length : Int) then (some (x299000_3, x299001_3, rd y327 bt330.1, x299003_3, bt330.2.1, bt330.2.2.1, bt330.2.2.2)) else (none)) else (none)))) else (if bt311.1 = 3 then ((spec_l01Src_n.f s0_0 bt311.2.1 bt311.2.2.1 bt311.2.2.2 3).bind fun bt335 => ((spec_l01Src_bytes.f kj3 s0_0 bt335.2.1 bt335.2.2.1 bt335.2.2.2 (wrap64 (7 + bt335.1))).bind fun bt339 => (some (x299000_3, x299001_3, x299002_3, bt339.1, bt339.2.1, bt339.2.2.1, bt339.2.2.2)))) else (some (x299000_3, x299001_3, x299002_3, (⟨#[]⟩ : ByteArray), bt311.2.1, bt311.2.2.1, bt311.2.2.2))))))) else (some (x299000_3, x299001_3, x299002_3, x299003_3, t308, t309, t310))) = some (r1, r2, r3, r4, r5, r6, r7) := H
   have A18 := zA_ A180
   clear A180
   by_cases c19 : t307 = true
   · subst c19
     have H1 : ((spec_l01Src_n.f s0_0 t308 t309 t310 5).bind fun bt311 => (if bt311.1 = 0 then ((spec_l01Src_n.f s0_0 bt311.2.1 bt311.2.2.1 bt311.2.2.2 7).bind fun bt315 => (some (bt315.1, x299001_3, x299002_3, x299003_3, bt315.2.1, bt315.2.2.1, bt315.2.2.2))) else (if bt311.1 = 1 then ((some (([(-1), 7, 8] : List Int) : List Int)).bind fun y319 => ((spec_l01Src_n.f s0_0 bt311.2.1 bt311.2.2.1 bt311.2.2.2 3).bind fun bt322 => (if 0 ≤ bt322.1 then (if bt322.1 < (y319.length : Int) then (some (x299000_3, rd y319 bt322.1, x299002_3, x299003_3, bt322.2.1, bt322.2.2.1, bt322.2.2.2)) else (none)) else (none)))) else (if bt311.1 = 2 then ((some (([(-1), 7, 8, 1000000, 1000001] : List Int) : List Int)).bind fun y327 => ((spec_l01Src_n.f s0_0 bt311.2.1 bt311.2.2.1 bt311.2.2.2 5).bind fun bt330 => (if 0 ≤ bt330.1 then (if bt330.1 < (y327.length : Int) then (some (x299000_3, x299001_3, rd y327 bt330.1, x299003_3, bt330.2.1, bt330.2.2.1, bt330.2.2.2)) else (none)) else (none)))) else (if bt311.1 = 3 then ((spec_l01Src_n.f s0_0 bt311.2.1 bt311.2.2.1 bt311.2.2.2 3).bind fun bt335 => ((spec_l01Src_bytes.f kj3 s0_0 bt335.2.1 bt335.2.2.1 bt335.2.2.2 (wrap64 (7 + bt335.1))).bind fun bt339 => (some (x299000_3, x299001_3, x299002_3, bt339.1, bt339.2.1, bt339.2.2.1, bt339.2.2.2)))) else (some (x299000_3, x299001_3, x299002_3, (⟨#[]⟩ : ByteArray), bt311.2.1, bt311.2.2.1, bt311.2.2.2))))))) = some (r1, r2, r3, r4, r5, r6, r7) := by rw [if_pos rfl] at H; exact H
     clear H
     have H := H1
     clear H1
     replace H := Option.bind_eq_some_iff.mp H
     obtain ⟨⟨t311, t312, t313, t314⟩, A200, H⟩ := H
     replace H : (if t311 = 0 then ((spec_l01Src_n.f s0_0 t312 t313 t314 7).bind fun bt315 => (some (bt315.1, x299001_3, x299002_3, x299003_3, bt315.2.1, bt315.2.2.1, bt315.2.2.2))) else (if t311 = 1 then ((some (([(-1), 7, 8] : List Int) : List Int)).bind fun y319 => ((spec_l01Src_n.f s0_0 t312 t313 t314 3).bind fun bt322 => (if 0 ≤ bt322.1 then (if bt322.1 < (y319.length : Int) then (some (x299000_3, rd y319 bt322.1, x299002_3, x299003_3, bt322.2.1, bt322.2.2.1, bt322.2.2.2)) else (none)) else (none)))) else (if t311 = 2 then ((some (([(-1), 7, 8, 1000000, 1000001] : List Int) : List Int)).bind fun y327 => ((spec_l01Src_n.f s0_0 t312 t313 t314 5).bind fun bt330 => (if 0 ≤ bt330.1 then (if bt330.1 < (y327.length : Int) then (some (x299000_3, x299001_3, rd y327 bt330.1, x299003_3, bt330.2.1, bt330.2.2.1, bt330.2.2.2)) else (none)) else (none)))) else (if t311 = 3 then ((spec_l01Src_n.f s0_0 t312 t313 t314 3).bind fun bt335 => ((spec_l01Src_bytes.f kj3 s0_0 bt335.2.1 bt335.2.2.1 bt335.2.2.2 (wrap64 (7 + bt335.1))).bind fun bt339 => (some (x299000_3, x299001_3, x299002_3, bt339.1, bt339.2.1, bt339.2.2.1, bt339.2.2.2)))) else (some (x299000_3, x299001_3, x299002_3, (⟨#[]⟩ : ByteArray), t312, t313, t314)))))) = some (r1, r2, r3, r4, r5, r6, r7) := H
     have A20 := zA_ A200
     clear A200
     by_cases c21 : t311 = 0
     · rw [if_pos c21] at H
       have c21b0 : (t311 == 0) = true := beq_iff_eq.mpr c21
       have c21b1 : (t311 != 0) = false := bne_eq_false_iff_eq.mpr c21
       clear c21
       replace H := Option.bind_eq_some_iff.mp H
       obtain ⟨⟨t315, t316, t317, t318⟩, A220, H⟩ := H
       replace H : (some (t315, x299001_3, x299002_3, x299003_3, t316, t317, t318)) = some (r1, r2, r3, r4, r5, r6, r7) := H
       have A22 := zA_ A220
       clear A220
       simp only [Option.some.injEq, Prod.mk.injEq] at H
       obtain ⟨rfl, rfl, rfl, rfl, rfl, rfl, rfl⟩ := H
       go_wp2_with (first | ((with_reducible refine gate_callee (f := 42) rfl ?_); refine goesL_ (some 12) rfl rfl Tryd.func42 βDa rfl #[.pointer (some ⟨g, 0, none⟩), .int .i64 10] rfl zs_ ?_; (with_reducible refine (spec_l01Src_one.calls g s0_0 x1001_3 x1002_3 x1003_3 10 true t308 t309 t310 w0 _ ?side1 ?side2 A18.out).mono ?_); (case side1 => exact βj); (case side2 => exact βl); rintro e w23 ⟨rfl, hi, hb, hk⟩; refine ⟨_, rfl, ?_⟩; have n0_ := zA_ (KeepBut.blk hk (g' := gb290) (o := .cells #[.int .i64 0, .int .i64 0, .int .i64 0, .string (⟨#[]⟩ : ByteArray)] 42 (0, 0)) (zb_ BK290.out) NB290_0.out (by simp)); have n1_ := zA_ (KeepBut.blk hk (g' := gb298) (o := .cells #[.int .i64 x299000_3, .int .i64 x299001_3, .int .i64 x299002_3, .string x299003_3] 42 (0, 0)) (zb_ BK298.out) NB298_0.out (by simp)); have n2_ := zA_ (KeepBut.trans βr hk (.inl rfl)); have n3_ := zA_ (hb); have n4_ := zA_ (hi); clear BK290 BK298 HK HB HI0; have BK290 := n0_; have BK298 := n1_; have HK := n2_; have HB := n3_; have HI0 := n4_; clear n0_ n1_ n2_ n3_ n4_; (try clear hb); (try clear hb2); (try clear hk); (try clear hi)) | ((with_reducible refine gate_callee (f := 32) rfl ?_); refine goesL_ (some 14) rfl rfl Tryd.func32 βDa rfl #[.pointer (some ⟨g, 0, none⟩), .int .i64 5] rfl zs_ ?_; (with_reducible refine (spec_l01Src_n.calls g s0_0 t308 t309 t310 5 t311 t312 t313 t314 w0 _ ?side1 ?side2 A20.out).mono ?_); (case side1 => exact βj); (case side2 => exact βl); rintro e w24 ⟨rfl, hi, hb, hk⟩; refine ⟨_, rfl, ?_⟩; have n0_ := zA_ (KeepBut.blk hk (g' := gb290) (o := .cells #[.int .i64 0, .int .i64 0, .int .i64 0, .string (⟨#[]⟩ : ByteArray)] 42 (0, 0)) (zb_ BK290.out) NB290_0.out (by simp)); have n1_ := zA_ (KeepBut.blk hk (g' := gb298) (o := .cells #[.int .i64 x299000_3, .int .i64 x299001_3, .int .i64 x299002_3, .string x299003_3] 42 (0, 0)) (zb_ BK298.out) NB298_0.out (by simp)); have n2_ := zA_ (KeepBut.trans βr hk (.inl rfl)); have n3_ := zA_ (hb); have n4_ := zA_ (hi); clear BK290 BK298 HK HB HI0; have BK290 := n0_; have BK298 := n1_; have HK := n2_; have HB := n3_; have HI0 := n4_; clear n0_ n1_ n2_ n3_ n4_; (try clear hb); (try clear hb2); (try clear hk); (try clear hi)) | ((with_reducible refine gate_callee (f := 32) rfl ?_); refine goesL_ (some 19) rfl rfl Tryd.func32 βDa rfl #[.pointer (some ⟨g, 0, none⟩), .int .i64 7] rfl zs_ ?_; (with_reducible refine (spec_l01Src_n.calls g s0_0 t312 t313 t314 7 t315 t316 t317 t318 w0 _ ?side1 ?side2 A22.out).mono ?_); (case side1 => exact βj); (case side2 => exact βl); rintro e w25 ⟨rfl, hi, hb, hk⟩; refine ⟨_, rfl, ?_⟩; have n0_ := zA_ (KeepBut.blk hk (g' := gb290) (o := .cells #[.int .i64 0, .int .i64 0, .int .i64 0, .string (⟨#[]⟩ : ByteArray)] 42 (0, 0)) (zb_ BK290.out) NB290_0.out (by simp)); have n1_ := zA_ (KeepBut.blk hk (g' := gb298) (o := .cells #[.int .i64 x299000_3, .int .i64 x299001_3, .int .i64 x299002_3, .string x299003_3] 42 (0, 0)) (zb_ BK298.out) NB298_0.out (by simp)); have n2_ := zA_ (KeepBut.trans βr hk (.inl rfl)); have n3_ := zA_ (hb); have n4_ := zA_ (hi); clear BK290 BK298 HK HB HI0; have BK290 := n0_; have BK298 := n1_; have HK := n2_; have HB := n3_; have HI0 := n4_; clear n0_ n1_ n2_ n3_ n4_; (try clear hb); (try clear hb2); (try clear hk); (try clear hi); have hnb26 := NB298_290.out; have hnc26 := NB290_298.out; have hnb27 := NB298_0.out; have hnc27 := NB0_298.out; have hcz28_0 := cz_ BK298.out 0 (.int .i64 x299000_3) rfl; have hcz28_1 := cz_ BK298.out 1 (.int .i64 x299001_3) rfl; have hcz28_2 := cz_ BK298.out 2 (.int .i64 x299002_3) rfl; have hcz28_3 := cz_ BK298.out 3 (.string x299003_3) rfl; have hfz28_0 := blk_frozen BK298.out 0; have hfz28_1 := blk_frozen BK298.out 1; have hfz28_2 := blk_frozen BK298.out 2; have hfz28_3 := blk_frozen BK298.out 3; have hnb29 := NB290_0.out; have hnc29 := NB0_290.out; have hcz30_0 := cz_ BK290.out 0 (.int .i64 0) rfl; have hcz30_1 := cz_ BK290.out 1 (.int .i64 0) rfl; have hcz30_2 := cz_ BK290.out 2 (.int .i64 0) rfl; have hcz30_3 := cz_ BK290.out 3 (.string (⟨#[]⟩ : ByteArray)) rfl; have hfz30_0 := blk_frozen BK290.out 0; have hfz30_1 := blk_frozen BK290.out 1; have hfz30_2 := blk_frozen BK290.out 2; have hfz30_3 := blk_frozen BK290.out 3))
       refine bodyPost_ret (results_cell_row rfl _ _ gb290 42 #[.int .i64 t315, .int .i64 x299001_3, .int .i64 x299002_3, .string x299003_3] (0, 0) _ rfl (by (with_reducible repeat (first | refine blk_drewN ?_ _ | refine blk_drew ?_ | refine blk_alloc ?_ _)); refine blk_put (cs := #[.int .i64 t315, .int .i64 x299001_3, .int .i64 x299002_3, .string (⟨#[]⟩ : ByteArray)]) ?_ 3 _ rfl; (with_reducible repeat (first | refine blk_drewN ?_ _ | refine blk_drew ?_ | refine blk_alloc ?_ _)); refine blk_put (cs := #[.int .i64 t315, .int .i64 x299001_3, .int .i64 0, .string (⟨#[]⟩ : ByteArray)]) ?_ 2 _ rfl; (with_reducible repeat (first | refine blk_drewN ?_ _ | refine blk_drew ?_ | refine blk_alloc ?_ _)); refine blk_put (cs := #[.int .i64 t315, .int .i64 0, .int .i64 0, .string (⟨#[]⟩ : ByteArray)]) ?_ 1 _ rfl; (with_reducible repeat (first | refine blk_drewN ?_ _ | refine blk_drew ?_ | refine blk_alloc ?_ _)); refine blk_put (cs := #[.int .i64 0, .int .i64 0, .int .i64 0, .string (⟨#[]⟩ : ByteArray)]) ?_ 0 _ rfl; (with_reducible repeat (first | refine blk_drewN ?_ _ | refine blk_drew ?_ | refine blk_alloc ?_ _)); refine blk_far ?_ NB290_298.out _; (with_reducible repeat (first | refine blk_drewN ?_ _ | refine blk_drew ?_ | refine blk_alloc ?_ _)); exact BK290.out) Tryd.underlying42 rfl βDa) rfl ?_
       exact ⟨βsa, βj, βl, βr⟩
     · rw [if_neg c21] at H
       have c21b0 : (t311 == 0) = false := beq_eq_false_iff_ne.mpr c21
       have c21b1 : (t311 != 0) = true := bne_iff_ne.mpr c21
       by_cases c31 : t311 = 1
       · rw [if_pos c31] at H
         have c31b0 : (t311 == 1) = true := beq_iff_eq.mpr c31
         have c31b1 : (t311 != 1) = false := bne_eq_false_iff_eq.mpr c31
         clear c31
         obtain ⟨y319, hy319⟩ : ∃ y_ : List Int, y_ = (([(-1), 7, 8] : List Int)) := ⟨_, rfl⟩
         replace H : ((spec_l01Src_n.f s0_0 t312 t313 t314 3).bind fun bt322 => (if 0 ≤ bt322.1 then (if bt322.1 < (y319.length : Int) then (some (x299000_3, rd y319 bt322.1, x299002_3, x299003_3, bt322.2.1, bt322.2.2.1, bt322.2.2.2)) else (none)) else (none))) = some (r1, r2, r3, r4, r5, r6, r7) := by first | (rw [hy319]; with_reducible exact H) | (have H2_ := (Option.bind_some _ _).symm.trans H; rw [hy319]; with_reducible exact H2_) | (have H2_ := (Option.bind_some _ _).symm.trans H; with_reducible exact H2_) | with_reducible exact H | (rw [hy319]; exact H) | exact H
         have Ny319 := zA_ hy319
         clear hy319
         replace H := Option.bind_eq_some_iff.mp H
         obtain ⟨⟨t322, t323, t324, t325⟩, A320, H⟩ := H
         replace H : (if 0 ≤ t322 then (if t322 < (y319.length : Int) then (some (x299000_3, rd y319 t322, x299002_3, x299003_3, t323, t324, t325)) else (none)) else (none)) = some (r1, r2, r3, r4, r5, r6, r7) := H
         have A32 := zA_ A320
         clear A320
         by_cases c33 : 0 ≤ t322
         · rw [if_pos c33] at H
           have c33b0 : decide (0 ≤ t322) = true := decide_eq_true c33
           clear c33
           by_cases c34 : t322 < (y319.length : Int)
           · rw [if_pos c34] at H
             have c34b0 : decide (t322 < (y319.length : Int)) = true := decide_eq_true c34
             clear c34
             simp only [Option.some.injEq, Prod.mk.injEq] at H
             obtain ⟨rfl, rfl, rfl, rfl, rfl, rfl, rfl⟩ := H
             go_wp2_with (first | ((with_reducible refine gate_callee (f := 42) rfl ?_); refine goesL_ (some 12) rfl rfl Tryd.func42 βDa rfl #[.pointer (some ⟨g, 0, none⟩), .int .i64 10] rfl zs_ ?_; (with_reducible refine (spec_l01Src_one.calls g s0_0 x1001_3 x1002_3 x1003_3 10 true t308 t309 t310 w0 _ ?side1 ?side2 A18.out).mono ?_); (case side1 => exact βj); (case side2 => exact βl); rintro e w35 ⟨rfl, hi, hb, hk⟩; refine ⟨_, rfl, ?_⟩; have n0_ := zA_ (KeepBut.blk hk (g' := gb290) (o := .cells #[.int .i64 0, .int .i64 0, .int .i64 0, .string (⟨#[]⟩ : ByteArray)] 42 (0, 0)) (zb_ BK290.out) NB290_0.out (by simp)); have n1_ := zA_ (KeepBut.blk hk (g' := gb298) (o := .cells #[.int .i64 x299000_3, .int .i64 x299001_3, .int .i64 x299002_3, .string x299003_3] 42 (0, 0)) (zb_ BK298.out) NB298_0.out (by simp)); have n2_ := zA_ (KeepBut.trans βr hk (.inl rfl)); have n3_ := zA_ (hb); have n4_ := zA_ (hi); clear BK290 BK298 HK HB HI0; have BK290 := n0_; have BK298 := n1_; have HK := n2_; have HB := n3_; have HI0 := n4_; clear n0_ n1_ n2_ n3_ n4_; (try clear hb); (try clear hb2); (try clear hk); (try clear hi)) | ((with_reducible refine gate_callee (f := 32) rfl ?_); refine goesL_ (some 14) rfl rfl Tryd.func32 βDa rfl #[.pointer (some ⟨g, 0, none⟩), .int .i64 5] rfl zs_ ?_; (with_reducible refine (spec_l01Src_n.calls g s0_0 t308 t309 t310 5 t311 t312 t313 t314 w0 _ ?side1 ?side2 A20.out).mono ?_); (case side1 => exact βj); (case side2 => exact βl); rintro e w36 ⟨rfl, hi, hb, hk⟩; refine ⟨_, rfl, ?_⟩; have n0_ := zA_ (KeepBut.blk hk (g' := gb290) (o := .cells #[.int .i64 0, .int .i64 0, .int .i64 0, .string (⟨#[]⟩ : ByteArray)] 42 (0, 0)) (zb_ BK290.out) NB290_0.out (by simp)); have n1_ := zA_ (KeepBut.blk hk (g' := gb298) (o := .cells #[.int .i64 x299000_3, .int .i64 x299001_3, .int .i64 x299002_3, .string x299003_3] 42 (0, 0)) (zb_ BK298.out) NB298_0.out (by simp)); have n2_ := zA_ (KeepBut.trans βr hk (.inl rfl)); have n3_ := zA_ (hb); have n4_ := zA_ (hi); clear BK290 BK298 HK HB HI0; have BK290 := n0_; have BK298 := n1_; have HK := n2_; have HB := n3_; have HI0 := n4_; clear n0_ n1_ n2_ n3_ n4_; (try clear hb); (try clear hb2); (try clear hk); (try clear hi)) | ((with_reducible refine gate_dst (N := 23) rfl ?_); refine Kd.R_lit (Kd.int .i64) _ 2 ?hg (N := 23) ?hd (xs := ([(-1), 7, 8] : List Int)) (inner := [.int .i64 (-1), .int .i64 7, .int .i64 8]) (ok := fun _ => True) (okp := fun _ => True) ?hr ?hp (fun _ hk => hk) trivial (Below.refl _ _) (Nat.le_refl _) (by simp) ?_; (case hd => exact (by rfl)); (case hg => exact (by rfl)); (case hr => exact βAa); (case hp => exact (Reps.one (show Kd.M (Kd.int .i64) _ _ _ (-1) [.int .i64 (-1)] from rfl) (Reps.one (show Kd.M (Kd.int .i64) _ _ _ 7 [.int .i64 7] from rfl) (Reps.one (show Kd.M (Kd.int .i64) _ _ _ 8 [.int .i64 8] from rfl) (Reps.none _ _))))); intro v320 w37 ho38 hb hg_ hnew_; clear hg_ hnew_; (first | rw [← Ny319.out] at ho38 | (simp only [Int.reduceToNat] at ho38; rw [← Ny319.out] at ho38)); have n0_ := zA_ (Kd.R_lower ho38 (keep_size (w := w) (g := g) (row := none) βr)); have n1_ := zA_ (blk_below (g := gb290) (o := .cells #[.int .i64 0, .int .i64 0, .int .i64 0, .string (⟨#[]⟩ : ByteArray)] 42 (0, 0)) (zb_ BK290.out) hb); have n2_ := zA_ (blk_below (g := gb298) (o := .cells #[.int .i64 x299000_3, .int .i64 x299001_3, .int .i64 x299002_3, .string x299003_3] 42 (0, 0)) (zb_ BK298.out) hb); have n3_ := zA_ (IsS78.below βj hb); have n4_ := zA_ (KeepBut.trans βr (KeepBut.of_below hb g none) (.inl rfl)); have n5_ := zA_ (below_step βl hb); clear BK290 BK298 HI0 HK HB; have HO321 := n0_; have BK290 := n1_; have BK298 := n2_; have HI0 := n3_; have HK := n4_; have HB := n5_; clear n0_ n1_ n2_ n3_ n4_ n5_; clear hb ho38) | ((with_reducible refine gate_callee (f := 32) rfl ?_); refine goesL_ (some 25) rfl rfl Tryd.func32 βDa rfl #[.pointer (some ⟨g, 0, none⟩), .int .i64 3] rfl zs_ ?_; (with_reducible refine (spec_l01Src_n.calls g s0_0 t312 t313 t314 3 t322 t323 t324 t325 w0 _ ?side1 ?side2 A32.out).mono ?_); (case side1 => exact βj); (case side2 => exact βl); rintro e w39 ⟨rfl, hi, hb, hk⟩; refine ⟨_, rfl, ?_⟩; have n0_ := zA_ (KeepBut.blk hk (g' := gb290) (o := .cells #[.int .i64 0, .int .i64 0, .int .i64 0, .string (⟨#[]⟩ : ByteArray)] 42 (0, 0)) (zb_ BK290.out) NB290_0.out (by simp)); have n1_ := zA_ (KeepBut.blk hk (g' := gb298) (o := .cells #[.int .i64 x299000_3, .int .i64 x299001_3, .int .i64 x299002_3, .string x299003_3] 42 (0, 0)) (zb_ BK298.out) NB298_0.out (by simp)); have n2_ := zA_ (Kd.R_mono (Kd.R_keep (IsS78.apart (show IsS78 w0 _ g s0_0 t312 t313 t314 from by repeat (first | (with_reducible first | exact HI0.out | apply IsS78.alloc | apply IsS78.drewN | apply IsS78.drew | apply IsS78.set_1 | apply IsS78.set_2 | apply IsS78.set_3 | refine IsS78.far ?_ NB0_290.out _ | refine IsS78.far ?_ NB0_298.out _) | exact HI0.out)) (zr_ HO321.out) (by decide)) hk (fun _ h => h.2)) (fun _ h => h.1)); have n3_ := zA_ (KeepBut.trans βr hk (.inl rfl)); have n4_ := zA_ (hb); have n5_ := zA_ (hi); clear BK290 BK298 HO321 HK HB HI0; have BK290 := n0_; have BK298 := n1_; have HO321 := n2_; have HK := n3_; have HB := n4_; have HI0 := n5_; clear n0_ n1_ n2_ n3_ n4_ n5_; (try clear hb); (try clear hb2); (try clear hk); (try clear hi); obtain ⟨Ao40, co40, eo40⟩ := Kd.R_slice HO321.out; subst eo40; have p326 : 0 ≤ (t322 : Int) := of_decide_eq_true βxa; have q326 : t322 < (y319.length : Int) := of_decide_eq_true βxa; obtain ⟨ad326, e326, hx326_0⟩ := Kd.at_int (Kd.R_reads' HO321.out).2.2 t322 p326 q326; cases e326; replace p326 := eq_true p326; replace q326 := eq_true q326; have hnb41 := NB298_290.out; have hnc41 := NB290_298.out; have hnb42 := NB298_0.out; have hnc42 := NB0_298.out; have hcz43_0 := cz_ BK298.out 0 (.int .i64 x299000_3) rfl; have hcz43_1 := cz_ BK298.out 1 (.int .i64 x299001_3) rfl; have hcz43_2 := cz_ BK298.out 2 (.int .i64 x299002_3) rfl; have hcz43_3 := cz_ BK298.out 3 (.string x299003_3) rfl; have hfz43_0 := blk_frozen BK298.out 0; have hfz43_1 := blk_frozen BK298.out 1; have hfz43_2 := blk_frozen BK298.out 2; have hfz43_3 := blk_frozen BK298.out 3; have hnb44 := NB290_0.out; have hnc44 := NB0_290.out; have hcz45_0 := cz_ BK290.out 0 (.int .i64 0) rfl; have hcz45_1 := cz_ BK290.out 1 (.int .i64 0) rfl; have hcz45_2 := cz_ BK290.out 2 (.int .i64 0) rfl; have hcz45_3 := cz_ BK290.out 3 (.string (⟨#[]⟩ : ByteArray)) rfl; have hfz45_0 := blk_frozen BK290.out 0; have hfz45_1 := blk_frozen BK290.out 1; have hfz45_2 := blk_frozen BK290.out 2; have hfz45_3 := blk_frozen BK290.out 3))
             refine bodyPost_ret (results_cell_row rfl _ _ gb290 42 #[.int .i64 x299000_3, .int .i64 (rd y319 t322), .int .i64 x299002_3, .string x299003_3] (0, 0) _ rfl (by (with_reducible repeat (first | refine blk_drewN ?_ _ | refine blk_drew ?_ | refine blk_alloc ?_ _)); refine blk_put (cs := #[.int .i64 x299000_3, .int .i64 (rd y319 t322), .int .i64 x299002_3, .string (⟨#[]⟩ : ByteArray)]) ?_ 3 _ rfl; (with_reducible repeat (first | refine blk_drewN ?_ _ | refine blk_drew ?_ | refine blk_alloc ?_ _)); refine blk_put (cs := #[.int .i64 x299000_3, .int .i64 (rd y319 t322), .int .i64 0, .string (⟨#[]⟩ : ByteArray)]) ?_ 2 _ rfl; (with_reducible repeat (first | refine blk_drewN ?_ _ | refine blk_drew ?_ | refine blk_alloc ?_ _)); refine blk_put (cs := #[.int .i64 x299000_3, .int .i64 0, .int .i64 0, .string (⟨#[]⟩ : ByteArray)]) ?_ 1 _ rfl; (with_reducible repeat (first | refine blk_drewN ?_ _ | refine blk_drew ?_ | refine blk_alloc ?_ _)); refine blk_put (cs := #[.int .i64 0, .int .i64 0, .int .i64 0, .string (⟨#[]⟩ : ByteArray)]) ?_ 0 _ rfl; (with_reducible repeat (first | refine blk_drewN ?_ _ | refine blk_drew ?_ | refine blk_alloc ?_ _)); refine blk_far ?_ NB290_298.out _; (with_reducible repeat (first | refine blk_drewN ?_ _ | refine blk_drew ?_ | refine blk_alloc ?_ _)); exact BK290.out) Tryd.underlying42 rfl βDa) rfl ?_
             exact ⟨βsa, βj, βl, βr⟩
           · rw [if_neg c34] at H
             exact absurd H (by simp)
         · rw [if_neg c33] at H
           exact absurd H (by simp)
       · rw [if_neg c31] at H
         have c31b0 : (t311 == 1) = false := beq_eq_false_iff_ne.mpr c31
         have c31b1 : (t311 != 1) = true := bne_iff_ne.mpr c31
         by_cases c46 : t311 = 2
         · rw [if_pos c46] at H
           have c46b0 : (t311 == 2) = true := beq_iff_eq.mpr c46
           have c46b1 : (t311 != 2) = false := bne_eq_false_iff_eq.mpr c46
           clear c46
           obtain ⟨y327, hy327⟩ : ∃ y_ : List Int, y_ = (([(-1), 7, 8, 1000000, 1000001] : List Int)) := ⟨_, rfl⟩
           replace H : ((spec_l01Src_n.f s0_0 t312 t313 t314 5).bind fun bt330 => (if 0 ≤ bt330.1 then (if bt330.1 < (y327.length : Int) then (some (x299000_3, x299001_3, rd y327 bt330.1, x299003_3, bt330.2.1, bt330.2.2.1, bt330.2.2.2)) else (none)) else (none))) = some (r1, r2, r3, r4, r5, r6, r7) := by first | (rw [hy327]; with_reducible exact H) | (have H2_ := (Option.bind_some _ _).symm.trans H; rw [hy327]; with_reducible exact H2_) | (have H2_ := (Option.bind_some _ _).symm.trans H; with_reducible exact H2_) | with_reducible exact H | (rw [hy327]; exact H) | exact H
           have Ny327 := zA_ hy327
           clear hy327
           replace H := Option.bind_eq_some_iff.mp H
           obtain ⟨⟨t330, t331, t332, t333⟩, A470, H⟩ := H
           replace H : (if 0 ≤ t330 then (if t330 < (y327.length : Int) then (some (x299000_3, x299001_3, rd y327 t330, x299003_3, t331, t332, t333)) else (none)) else (none)) = some (r1, r2, r3, r4, r5, r6, r7) := H
           have A47 := zA_ A470
           clear A470
           by_cases c48 : 0 ≤ t330
           · rw [if_pos c48] at H
             have c48b0 : decide (0 ≤ t330) = true := decide_eq_true c48
             clear c48
             by_cases c49 : t330 < (y327.length : Int)
             · rw [if_pos c49] at H
               have c49b0 : decide (t330 < (y327.length : Int)) = true := decide_eq_true c49
               clear c49
               simp only [Option.some.injEq, Prod.mk.injEq] at H
               obtain ⟨rfl, rfl, rfl, rfl, rfl, rfl, rfl⟩ := H
               go_wp2_with (first | ((with_reducible refine gate_callee (f := 42) rfl ?_); refine goesL_ (some 12) rfl rfl Tryd.func42 βDa rfl #[.pointer (some ⟨g, 0, none⟩), .int .i64 10] rfl zs_ ?_; (with_reducible refine (spec_l01Src_one.calls g s0_0 x1001_3 x1002_3 x1003_3 10 true t308 t309 t310 w0 _ ?side1 ?side2 A18.out).mono ?_); (case side1 => exact βj); (case side2 => exact βl); rintro e w50 ⟨rfl, hi, hb, hk⟩; refine ⟨_, rfl, ?_⟩; have n0_ := zA_ (KeepBut.blk hk (g' := gb290) (o := .cells #[.int .i64 0, .int .i64 0, .int .i64 0, .string (⟨#[]⟩ : ByteArray)] 42 (0, 0)) (zb_ BK290.out) NB290_0.out (by simp)); have n1_ := zA_ (KeepBut.blk hk (g' := gb298) (o := .cells #[.int .i64 x299000_3, .int .i64 x299001_3, .int .i64 x299002_3, .string x299003_3] 42 (0, 0)) (zb_ BK298.out) NB298_0.out (by simp)); have n2_ := zA_ (KeepBut.trans βr hk (.inl rfl)); have n3_ := zA_ (hb); have n4_ := zA_ (hi); clear BK290 BK298 HK HB HI0; have BK290 := n0_; have BK298 := n1_; have HK := n2_; have HB := n3_; have HI0 := n4_; clear n0_ n1_ n2_ n3_ n4_; (try clear hb); (try clear hb2); (try clear hk); (try clear hi)) | ((with_reducible refine gate_callee (f := 32) rfl ?_); refine goesL_ (some 14) rfl rfl Tryd.func32 βDa rfl #[.pointer (some ⟨g, 0, none⟩), .int .i64 5] rfl zs_ ?_; (with_reducible refine (spec_l01Src_n.calls g s0_0 t308 t309 t310 5 t311 t312 t313 t314 w0 _ ?side1 ?side2 A20.out).mono ?_); (case side1 => exact βj); (case side2 => exact βl); rintro e w51 ⟨rfl, hi, hb, hk⟩; refine ⟨_, rfl, ?_⟩; have n0_ := zA_ (KeepBut.blk hk (g' := gb290) (o := .cells #[.int .i64 0, .int .i64 0, .int .i64 0, .string (⟨#[]⟩ : ByteArray)] 42 (0, 0)) (zb_ BK290.out) NB290_0.out (by simp)); have n1_ := zA_ (KeepBut.blk hk (g' := gb298) (o := .cells #[.int .i64 x299000_3, .int .i64 x299001_3, .int .i64 x299002_3, .string x299003_3] 42 (0, 0)) (zb_ BK298.out) NB298_0.out (by simp)); have n2_ := zA_ (KeepBut.trans βr hk (.inl rfl)); have n3_ := zA_ (hb); have n4_ := zA_ (hi); clear BK290 BK298 HK HB HI0; have BK290 := n0_; have BK298 := n1_; have HK := n2_; have HB := n3_; have HI0 := n4_; clear n0_ n1_ n2_ n3_ n4_; (try clear hb); (try clear hb2); (try clear hk); (try clear hi)) | ((with_reducible refine gate_dst (N := 31) rfl ?_); refine Kd.R_lit (Kd.int .i64) _ 2 ?hg (N := 31) ?hd (xs := ([(-1), 7, 8, 1000000, 1000001] : List Int)) (inner := [.int .i64 (-1), .int .i64 7, .int .i64 8, .int .i64 1000000, .int .i64 1000001]) (ok := fun _ => True) (okp := fun _ => True) ?hr ?hp (fun _ hk => hk) trivial (Below.refl _ _) (Nat.le_refl _) (by simp) ?_; (case hd => exact (by rfl)); (case hg => exact (by rfl)); (case hr => exact βAa); (case hp => exact (Reps.one (show Kd.M (Kd.int .i64) _ _ _ (-1) [.int .i64 (-1)] from rfl) (Reps.one (show Kd.M (Kd.int .i64) _ _ _ 7 [.int .i64 7] from rfl) (Reps.one (show Kd.M (Kd.int .i64) _ _ _ 8 [.int .i64 8] from rfl) (Reps.one (show Kd.M (Kd.int .i64) _ _ _ 1000000 [.int .i64 1000000] from rfl) (Reps.one (show Kd.M (Kd.int .i64) _ _ _ 1000001 [.int .i64 1000001] from rfl) (Reps.none _ _))))))); intro v328 w52 ho53 hb hg_ hnew_; clear hg_ hnew_; (first | rw [← Ny327.out] at ho53 | (simp only [Int.reduceToNat] at ho53; rw [← Ny327.out] at ho53)); have n0_ := zA_ (Kd.R_lower ho53 (keep_size (w := w) (g := g) (row := none) βr)); have n1_ := zA_ (blk_below (g := gb290) (o := .cells #[.int .i64 0, .int .i64 0, .int .i64 0, .string (⟨#[]⟩ : ByteArray)] 42 (0, 0)) (zb_ BK290.out) hb); have n2_ := zA_ (blk_below (g := gb298) (o := .cells #[.int .i64 x299000_3, .int .i64 x299001_3, .int .i64 x299002_3, .string x299003_3] 42 (0, 0)) (zb_ BK298.out) hb); have n3_ := zA_ (IsS78.below βj hb); have n4_ := zA_ (KeepBut.trans βr (KeepBut.of_below hb g none) (.inl rfl)); have n5_ := zA_ (below_step βl hb); clear BK290 BK298 HI0 HK HB; have HO329 := n0_; have BK290 := n1_; have BK298 := n2_; have HI0 := n3_; have HK := n4_; have HB := n5_; clear n0_ n1_ n2_ n3_ n4_ n5_; clear hb ho53) | ((with_reducible refine gate_callee (f := 32) rfl ?_); refine goesL_ (some 33) rfl rfl Tryd.func32 βDa rfl #[.pointer (some ⟨g, 0, none⟩), .int .i64 5] rfl zs_ ?_; (with_reducible refine (spec_l01Src_n.calls g s0_0 t312 t313 t314 5 t330 t331 t332 t333 w0 _ ?side1 ?side2 A47.out).mono ?_); (case side1 => exact βj); (case side2 => exact βl); rintro e w54 ⟨rfl, hi, hb, hk⟩; refine ⟨_, rfl, ?_⟩; have n0_ := zA_ (KeepBut.blk hk (g' := gb290) (o := .cells #[.int .i64 0, .int .i64 0, .int .i64 0, .string (⟨#[]⟩ : ByteArray)] 42 (0, 0)) (zb_ BK290.out) NB290_0.out (by simp)); have n1_ := zA_ (KeepBut.blk hk (g' := gb298) (o := .cells #[.int .i64 x299000_3, .int .i64 x299001_3, .int .i64 x299002_3, .string x299003_3] 42 (0, 0)) (zb_ BK298.out) NB298_0.out (by simp)); have n2_ := zA_ (Kd.R_mono (Kd.R_keep (IsS78.apart (show IsS78 w0 _ g s0_0 t312 t313 t314 from by repeat (first | (with_reducible first | exact HI0.out | apply IsS78.alloc | apply IsS78.drewN | apply IsS78.drew | apply IsS78.set_1 | apply IsS78.set_2 | apply IsS78.set_3 | refine IsS78.far ?_ NB0_290.out _ | refine IsS78.far ?_ NB0_298.out _) | exact HI0.out)) (zr_ HO329.out) (by decide)) hk (fun _ h => h.2)) (fun _ h => h.1)); have n3_ := zA_ (KeepBut.trans βr hk (.inl rfl)); have n4_ := zA_ (hb); have n5_ := zA_ (hi); clear BK290 BK298 HO329 HK HB HI0; have BK290 := n0_; have BK298 := n1_; have HO329 := n2_; have HK := n3_; have HB := n4_; have HI0 := n5_; clear n0_ n1_ n2_ n3_ n4_ n5_; (try clear hb); (try clear hb2); (try clear hk); (try clear hi); obtain ⟨Ao55, co55, eo55⟩ := Kd.R_slice HO329.out; subst eo55; have p334 : 0 ≤ (t330 : Int) := of_decide_eq_true βxa; have q334 : t330 < (y327.length : Int) := of_decide_eq_true βxa; obtain ⟨ad334, e334, hx334_0⟩ := Kd.at_int (Kd.R_reads' HO329.out).2.2 t330 p334 q334; cases e334; replace p334 := eq_true p334; replace q334 := eq_true q334; have hnb56 := NB298_290.out; have hnc56 := NB290_298.out; have hnb57 := NB298_0.out; have hnc57 := NB0_298.out; have hcz58_0 := cz_ BK298.out 0 (.int .i64 x299000_3) rfl; have hcz58_1 := cz_ BK298.out 1 (.int .i64 x299001_3) rfl; have hcz58_2 := cz_ BK298.out 2 (.int .i64 x299002_3) rfl; have hcz58_3 := cz_ BK298.out 3 (.string x299003_3) rfl; have hfz58_0 := blk_frozen BK298.out 0; have hfz58_1 := blk_frozen BK298.out 1; have hfz58_2 := blk_frozen BK298.out 2; have hfz58_3 := blk_frozen BK298.out 3; have hnb59 := NB290_0.out; have hnc59 := NB0_290.out; have hcz60_0 := cz_ BK290.out 0 (.int .i64 0) rfl; have hcz60_1 := cz_ BK290.out 1 (.int .i64 0) rfl; have hcz60_2 := cz_ BK290.out 2 (.int .i64 0) rfl; have hcz60_3 := cz_ BK290.out 3 (.string (⟨#[]⟩ : ByteArray)) rfl; have hfz60_0 := blk_frozen BK290.out 0; have hfz60_1 := blk_frozen BK290.out 1; have hfz60_2 := blk_frozen BK290.out 2; have hfz60_3 := blk_frozen BK290.out 3))
               refine bodyPost_ret (results_cell_row rfl _ _ gb290 42 #[.int .i64 x299000_3, .int .i64 x299001_3, .int .i64 (rd y327 t330), .string x299003_3] (0, 0) _ rfl (by (with_reducible repeat (first | refine blk_drewN ?_ _ | refine blk_drew ?_ | refine blk_alloc ?_ _)); refine blk_put (cs := #[.int .i64 x299000_3, .int .i64 x299001_3, .int .i64 (rd y327 t330), .string (⟨#[]⟩ : ByteArray)]) ?_ 3 _ rfl; (with_reducible repeat (first | refine blk_drewN ?_ _ | refine blk_drew ?_ | refine blk_alloc ?_ _)); refine blk_put (cs := #[.int .i64 x299000_3, .int .i64 x299001_3, .int .i64 0, .string (⟨#[]⟩ : ByteArray)]) ?_ 2 _ rfl; (with_reducible repeat (first | refine blk_drewN ?_ _ | refine blk_drew ?_ | refine blk_alloc ?_ _)); refine blk_put (cs := #[.int .i64 x299000_3, .int .i64 0, .int .i64 0, .string (⟨#[]⟩ : ByteArray)]) ?_ 1 _ rfl; (with_reducible repeat (first | refine blk_drewN ?_ _ | refine blk_drew ?_ | refine blk_alloc ?_ _)); refine blk_put (cs := #[.int .i64 0, .int .i64 0, .int .i64 0, .string (⟨#[]⟩ : ByteArray)]) ?_ 0 _ rfl; (with_reducible repeat (first | refine blk_drewN ?_ _ | refine blk_drew ?_ | refine blk_alloc ?_ _)); refine blk_far ?_ NB290_298.out _; (with_reducible repeat (first | refine blk_drewN ?_ _ | refine blk_drew ?_ | refine blk_alloc ?_ _)); exact BK290.out) Tryd.underlying42 rfl βDa) rfl ?_
               exact ⟨βsa, βj, βl, βr⟩
             · rw [if_neg c49] at H
               exact absurd H (by simp)
           · rw [if_neg c48] at H
             exact absurd H (by simp)
         · rw [if_neg c46] at H
           have c46b0 : (t311 == 2) = false := beq_eq_false_iff_ne.mpr c46
           have c46b1 : (t311 != 2) = true := bne_iff_ne.mpr c46
           by_cases c61 : t311 = 3
           · rw [if_pos c61] at H
             have c61b0 : (t311 == 3) = true := beq_iff_eq.mpr c61
             have c61b1 : (t311 != 3) = false := bne_eq_false_iff_eq.mpr c61
             clear c61
             replace H := Option.bind_eq_some_iff.mp H
             obtain ⟨⟨t335, t336, t337, t338⟩, A620, H⟩ := H
             replace H : ((spec_l01Src_bytes.f kj3 s0_0 t336 t337 t338 (wrap64 (7 + t335))).bind fun bt339 => (some (x299000_3, x299001_3, x299002_3, bt339.1, bt339.2.1, bt339.2.2.1, bt339.2.2.2))) = some (r1, r2, r3, r4, r5, r6, r7) := H
             have A62 := zA_ A620
             clear A620
             replace H := Option.bind_eq_some_iff.mp H
             obtain ⟨⟨t339, t340, t341, t342⟩, A630, H⟩ := H
             replace H : (some (x299000_3, x299001_3, x299002_3, t339, t340, t341, t342)) = some (r1, r2, r3, r4, r5, r6, r7) := H
             have A63 := zA_ A630
             clear A630
             simp only [Option.some.injEq, Prod.mk.injEq] at H
             obtain ⟨rfl, rfl, rfl, rfl, rfl, rfl, rfl⟩ := H
             go_wp2_with (first | ((with_reducible refine gate_callee (f := 42) rfl ?_); refine goesL_ (some 12) rfl rfl Tryd.func42 βDa rfl #[.pointer (some ⟨g, 0, none⟩), .int .i64 10] rfl zs_ ?_; (with_reducible refine (spec_l01Src_one.calls g s0_0 x1001_3 x1002_3 x1003_3 10 true t308 t309 t310 w0 _ ?side1 ?side2 A18.out).mono ?_); (case side1 => exact βj); (case side2 => exact βl); rintro e w64 ⟨rfl, hi, hb, hk⟩; refine ⟨_, rfl, ?_⟩; have n0_ := zA_ (KeepBut.blk hk (g' := gb290) (o := .cells #[.int .i64 0, .int .i64 0, .int .i64 0, .string (⟨#[]⟩ : ByteArray)] 42 (0, 0)) (zb_ BK290.out) NB290_0.out (by simp)); have n1_ := zA_ (KeepBut.blk hk (g' := gb298) (o := .cells #[.int .i64 x299000_3, .int .i64 x299001_3, .int .i64 x299002_3, .string x299003_3] 42 (0, 0)) (zb_ BK298.out) NB298_0.out (by simp)); have n2_ := zA_ (KeepBut.trans βr hk (.inl rfl)); have n3_ := zA_ (hb); have n4_ := zA_ (hi); clear BK290 BK298 HK HB HI0; have BK290 := n0_; have BK298 := n1_; have HK := n2_; have HB := n3_; have HI0 := n4_; clear n0_ n1_ n2_ n3_ n4_; (try clear hb); (try clear hb2); (try clear hk); (try clear hi)) | ((with_reducible refine gate_callee (f := 32) rfl ?_); refine goesL_ (some 14) rfl rfl Tryd.func32 βDa rfl #[.pointer (some ⟨g, 0, none⟩), .int .i64 5] rfl zs_ ?_; (with_reducible refine (spec_l01Src_n.calls g s0_0 t308 t309 t310 5 t311 t312 t313 t314 w0 _ ?side1 ?side2 A20.out).mono ?_); (case side1 => exact βj); (case side2 => exact βl); rintro e w65 ⟨rfl, hi, hb, hk⟩; refine ⟨_, rfl, ?_⟩; have n0_ := zA_ (KeepBut.blk hk (g' := gb290) (o := .cells #[.int .i64 0, .int .i64 0, .int .i64 0, .string (⟨#[]⟩ : ByteArray)] 42 (0, 0)) (zb_ BK290.out) NB290_0.out (by simp)); have n1_ := zA_ (KeepBut.blk hk (g' := gb298) (o := .cells #[.int .i64 x299000_3, .int .i64 x299001_3, .int .i64 x299002_3, .string x299003_3] 42 (0, 0)) (zb_ BK298.out) NB298_0.out (by simp)); have n2_ := zA_ (KeepBut.trans βr hk (.inl rfl)); have n3_ := zA_ (hb); have n4_ := zA_ (hi); clear BK290 BK298 HK HB HI0; have BK290 := n0_; have BK298 := n1_; have HK := n2_; have HB := n3_; have HI0 := n4_; clear n0_ n1_ n2_ n3_ n4_; (try clear hb); (try clear hb2); (try clear hk); (try clear hi)) | ((with_reducible refine gate_callee (f := 32) rfl ?_); refine goesL_ (some 41) rfl rfl Tryd.func32 βDa rfl #[.pointer (some ⟨g, 0, none⟩), .int .i64 3] rfl zs_ ?_; (with_reducible refine (spec_l01Src_n.calls g s0_0 t312 t313 t314 3 t335 t336 t337 t338 w0 _ ?side1 ?side2 A62.out).mono ?_); (case side1 => exact βj); (case side2 => exact βl); rintro e w66 ⟨rfl, hi, hb, hk⟩; refine ⟨_, rfl, ?_⟩; have n0_ := zA_ (KeepBut.blk hk (g' := gb290) (o := .cells #[.int .i64 0, .int .i64 0, .int .i64 0, .string (⟨#[]⟩ : ByteArray)] 42 (0, 0)) (zb_ BK290.out) NB290_0.out (by simp)); have n1_ := zA_ (KeepBut.blk hk (g' := gb298) (o := .cells #[.int .i64 x299000_3, .int .i64 x299001_3, .int .i64 x299002_3, .string x299003_3] 42 (0, 0)) (zb_ BK298.out) NB298_0.out (by simp)); have n2_ := zA_ (KeepBut.trans βr hk (.inl rfl)); have n3_ := zA_ (hb); have n4_ := zA_ (hi); clear BK290 BK298 HK HB HI0; have BK290 := n0_; have BK298 := n1_; have HK := n2_; have HB := n3_; have HI0 := n4_; clear n0_ n1_ n2_ n3_ n4_; (try clear hb); (try clear hb2); (try clear hk); (try clear hi)) | ((with_reducible refine gate_callee (f := 31) rfl ?_); refine goesL_ (some 43) rfl rfl Tryd.func31 βDa rfl #[.pointer (some ⟨g, 0, none⟩), .int .i64 (wrap64 (7 + t335))] rfl zs_ ?_; (with_reducible refine (spec_l01Src_bytes.calls kj3 g s0_0 t336 t337 t338 (wrap64 (7 + t335)) t339 t340 t341 t342 w0 _ ?side1 ?side2 A63.out).mono ?_); (case side1 => exact βj); (case side2 => exact βl); rintro e w67 ⟨rfl, hi, hb, hk⟩; refine ⟨_, rfl, ?_⟩; have n0_ := zA_ (KeepBut.blk hk (g' := gb290) (o := .cells #[.int .i64 0, .int .i64 0, .int .i64 0, .string (⟨#[]⟩ : ByteArray)] 42 (0, 0)) (zb_ BK290.out) NB290_0.out (by simp)); have n1_ := zA_ (KeepBut.blk hk (g' := gb298) (o := .cells #[.int .i64 x299000_3, .int .i64 x299001_3, .int .i64 x299002_3, .string x299003_3] 42 (0, 0)) (zb_ BK298.out) NB298_0.out (by simp)); have n2_ := zA_ (KeepBut.trans βr hk (.inl rfl)); have n3_ := zA_ (hb); have n4_ := zA_ (hi); clear BK290 BK298 HK HB HI0; have BK290 := n0_; have BK298 := n1_; have HK := n2_; have HB := n3_; have HI0 := n4_; clear n0_ n1_ n2_ n3_ n4_; (try clear hb); (try clear hb2); (try clear hk); (try clear hi); have hnb68 := NB298_290.out; have hnc68 := NB290_298.out; have hnb69 := NB298_0.out; have hnc69 := NB0_298.out; have hcz70_0 := cz_ BK298.out 0 (.int .i64 x299000_3) rfl; have hcz70_1 := cz_ BK298.out 1 (.int .i64 x299001_3) rfl; have hcz70_2 := cz_ BK298.out 2 (.int .i64 x299002_3) rfl; have hcz70_3 := cz_ BK298.out 3 (.string x299003_3) rfl; have hfz70_0 := blk_frozen BK298.out 0; have hfz70_1 := blk_frozen BK298.out 1; have hfz70_2 := blk_frozen BK298.out 2; have hfz70_3 := blk_frozen BK298.out 3; have hnb71 := NB290_0.out; have hnc71 := NB0_290.out; have hcz72_0 := cz_ BK290.out 0 (.int .i64 0) rfl; have hcz72_1 := cz_ BK290.out 1 (.int .i64 0) rfl; have hcz72_2 := cz_ BK290.out 2 (.int .i64 0) rfl; have hcz72_3 := cz_ BK290.out 3 (.string (⟨#[]⟩ : ByteArray)) rfl; have hfz72_0 := blk_frozen BK290.out 0; have hfz72_1 := blk_frozen BK290.out 1; have hfz72_2 := blk_frozen BK290.out 2; have hfz72_3 := blk_frozen BK290.out 3))
             refine bodyPost_ret (results_cell_row rfl _ _ gb290 42 #[.int .i64 x299000_3, .int .i64 x299001_3, .int .i64 x299002_3, .string t339] (0, 0) _ rfl βa Tryd.underlying42 rfl βDa) rfl ?_
             exact ⟨βsa, βj, βl, βr⟩
           · rw [if_neg c61] at H
             have c61b0 : (t311 == 3) = false := beq_eq_false_iff_ne.mpr c61
             have c61b1 : (t311 != 3) = true := bne_iff_ne.mpr c61
             simp only [Option.some.injEq, Prod.mk.injEq] at H
             obtain ⟨rfl, rfl, rfl, rfl, rfl, rfl, rfl⟩ := H
             go_wp2_with (first | ((with_reducible refine gate_callee (f := 42) rfl ?_); refine goesL_ (some 12) rfl rfl Tryd.func42 βDa rfl #[.pointer (some ⟨g, 0, none⟩), .int .i64 10] rfl zs_ ?_; (with_reducible refine (spec_l01Src_one.calls g s0_0 x1001_3 x1002_3 x1003_3 10 true t308 t309 t310 w0 _ ?side1 ?side2 A18.out).mono ?_); (case side1 => exact βj); (case side2 => exact βl); rintro e w73 ⟨rfl, hi, hb, hk⟩; refine ⟨_, rfl, ?_⟩; have n0_ := zA_ (KeepBut.blk hk (g' := gb290) (o := .cells #[.int .i64 0, .int .i64 0, .int .i64 0, .string (⟨#[]⟩ : ByteArray)] 42 (0, 0)) (zb_ BK290.out) NB290_0.out (by simp)); have n1_ := zA_ (KeepBut.blk hk (g' := gb298) (o := .cells #[.int .i64 x299000_3, .int .i64 x299001_3, .int .i64 x299002_3, .string x299003_3] 42 (0, 0)) (zb_ BK298.out) NB298_0.out (by simp)); have n2_ := zA_ (KeepBut.trans βr hk (.inl rfl)); have n3_ := zA_ (hb); have n4_ := zA_ (hi); clear BK290 BK298 HK HB HI0; have BK290 := n0_; have BK298 := n1_; have HK := n2_; have HB := n3_; have HI0 := n4_; clear n0_ n1_ n2_ n3_ n4_; (try clear hb); (try clear hb2); (try clear hk); (try clear hi)) | ((with_reducible refine gate_callee (f := 32) rfl ?_); refine goesL_ (some 14) rfl rfl Tryd.func32 βDa rfl #[.pointer (some ⟨g, 0, none⟩), .int .i64 5] rfl zs_ ?_; (with_reducible refine (spec_l01Src_n.calls g s0_0 t308 t309 t310 5 t311 t312 t313 t314 w0 _ ?side1 ?side2 A20.out).mono ?_); (case side1 => exact βj); (case side2 => exact βl); rintro e w74 ⟨rfl, hi, hb, hk⟩; refine ⟨_, rfl, ?_⟩; have n0_ := zA_ (KeepBut.blk hk (g' := gb290) (o := .cells #[.int .i64 0, .int .i64 0, .int .i64 0, .string (⟨#[]⟩ : ByteArray)] 42 (0, 0)) (zb_ BK290.out) NB290_0.out (by simp)); have n1_ := zA_ (KeepBut.blk hk (g' := gb298) (o := .cells #[.int .i64 x299000_3, .int .i64 x299001_3, .int .i64 x299002_3, .string x299003_3] 42 (0, 0)) (zb_ BK298.out) NB298_0.out (by simp)); have n2_ := zA_ (KeepBut.trans βr hk (.inl rfl)); have n3_ := zA_ (hb); have n4_ := zA_ (hi); clear BK290 BK298 HK HB HI0; have BK290 := n0_; have BK298 := n1_; have HK := n2_; have HB := n3_; have HI0 := n4_; clear n0_ n1_ n2_ n3_ n4_; (try clear hb); (try clear hb2); (try clear hk); (try clear hi); have hnb75 := NB298_290.out; have hnc75 := NB290_298.out; have hnb76 := NB298_0.out; have hnc76 := NB0_298.out; have hcz77_0 := cz_ BK298.out 0 (.int .i64 x299000_3) rfl; have hcz77_1 := cz_ BK298.out 1 (.int .i64 x299001_3) rfl; have hcz77_2 := cz_ BK298.out 2 (.int .i64 x299002_3) rfl; have hcz77_3 := cz_ BK298.out 3 (.string x299003_3) rfl; have hfz77_0 := blk_frozen BK298.out 0; have hfz77_1 := blk_frozen BK298.out 1; have hfz77_2 := blk_frozen BK298.out 2; have hfz77_3 := blk_frozen BK298.out 3; have hnb78 := NB290_0.out; have hnc78 := NB0_290.out; have hcz79_0 := cz_ BK290.out 0 (.int .i64 0) rfl; have hcz79_1 := cz_ BK290.out 1 (.int .i64 0) rfl; have hcz79_2 := cz_ BK290.out 2 (.int .i64 0) rfl; have hcz79_3 := cz_ BK290.out 3 (.string (⟨#[]⟩ : ByteArray)) rfl; have hfz79_0 := blk_frozen BK290.out 0; have hfz79_1 := blk_frozen BK290.out 1; have hfz79_2 := blk_frozen BK290.out 2; have hfz79_3 := blk_frozen BK290.out 3))
             refine bodyPost_ret (results_cell_row rfl _ _ gb290 42 #[.int .i64 x299000_3, .int .i64 x299001_3, .int .i64 x299002_3, .string (⟨#[]⟩ : ByteArray)] (0, 0) _ rfl βa Tryd.underlying42 rfl βDa) rfl ?_
             exact ⟨βsa, βj, βl, βr⟩
   · replace c19 := Bool.eq_false_iff.mpr c19
     subst c19
     have H1 : (some (x299000_3, x299001_3, x299002_3, x299003_3, t308, t309, t310)) = some (r1, r2, r3, r4, r5, r6, r7) := by rw [if_neg (show ¬ (false = true) by decide)] at H; exact H
     clear H
     have H := H1
     clear H1
     simp only [Option.some.injEq, Prod.mk.injEq] at H
     obtain ⟨rfl, rfl, rfl, rfl, rfl, rfl, rfl⟩ := H
     go_wp2_with (first | ((with_reducible refine gate_callee (f := 42) rfl ?_); refine goesL_ (some 12) rfl rfl Tryd.func42 βDa rfl #[.pointer (some ⟨g, 0, none⟩), .int .i64 10] rfl zs_ ?_; (with_reducible refine (spec_l01Src_one.calls g s0_0 x1001_3 x1002_3 x1003_3 10 false t308 t309 t310 w0 _ ?side1 ?side2 A18.out).mono ?_); (case side1 => exact βj); (case side2 => exact βl); rintro e w80 ⟨rfl, hi, hb, hk⟩; refine ⟨_, rfl, ?_⟩; have n0_ := zA_ (KeepBut.blk hk (g' := gb290) (o := .cells #[.int .i64 0, .int .i64 0, .int .i64 0, .string (⟨#[]⟩ : ByteArray)] 42 (0, 0)) (zb_ BK290.out) NB290_0.out (by simp)); have n1_ := zA_ (KeepBut.blk hk (g' := gb298) (o := .cells #[.int .i64 x299000_3, .int .i64 x299001_3, .int .i64 x299002_3, .string x299003_3] 42 (0, 0)) (zb_ BK298.out) NB298_0.out (by simp)); have n2_ := zA_ (KeepBut.trans βr hk (.inl rfl)); have n3_ := zA_ (hb); have n4_ := zA_ (hi); clear BK290 BK298 HK HB HI0; have BK290 := n0_; have BK298 := n1_; have HK := n2_; have HB := n3_; have HI0 := n4_; clear n0_ n1_ n2_ n3_ n4_; (try clear hb); (try clear hb2); (try clear hk); (try clear hi); have hnb81 := NB298_290.out; have hnc81 := NB290_298.out; have hnb82 := NB298_0.out; have hnc82 := NB0_298.out; have hcz83_0 := cz_ BK298.out 0 (.int .i64 x299000_3) rfl; have hcz83_1 := cz_ BK298.out 1 (.int .i64 x299001_3) rfl; have hcz83_2 := cz_ BK298.out 2 (.int .i64 x299002_3) rfl; have hcz83_3 := cz_ BK298.out 3 (.string x299003_3) rfl; have hfz83_0 := blk_frozen BK298.out 0; have hfz83_1 := blk_frozen BK298.out 1; have hfz83_2 := blk_frozen BK298.out 2; have hfz83_3 := blk_frozen BK298.out 3; have hnb84 := NB290_0.out; have hnc84 := NB0_290.out; have hcz85_0 := cz_ BK290.out 0 (.int .i64 0) rfl; have hcz85_1 := cz_ BK290.out 1 (.int .i64 0) rfl; have hcz85_2 := cz_ BK290.out 2 (.int .i64 0) rfl; have hcz85_3 := cz_ BK290.out 3 (.string (⟨#[]⟩ : ByteArray)) rfl; have hfz85_0 := blk_frozen BK290.out 0; have hfz85_1 := blk_frozen BK290.out 1; have hfz85_2 := blk_frozen BK290.out 2; have hfz85_3 := blk_frozen BK290.out 3))
     refine bodyPost_ret (results_cell_row rfl _ _ gb290 42 #[.int .i64 x299000_3, .int .i64 x299001_3, .int .i64 x299002_3, .string x299003_3] (0, 0) _ rfl (by (with_reducible repeat (first | refine blk_drewN ?_ _ | refine blk_drew ?_ | refine blk_alloc ?_ _)); refine blk_put (cs := #[.int .i64 x299000_3, .int .i64 x299001_3, .int .i64 x299002_3, .string (⟨#[]⟩ : ByteArray)]) ?_ 3 _ rfl; (with_reducible repeat (first | refine blk_drewN ?_ _ | refine blk_drew ?_ | refine blk_alloc ?_ _)); refine blk_put (cs := #[.int .i64 x299000_3, .int .i64 x299001_3, .int .i64 0, .string (⟨#[]⟩ : ByteArray)]) ?_ 2 _ rfl; (with_reducible repeat (first | refine blk_drewN ?_ _ | refine blk_drew ?_ | refine blk_alloc ?_ _)); refine blk_put (cs := #[.int .i64 x299000_3, .int .i64 0, .int .i64 0, .string (⟨#[]⟩ : ByteArray)]) ?_ 1 _ rfl; (with_reducible repeat (first | refine blk_drewN ?_ _ | refine blk_drew ?_ | refine blk_alloc ?_ _)); refine blk_put (cs := #[.int .i64 0, .int .i64 0, .int .i64 0, .string (⟨#[]⟩ : ByteArray)]) ?_ 0 _ rfl; (with_reducible repeat (first | refine blk_drewN ?_ _ | refine blk_drew ?_ | refine blk_alloc ?_ _)); exact BK290.out) Tryd.underlying42 rfl βDa) rfl ?_
     exact ⟨βsa, βj, βl, βr⟩
def spec_l03Is.f (a0 : Int) (a1 : Int) (a2 : Int) : Option (Bool) := if a0 ≥ a1 then (some (decide (a0 ≤ a2))) else (some false)
theorem spec_l03Is.calls (a0 : Int) (a1 : Int) (a2 : Int) (r : Bool) (w : World) (h : spec_l03Is.f a0 a1 a2 = some r) :
 Calls Tryd.prog 71 #[.int .i64 a0, .int .i64 a1, .int .i64 a2] w fun e w' => e = .returned (.bool r) ∧ Drawn0 w w' := by
 have H : (if a0 ≥ a1 then (some (decide (a0 ≤ a2))) else (some false)) = some r := h
 clear h
 by_cases c4 : a0 ≥ a1
 · rw [if_pos c4] at H
   have c4b0 : decide (a1 ≤ a0) = true := decide_eq_true c4
   clear c4
   obtain rfl := Option.some.inj H
   go_enter Tryd.func71, Tryd.ntmps71
   go_wp2
   go_ret
   exact ⟨βya, βwa⟩
 · rw [if_neg c4] at H
   have c4b0 : decide (a1 ≤ a0) = false := decide_eq_false c4
   clear c4
   obtain rfl := Option.some.inj H
   go_enter Tryd.func71, Tryd.ntmps71
   go_wp2
   go_ret
   exact ⟨βya, βwa⟩
end Go.Proofs.YtldhjbjbjoomcaaDoor.Q
namespace Go.Proofs.YtldhjbjbjoomcaaDoor.Pure
set_option linter.unusedVariables false
set_option linter.unusedSimpArgs false
open Go Go.RowKit Go.Proofs.YtldhjbjbjoomcaaDoor.Q Go.Proofs.YtldhjbjbjoomcaaDoorW.PrintWords Go.Proofs.YtldhjbjbjoomcaaDoorW.PrintLast Go.Proofs.YtldhjbjbjoomcaaDoorW.PrintMore
theorem within_eq (a b c : Int) : impl_within.f a b c = some (decide (b ≤ a ∧ a ≤ c)) := by
  unfold impl_within.f
  by_cases h : a ≥ b
  · rw [if_pos h]; congr 1; rw [Bool.eq_iff_iff]; simp; omega
  · rw [if_neg h]; congr 1; simp; omega
theorem l03Is_eq (a b c : Int) : spec_l03Is.f a b c = some (decide (b ≤ a ∧ a ≤ c)) := by
  unfold spec_l03Is.f
  by_cases h : a ≥ b
  · rw [if_pos h]; congr 1; rw [Bool.eq_iff_iff]; simp; omega
  · rw [if_neg h]; congr 1; simp; omega
end Go.Proofs.YtldhjbjbjoomcaaDoor.Pure
namespace Go.Proofs.YtldhjbjbjoomcaaDoor.Q
open Go.RowKit Go.Proofs.YtldhjbjbjoomcaaDoorW.PrintWords Go.Proofs.YtldhjbjbjoomcaaDoorW.PrintLast Go.Proofs.YtldhjbjbjoomcaaDoorW.PrintMore
attribute [local go_sem] max2_int min2_int max_two min_two max_three min_three max_four min_four Instr.field asAgg
set_option linter.unusedVariables false
set_option linter.unusedSimpArgs false
set_option maxHeartbeats 8000000
set_option maxRecDepth 100000
def spec_StepRight.f (a0_0 : Int) (a0_1 : Int) (a0_2 : Int) (a0_3 : ByteArray) (a1 : Int) : Option (Bool) := (spec_l03Is.f a1 1 8).bind fun t344 => (if t344 = true then ((spec_l03Is.f a0_1 0 (wrap64 (a1 - 1))).bind fun t345 => ((spec_l03Is.f a0_2 0 (wrap64 (a1 - 1))).bind fun t346 => (if a0_0 = 1 then (if t345 = true then (if a0_2 = 0 then (some (a0_3.toList == ([] : List UInt8))) else (some false)) else (some false)) else (if a0_0 = 2 then (if t345 = true then (if a0_2 = 0 then (some ((a0_3.size : Int) == 8)) else (some false)) else (some false)) else (if a0_0 = 3 then (if t345 = true then (if t346 = true then (some (a0_3.toList == ([] : List UInt8))) else (some false)) else (some false)) else (if a0_0 = 4 then (if t345 = true then (if t346 = true then (some ((a0_3.size : Int) == 8)) else (some false)) else (some false)) else (if a0_0 = 5 then (if a0_1 = 0 then ((spec_l03Is.f a0_2 0 1000000).bind fun t347 => (if t347 = true then (some (a0_3.toList == ([] : List UInt8))) else (some false))) else (some false)) else (some false)))))))) else (some false))
theorem spec_StepRight.calls (a0_0 : Int) (a0_1 : Int) (a0_2 : Int) (a0_3 : ByteArray) (a1 : Int) (r : Bool) (w : World) (h : spec_StepRight.f a0_0 a0_1 a0_2 a0_3 a1 = some r) :
 Calls Tryd.prog 52 #[.agg #[.int .i64 a0_0, .int .i64 a0_1, .int .i64 a0_2, .string a0_3], .int .i64 a1] w fun e w' => e = .returned (.bool r) ∧ Below w.heap.size w w' := by
 have hu42 := Tryd.underlying42
 have HB := zA_ (Below.refl w.heap.size w)
 have H : ((spec_l03Is.f a1 1 8).bind fun t344 => (if t344 = true then ((spec_l03Is.f a0_1 0 (wrap64 (a1 - 1))).bind fun t345 => ((spec_l03Is.f a0_2 0 (wrap64 (a1 - 1))).bind fun t346 => (if a0_0 = 1 then (if t345 = true then (if a0_2 = 0 then (some (a0_3.toList == ([] : List UInt8))) else (some false)) else (some false)) else (if a0_0 = 2 then (if t345 = true then (if a0_2 = 0 then (some ((a0_3.size : Int) == 8)) else (some false)) else (some false)) else (if a0_0 = 3 then (if t345 = true then (if t346 = true then (some (a0_3.toList == ([] : List UInt8))) else (some false)) else (some false)) else (if a0_0 = 4 then (if t345 = true then (if t346 = true then (some ((a0_3.size : Int) == 8)) else (some false)) else (some false)) else (if a0_0 = 5 then (if a0_1 = 0 then ((spec_l03Is.f a0_2 0 1000000).bind fun t347 => (if t347 = true then (some (a0_3.toList == ([] : List UInt8))) else (some false))) else (some false)) else (some false)))))))) else (some false))) = some r := h
 clear h
 replace H := Option.bind_eq_some_iff.mp H
 obtain ⟨t344, A30, H⟩ := H
 replace H : (if t344 = true then ((spec_l03Is.f a0_1 0 (wrap64 (a1 - 1))).bind fun t345 => ((spec_l03Is.f a0_2 0 (wrap64 (a1 - 1))).bind fun t346 => (if a0_0 = 1 then (if t345 = true then (if a0_2 = 0 then (some (a0_3.toList == ([] : List UInt8))) else (some false)) else (some false)) else (if a0_0 = 2 then (if t345 = true then (if a0_2 = 0 then (some ((a0_3.size : Int) == 8)) else (some false)) else (some false)) else (if a0_0 = 3 then (if t345 = true then (if t346 = true then (some (a0_3.toList == ([] : List UInt8))) else (some false)) else (some false)) else (if a0_0 = 4 then (if t345 = true then (if t346 = true then (some ((a0_3.size : Int) == 8)) else (some false)) else (some false)) else (if a0_0 = 5 then (if a0_1 = 0 then ((spec_l03Is.f a0_2 0 1000000).bind fun t347 => (if t347 = true then (some (a0_3.toList == ([] : List UInt8))) else (some false))) else (some false)) else (some false)))))))) else (some false)) = some r := H
 have A3 := zA_ A30
 clear A30
 by_cases c4 : t344 = true
 · subst c4
   have H1 : ((spec_l03Is.f a0_1 0 (wrap64 (a1 - 1))).bind fun t345 => ((spec_l03Is.f a0_2 0 (wrap64 (a1 - 1))).bind fun t346 => (if a0_0 = 1 then (if t345 = true then (if a0_2 = 0 then (some (a0_3.toList == ([] : List UInt8))) else (some false)) else (some false)) else (if a0_0 = 2 then (if t345 = true then (if a0_2 = 0 then (some ((a0_3.size : Int) == 8)) else (some false)) else (some false)) else (if a0_0 = 3 then (if t345 = true then (if t346 = true then (some (a0_3.toList == ([] : List UInt8))) else (some false)) else (some false)) else (if a0_0 = 4 then (if t345 = true then (if t346 = true then (some ((a0_3.size : Int) == 8)) else (some false)) else (some false)) else (if a0_0 = 5 then (if a0_1 = 0 then ((spec_l03Is.f a0_2 0 1000000).bind fun t347 => (if t347 = true then (some (a0_3.toList == ([] : List UInt8))) else (some false))) else (some false)) else (some false)))))))) = some r := by rw [if_pos rfl] at H; exact H
   clear H
   have H := H1
   clear H1
   replace H := Option.bind_eq_some_iff.mp H
   obtain ⟨t345, A50, H⟩ := H
   replace H : ((spec_l03Is.f a0_2 0 (wrap64 (a1 - 1))).bind fun t346 => (if a0_0 = 1 then (if t345 = true then (if a0_2 = 0 then (some (a0_3.toList == ([] : List UInt8))) else (some false)) else (some false)) else (if a0_0 = 2 then (if t345 = true then (if a0_2 = 0 then (some ((a0_3.size : Int) == 8)) else (some false)) else (some false)) else (if a0_0 = 3 then (if t345 = true then (if t346 = true then (some (a0_3.toList == ([] : List UInt8))) else (some false)) else (some false)) else (if a0_0 = 4 then (if t345 = true then (if t346 = true then (some ((a0_3.size : Int) == 8)) else (some false)) else (some false)) else (if a0_0 = 5 then (if a0_1 = 0 then ((spec_l03Is.f a0_2 0 1000000).bind fun t347 => (if t347 = true then (some (a0_3.toList == ([] : List UInt8))) else (some false))) else (some false)) else (some false))))))) = some r := H
   have A5 := zA_ A50
   clear A50
   replace H := Option.bind_eq_some_iff.mp H
   obtain ⟨t346, A60, H⟩ := H
   replace H : (if a0_0 = 1 then (if t345 = true then (if a0_2 = 0 then (some (a0_3.toList == ([] : List UInt8))) else (some false)) else (some false)) else (if a0_0 = 2 then (if t345 = true then (if a0_2 = 0 then (some ((a0_3.size : Int) == 8)) else (some false)) else (some false)) else (if a0_0 = 3 then (if t345 = true then (if t346 = true then (some (a0_3.toList == ([] : List UInt8))) else (some false)) else (some false)) else (if a0_0 = 4 then (if t345 = true then (if t346 = true then (some ((a0_3.size : Int) == 8)) else (some false)) else (some false)) else (if a0_0 = 5 then (if a0_1 = 0 then ((spec_l03Is.f a0_2 0 1000000).bind fun t347 => (if t347 = true then (some (a0_3.toList == ([] : List UInt8))) else (some false))) else (some false)) else (some false)))))) = some r := H
   have A6 := zA_ A60
   clear A60
   by_cases c7 : a0_0 = 1
   · rw [if_pos c7] at H
     have c7b0 : (a0_0 == 1) = true := beq_iff_eq.mpr c7
     have c7b1 : (a0_0 != 1) = false := bne_eq_false_iff_eq.mpr c7
     clear c7
     by_cases c8 : t345 = true
     · subst c8
       have H1 : (if a0_2 = 0 then (some (a0_3.toList == ([] : List UInt8))) else (some false)) = some r := by rw [if_pos rfl] at H; exact H
       clear H
       have H := H1
       clear H1
       by_cases c9 : a0_2 = 0
       · rw [if_pos c9] at H
         have c9b0 : (a0_2 == 0) = true := beq_iff_eq.mpr c9
         have c9b1 : (a0_2 != 0) = false := bne_eq_false_iff_eq.mpr c9
         clear c9
         obtain rfl := Option.some.inj H
         go_enter Tryd.func52, Tryd.ntmps52
         go_wp2_with (first | ((with_reducible refine gate_dst (N := 2) rfl ?_); (try (refine gate_guard (by rfl) ?_; dsimp only)); refine box_event ?hg (N := 2) ?hd (cs := #[.int .i64 a0_0, .int .i64 a0_1, .int .i64 a0_2, .string a0_3]) (t := 42) ?hr ?_; (case hd => exact (by rfl)); (case hg => exact (by rfl)); (case hr => exact βAa); intro gb343 hg w10 hbox hb; have n0_ := zA_ (below_step (zh_ HB.out) hb); have n1_ := zA_ (hbox); have n2_ := zA_ ((by rw [hg]; exact (below_size (zh_ HB.out)) : w.heap.size ≤ gb343)); have n3_ := zA_ ((by rw [hg]; exact (below_size (zh_ HB.out)) : w.heap.size ≤ gb343)); clear HB; have HB := n0_; have BK343 := n1_; have GW343 := n2_; have GE343 := n3_; clear n0_ n1_ n2_ n3_; clear hb hbox hg) | (go_at_call 71; (with_reducible refine (spec_l03Is.calls a1 1 8 true _ A3.out).mono ?_); rintro e w' ⟨rfl, ⟨nd, rfl⟩⟩; have hcz11_0 := cz_ BK343.out 0 (.int .i64 a0_0) rfl; have hcz11_1 := cz_ BK343.out 1 (.int .i64 a0_1) rfl; have hcz11_2 := cz_ BK343.out 2 (.int .i64 a0_2) rfl; have hcz11_3 := cz_ BK343.out 3 (.string a0_3) rfl; have hfz11_0 := blk_frozen BK343.out 0; have hfz11_1 := blk_frozen BK343.out 1; have hfz11_2 := blk_frozen BK343.out 2; have hfz11_3 := blk_frozen BK343.out 3; (try exact βia)) | (go_at_call 71; (with_reducible refine (spec_l03Is.calls a0_1 0 (wrap64 (a1 - 1)) true _ A5.out).mono ?_); rintro e w' ⟨rfl, ⟨nd, rfl⟩⟩; (try exact βia)) | (go_at_call 71; (with_reducible refine (spec_l03Is.calls a0_2 0 (wrap64 (a1 - 1)) t346 _ A6.out).mono ?_); rintro e w' ⟨rfl, ⟨nd, rfl⟩⟩; (try exact βia)))
         repeat (go_quiet (first | ((with_reducible refine gate_dst (N := 2) rfl ?_); (try (refine gate_guard (by rfl) ?_; dsimp only)); refine box_event ?hg (N := 2) ?hd (cs := #[.int .i64 a0_0, .int .i64 a0_1, .int .i64 a0_2, .string a0_3]) (t := 42) ?hr ?_; (case hd => exact (by rfl)); (case hg => exact (by rfl)); (case hr => exact βAa); intro gb343 hg w10 hbox hb; have n0_ := zA_ (below_step (zh_ HB.out) hb); have n1_ := zA_ (hbox); have n2_ := zA_ ((by rw [hg]; exact (below_size (zh_ HB.out)) : w.heap.size ≤ gb343)); have n3_ := zA_ ((by rw [hg]; exact (below_size (zh_ HB.out)) : w.heap.size ≤ gb343)); clear HB; have HB := n0_; have BK343 := n1_; have GW343 := n2_; have GE343 := n3_; clear n0_ n1_ n2_ n3_; clear hb hbox hg) | (go_at_call 71; (with_reducible refine (spec_l03Is.calls a1 1 8 true _ A3.out).mono ?_); rintro e w' ⟨rfl, ⟨nd, rfl⟩⟩; have hcz11_0 := cz_ BK343.out 0 (.int .i64 a0_0) rfl; have hcz11_1 := cz_ BK343.out 1 (.int .i64 a0_1) rfl; have hcz11_2 := cz_ BK343.out 2 (.int .i64 a0_2) rfl; have hcz11_3 := cz_ BK343.out 3 (.string a0_3) rfl; have hfz11_0 := blk_frozen BK343.out 0; have hfz11_1 := blk_frozen BK343.out 1; have hfz11_2 := blk_frozen BK343.out 2; have hfz11_3 := blk_frozen BK343.out 3; (try exact βia)) | (go_at_call 71; (with_reducible refine (spec_l03Is.calls a0_1 0 (wrap64 (a1 - 1)) true _ A5.out).mono ?_); rintro e w' ⟨rfl, ⟨nd, rfl⟩⟩; (try exact βia)) | (go_at_call 71; (with_reducible refine (spec_l03Is.calls a0_2 0 (wrap64 (a1 - 1)) t346 _ A6.out).mono ?_); rintro e w' ⟨rfl, ⟨nd, rfl⟩⟩; (try exact βia))); try go_wp2_with (first | ((with_reducible refine gate_dst (N := 2) rfl ?_); (try (refine gate_guard (by rfl) ?_; dsimp only)); refine box_event ?hg (N := 2) ?hd (cs := #[.int .i64 a0_0, .int .i64 a0_1, .int .i64 a0_2, .string a0_3]) (t := 42) ?hr ?_; (case hd => exact (by rfl)); (case hg => exact (by rfl)); (case hr => exact βAa); intro gb343 hg w10 hbox hb; have n0_ := zA_ (below_step (zh_ HB.out) hb); have n1_ := zA_ (hbox); have n2_ := zA_ ((by rw [hg]; exact (below_size (zh_ HB.out)) : w.heap.size ≤ gb343)); have n3_ := zA_ ((by rw [hg]; exact (below_size (zh_ HB.out)) : w.heap.size ≤ gb343)); clear HB; have HB := n0_; have BK343 := n1_; have GW343 := n2_; have GE343 := n3_; clear n0_ n1_ n2_ n3_; clear hb hbox hg) | (go_at_call 71; (with_reducible refine (spec_l03Is.calls a1 1 8 true _ A3.out).mono ?_); rintro e w' ⟨rfl, ⟨nd, rfl⟩⟩; have hcz11_0 := cz_ BK343.out 0 (.int .i64 a0_0) rfl; have hcz11_1 := cz_ BK343.out 1 (.int .i64 a0_1) rfl; have hcz11_2 := cz_ BK343.out 2 (.int .i64 a0_2) rfl; have hcz11_3 := cz_ BK343.out 3 (.string a0_3) rfl; have hfz11_0 := blk_frozen BK343.out 0; have hfz11_1 := blk_frozen BK343.out 1; have hfz11_2 := blk_frozen BK343.out 2; have hfz11_3 := blk_frozen BK343.out 3; (try exact βia)) | (go_at_call 71; (with_reducible refine (spec_l03Is.calls a0_1 0 (wrap64 (a1 - 1)) true _ A5.out).mono ?_); rintro e w' ⟨rfl, ⟨nd, rfl⟩⟩; (try exact βia)) | (go_at_call 71; (with_reducible refine (spec_l03Is.calls a0_2 0 (wrap64 (a1 - 1)) t346 _ A6.out).mono ?_); rintro e w' ⟨rfl, ⟨nd, rfl⟩⟩; (try exact βia))))
         go_ret
         exact ⟨βsa, βP⟩
       · rw [if_neg c9] at H
         have c9b0 : (a0_2 == 0) = false := beq_eq_false_iff_ne.mpr c9
         have c9b1 : (a0_2 != 0) = true := bne_iff_ne.mpr c9
         obtain rfl := Option.some.inj H
         go_enter Tryd.func52, Tryd.ntmps52
         go_wp2_with (first | ((with_reducible refine gate_dst (N := 2) rfl ?_); (try (refine gate_guard (by rfl) ?_; dsimp only)); refine box_event ?hg (N := 2) ?hd (cs := #[.int .i64 a0_0, .int .i64 a0_1, .int .i64 a0_2, .string a0_3]) (t := 42) ?hr ?_; (case hd => exact (by rfl)); (case hg => exact (by rfl)); (case hr => exact βAa); intro gb343 hg w12 hbox hb; have n0_ := zA_ (below_step (zh_ HB.out) hb); have n1_ := zA_ (hbox); have n2_ := zA_ ((by rw [hg]; exact (below_size (zh_ HB.out)) : w.heap.size ≤ gb343)); have n3_ := zA_ ((by rw [hg]; exact (below_size (zh_ HB.out)) : w.heap.size ≤ gb343)); clear HB; have HB := n0_; have BK343 := n1_; have GW343 := n2_; have GE343 := n3_; clear n0_ n1_ n2_ n3_; clear hb hbox hg) | (go_at_call 71; (with_reducible refine (spec_l03Is.calls a1 1 8 true _ A3.out).mono ?_); rintro e w' ⟨rfl, ⟨nd, rfl⟩⟩; have hcz13_0 := cz_ BK343.out 0 (.int .i64 a0_0) rfl; have hcz13_1 := cz_ BK343.out 1 (.int .i64 a0_1) rfl; have hcz13_2 := cz_ BK343.out 2 (.int .i64 a0_2) rfl; have hcz13_3 := cz_ BK343.out 3 (.string a0_3) rfl; have hfz13_0 := blk_frozen BK343.out 0; have hfz13_1 := blk_frozen BK343.out 1; have hfz13_2 := blk_frozen BK343.out 2; have hfz13_3 := blk_frozen BK343.out 3; (try exact βia)) | (go_at_call 71; (with_reducible refine (spec_l03Is.calls a0_1 0 (wrap64 (a1 - 1)) true _ A5.out).mono ?_); rintro e w' ⟨rfl, ⟨nd, rfl⟩⟩; (try exact βia)) | (go_at_call 71; (with_reducible refine (spec_l03Is.calls a0_2 0 (wrap64 (a1 - 1)) t346 _ A6.out).mono ?_); rintro e w' ⟨rfl, ⟨nd, rfl⟩⟩; (try exact βia)))
         repeat (go_quiet (first | ((with_reducible refine gate_dst (N := 2) rfl ?_); (try (refine gate_guard (by rfl) ?_; dsimp only)); refine box_event ?hg (N := 2) ?hd (cs := #[.int .i64 a0_0, .int .i64 a0_1, .int .i64 a0_2, .string a0_3]) (t := 42) ?hr ?_; (case hd => exact (by rfl)); (case hg => exact (by rfl)); (case hr => exact βAa); intro gb343 hg w12 hbox hb; have n0_ := zA_ (below_step (zh_ HB.out) hb); have n1_ := zA_ (hbox); have n2_ := zA_ ((by rw [hg]; exact (below_size (zh_ HB.out)) : w.heap.size ≤ gb343)); have n3_ := zA_ ((by rw [hg]; exact (below_size (zh_ HB.out)) : w.heap.size ≤ gb343)); clear HB; have HB := n0_; have BK343 := n1_; have GW343 := n2_; have GE343 := n3_; clear n0_ n1_ n2_ n3_; clear hb hbox hg) | (go_at_call 71; (with_reducible refine (spec_l03Is.calls a1 1 8 true _ A3.out).mono ?_); rintro e w' ⟨rfl, ⟨nd, rfl⟩⟩; have hcz13_0 := cz_ BK343.out 0 (.int .i64 a0_0) rfl; have hcz13_1 := cz_ BK343.out 1 (.int .i64 a0_1) rfl; have hcz13_2 := cz_ BK343.out 2 (.int .i64 a0_2) rfl; have hcz13_3 := cz_ BK343.out 3 (.string a0_3) rfl; have hfz13_0 := blk_frozen BK343.out 0; have hfz13_1 := blk_frozen BK343.out 1; have hfz13_2 := blk_frozen BK343.out 2; have hfz13_3 := blk_frozen BK343.out 3; (try exact βia)) | (go_at_call 71; (with_reducible refine (spec_l03Is.calls a0_1 0 (wrap64 (a1 - 1)) true _ A5.out).mono ?_); rintro e w' ⟨rfl, ⟨nd, rfl⟩⟩; (try exact βia)) | (go_at_call 71; (with_reducible refine (spec_l03Is.calls a0_2 0 (wrap64 (a1 - 1)) t346 _ A6.out).mono ?_); rintro e w' ⟨rfl, ⟨nd, rfl⟩⟩; (try exact βia))); try go_wp2_with (first | ((with_reducible refine gate_dst (N := 2) rfl ?_); (try (refine gate_guard (by rfl) ?_; dsimp only)); refine box_event ?hg (N := 2) ?hd (cs := #[.int .i64 a0_0, .int .i64 a0_1, .int .i64 a0_2, .string a0_3]) (t := 42) ?hr ?_; (case hd => exact (by rfl)); (case hg => exact (by rfl)); (case hr => exact βAa); intro gb343 hg w12 hbox hb; have n0_ := zA_ (below_step (zh_ HB.out) hb); have n1_ := zA_ (hbox); have n2_ := zA_ ((by rw [hg]; exact (below_size (zh_ HB.out)) : w.heap.size ≤ gb343)); have n3_ := zA_ ((by rw [hg]; exact (below_size (zh_ HB.out)) : w.heap.size ≤ gb343)); clear HB; have HB := n0_; have BK343 := n1_; have GW343 := n2_; have GE343 := n3_; clear n0_ n1_ n2_ n3_; clear hb hbox hg) | (go_at_call 71; (with_reducible refine (spec_l03Is.calls a1 1 8 true _ A3.out).mono ?_); rintro e w' ⟨rfl, ⟨nd, rfl⟩⟩; have hcz13_0 := cz_ BK343.out 0 (.int .i64 a0_0) rfl; have hcz13_1 := cz_ BK343.out 1 (.int .i64 a0_1) rfl; have hcz13_2 := cz_ BK343.out 2 (.int .i64 a0_2) rfl; have hcz13_3 := cz_ BK343.out 3 (.string a0_3) rfl; have hfz13_0 := blk_frozen BK343.out 0; have hfz13_1 := blk_frozen BK343.out 1; have hfz13_2 := blk_frozen BK343.out 2; have hfz13_3 := blk_frozen BK343.out 3; (try exact βia)) | (go_at_call 71; (with_reducible refine (spec_l03Is.calls a0_1 0 (wrap64 (a1 - 1)) true _ A5.out).mono ?_); rintro e w' ⟨rfl, ⟨nd, rfl⟩⟩; (try exact βia)) | (go_at_call 71; (with_reducible refine (spec_l03Is.calls a0_2 0 (wrap64 (a1 - 1)) t346 _ A6.out).mono ?_); rintro e w' ⟨rfl, ⟨nd, rfl⟩⟩; (try exact βia))))
         go_ret
         exact ⟨βsa, βP⟩
     · replace c8 := Bool.eq_false_iff.mpr c8
       subst c8
       have H1 : (some false) = some r := by rw [if_neg (show ¬ (false = true) by decide)] at H; exact H
       clear H
       have H := H1
       clear H1
       obtain rfl := Option.some.inj H
       go_enter Tryd.func52, Tryd.ntmps52
       go_wp2_with (first | ((with_reducible refine gate_dst (N := 2) rfl ?_); (try (refine gate_guard (by rfl) ?_; dsimp only)); refine box_event ?hg (N := 2) ?hd (cs := #[.int .i64 a0_0, .int .i64 a0_1, .int .i64 a0_2, .string a0_3]) (t := 42) ?hr ?_; (case hd => exact (by rfl)); (case hg => exact (by rfl)); (case hr => exact βAa); intro gb343 hg w14 hbox hb; have n0_ := zA_ (below_step (zh_ HB.out) hb); have n1_ := zA_ (hbox); have n2_ := zA_ ((by rw [hg]; exact (below_size (zh_ HB.out)) : w.heap.size ≤ gb343)); have n3_ := zA_ ((by rw [hg]; exact (below_size (zh_ HB.out)) : w.heap.size ≤ gb343)); clear HB; have HB := n0_; have BK343 := n1_; have GW343 := n2_; have GE343 := n3_; clear n0_ n1_ n2_ n3_; clear hb hbox hg) | (go_at_call 71; (with_reducible refine (spec_l03Is.calls a1 1 8 true _ A3.out).mono ?_); rintro e w' ⟨rfl, ⟨nd, rfl⟩⟩; have hcz15_0 := cz_ BK343.out 0 (.int .i64 a0_0) rfl; have hcz15_1 := cz_ BK343.out 1 (.int .i64 a0_1) rfl; have hcz15_2 := cz_ BK343.out 2 (.int .i64 a0_2) rfl; have hcz15_3 := cz_ BK343.out 3 (.string a0_3) rfl; have hfz15_0 := blk_frozen BK343.out 0; have hfz15_1 := blk_frozen BK343.out 1; have hfz15_2 := blk_frozen BK343.out 2; have hfz15_3 := blk_frozen BK343.out 3; (try exact βia)) | (go_at_call 71; (with_reducible refine (spec_l03Is.calls a0_1 0 (wrap64 (a1 - 1)) false _ A5.out).mono ?_); rintro e w' ⟨rfl, ⟨nd, rfl⟩⟩; (try exact βia)) | (go_at_call 71; (with_reducible refine (spec_l03Is.calls a0_2 0 (wrap64 (a1 - 1)) t346 _ A6.out).mono ?_); rintro e w' ⟨rfl, ⟨nd, rfl⟩⟩; (try exact βia)))
       repeat (go_quiet (first | ((with_reducible refine gate_dst (N := 2) rfl ?_); (try (refine gate_guard (by rfl) ?_; dsimp only)); refine box_event ?hg (N := 2) ?hd (cs := #[.int .i64 a0_0, .int .i64 a0_1, .int .i64 a0_2, .string a0_3]) (t := 42) ?hr ?_; (case hd => exact (by rfl)); (case hg => exact (by rfl)); (case hr => exact βAa); intro gb343 hg w14 hbox hb; have n0_ := zA_ (below_step (zh_ HB.out) hb); have n1_ := zA_ (hbox); have n2_ := zA_ ((by rw [hg]; exact (below_size (zh_ HB.out)) : w.heap.size ≤ gb343)); have n3_ := zA_ ((by rw [hg]; exact (below_size (zh_ HB.out)) : w.heap.size ≤ gb343)); clear HB; have HB := n0_; have BK343 := n1_; have GW343 := n2_; have GE343 := n3_; clear n0_ n1_ n2_ n3_; clear hb hbox hg) | (go_at_call 71; (with_reducible refine (spec_l03Is.calls a1 1 8 true _ A3.out).mono ?_); rintro e w' ⟨rfl, ⟨nd, rfl⟩⟩; have hcz15_0 := cz_ BK343.out 0 (.int .i64 a0_0) rfl; have hcz15_1 := cz_ BK343.out 1 (.int .i64 a0_1) rfl; have hcz15_2 := cz_ BK343.out 2 (.int .i64 a0_2) rfl; have hcz15_3 := cz_ BK343.out 3 (.string a0_3) rfl; have hfz15_0 := blk_frozen BK343.out 0; have hfz15_1 := blk_frozen BK343.out 1; have hfz15_2 := blk_frozen BK343.out 2; have hfz15_3 := blk_frozen BK343.out 3; (try exact βia)) | (go_at_call 71; (with_reducible refine (spec_l03Is.calls a0_1 0 (wrap64 (a1 - 1)) false _ A5.out).mono ?_); rintro e w' ⟨rfl, ⟨nd, rfl⟩⟩; (try exact βia)) | (go_at_call 71; (with_reducible refine (spec_l03Is.calls a0_2 0 (wrap64 (a1 - 1)) t346 _ A6.out).mono ?_); rintro e w' ⟨rfl, ⟨nd, rfl⟩⟩; (try exact βia))); try go_wp2_with (first | ((with_reducible refine gate_dst (N := 2) rfl ?_); (try (refine gate_guard (by rfl) ?_; dsimp only)); refine box_event ?hg (N := 2) ?hd (cs := #[.int .i64 a0_0, .int .i64 a0_1, .int .i64 a0_2, .string a0_3]) (t := 42) ?hr ?_; (case hd => exact (by rfl)); (case hg => exact (by rfl)); (case hr => exact βAa); intro gb343 hg w14 hbox hb; have n0_ := zA_ (below_step (zh_ HB.out) hb); have n1_ := zA_ (hbox); have n2_ := zA_ ((by rw [hg]; exact (below_size (zh_ HB.out)) : w.heap.size ≤ gb343)); have n3_ := zA_ ((by rw [hg]; exact (below_size (zh_ HB.out)) : w.heap.size ≤ gb343)); clear HB; have HB := n0_; have BK343 := n1_; have GW343 := n2_; have GE343 := n3_; clear n0_ n1_ n2_ n3_; clear hb hbox hg) | (go_at_call 71; (with_reducible refine (spec_l03Is.calls a1 1 8 true _ A3.out).mono ?_); rintro e w' ⟨rfl, ⟨nd, rfl⟩⟩; have hcz15_0 := cz_ BK343.out 0 (.int .i64 a0_0) rfl; have hcz15_1 := cz_ BK343.out 1 (.int .i64 a0_1) rfl; have hcz15_2 := cz_ BK343.out 2 (.int .i64 a0_2) rfl; have hcz15_3 := cz_ BK343.out 3 (.string a0_3) rfl; have hfz15_0 := blk_frozen BK343.out 0; have hfz15_1 := blk_frozen BK343.out 1; have hfz15_2 := blk_frozen BK343.out 2; have hfz15_3 := blk_frozen BK343.out 3; (try exact βia)) | (go_at_call 71; (with_reducible refine (spec_l03Is.calls a0_1 0 (wrap64 (a1 - 1)) false _ A5.out).mono ?_); rintro e w' ⟨rfl, ⟨nd, rfl⟩⟩; (try exact βia)) | (go_at_call 71; (with_reducible refine (spec_l03Is.calls a0_2 0 (wrap64 (a1 - 1)) t346 _ A6.out).mono ?_); rintro e w' ⟨rfl, ⟨nd, rfl⟩⟩; (try exact βia))))
       go_ret
       exact ⟨βsa, βP⟩
   · rw [if_neg c7] at H
     have c7b0 : (a0_0 == 1) = false := beq_eq_false_iff_ne.mpr c7
     have c7b1 : (a0_0 != 1) = true := bne_iff_ne.mpr c7
     by_cases c16 : a0_0 = 2
     · rw [if_pos c16] at H
       have c16b0 : (a0_0 == 2) = true := beq_iff_eq.mpr c16
       have c16b1 : (a0_0 != 2) = false := bne_eq_false_iff_eq.mpr c16
       clear c16
       by_cases c17 : t345 = true
       · subst c17
         have H1 : (if a0_2 = 0 then (some ((a0_3.size : Int) == 8)) else (some false)) = some r := by rw [if_pos rfl] at H; exact H
         clear H
         have H := H1
         clear H1
         by_cases c18 : a0_2 = 0
         · rw [if_pos c18] at H
           have c18b0 : (a0_2 == 0) = true := beq_iff_eq.mpr c18
           have c18b1 : (a0_2 != 0) = false := bne_eq_false_iff_eq.mpr c18
           clear c18
           obtain rfl := Option.some.inj H
           go_enter Tryd.func52, Tryd.ntmps52
           go_wp2_with (first | ((with_reducible refine gate_dst (N := 2) rfl ?_); (try (refine gate_guard (by rfl) ?_; dsimp only)); refine box_event ?hg (N := 2) ?hd (cs := #[.int .i64 a0_0, .int .i64 a0_1, .int .i64 a0_2, .string a0_3]) (t := 42) ?hr ?_; (case hd => exact (by rfl)); (case hg => exact (by rfl)); (case hr => exact βAa); intro gb343 hg w19 hbox hb; have n0_ := zA_ (below_step (zh_ HB.out) hb); have n1_ := zA_ (hbox); have n2_ := zA_ ((by rw [hg]; exact (below_size (zh_ HB.out)) : w.heap.size ≤ gb343)); have n3_ := zA_ ((by rw [hg]; exact (below_size (zh_ HB.out)) : w.heap.size ≤ gb343)); clear HB; have HB := n0_; have BK343 := n1_; have GW343 := n2_; have GE343 := n3_; clear n0_ n1_ n2_ n3_; clear hb hbox hg) | (go_at_call 71; (with_reducible refine (spec_l03Is.calls a1 1 8 true _ A3.out).mono ?_); rintro e w' ⟨rfl, ⟨nd, rfl⟩⟩; have hcz20_0 := cz_ BK343.out 0 (.int .i64 a0_0) rfl; have hcz20_1 := cz_ BK343.out 1 (.int .i64 a0_1) rfl; have hcz20_2 := cz_ BK343.out 2 (.int .i64 a0_2) rfl; have hcz20_3 := cz_ BK343.out 3 (.string a0_3) rfl; have hfz20_0 := blk_frozen BK343.out 0; have hfz20_1 := blk_frozen BK343.out 1; have hfz20_2 := blk_frozen BK343.out 2; have hfz20_3 := blk_frozen BK343.out 3; (try exact βia)) | (go_at_call 71; (with_reducible refine (spec_l03Is.calls a0_1 0 (wrap64 (a1 - 1)) true _ A5.out).mono ?_); rintro e w' ⟨rfl, ⟨nd, rfl⟩⟩; (try exact βia)) | (go_at_call 71; (with_reducible refine (spec_l03Is.calls a0_2 0 (wrap64 (a1 - 1)) t346 _ A6.out).mono ?_); rintro e w' ⟨rfl, ⟨nd, rfl⟩⟩; (try exact βia)))
           repeat (go_quiet (first | ((with_reducible refine gate_dst (N := 2) rfl ?_); (try (refine gate_guard (by rfl) ?_; dsimp only)); refine box_event ?hg (N := 2) ?hd (cs := #[.int .i64 a0_0, .int .i64 a0_1, .int .i64 a0_2, .string a0_3]) (t := 42) ?hr ?_; (case hd => exact (by rfl)); (case hg => exact (by rfl)); (case hr => exact βAa); intro gb343 hg w19 hbox hb; have n0_ := zA_ (below_step (zh_ HB.out) hb); have n1_ := zA_ (hbox); have n2_ := zA_ ((by rw [hg]; exact (below_size (zh_ HB.out)) : w.heap.size ≤ gb343)); have n3_ := zA_ ((by rw [hg]; exact (below_size (zh_ HB.out)) : w.heap.size ≤ gb343)); clear HB; have HB := n0_; have BK343 := n1_; have GW343 := n2_; have GE343 := n3_; clear n0_ n1_ n2_ n3_; clear hb hbox hg) | (go_at_call 71; (with_reducible refine (spec_l03Is.calls a1 1 8 true _ A3.out).mono ?_); rintro e w' ⟨rfl, ⟨nd, rfl⟩⟩; have hcz20_0 := cz_ BK343.out 0 (.int .i64 a0_0) rfl; have hcz20_1 := cz_ BK343.out 1 (.int .i64 a0_1) rfl; have hcz20_2 := cz_ BK343.out 2 (.int .i64 a0_2) rfl; have hcz20_3 := cz_ BK343.out 3 (.string a0_3) rfl; have hfz20_0 := blk_frozen BK343.out 0; have hfz20_1 := blk_frozen BK343.out 1; have hfz20_2 := blk_frozen BK343.out 2; have hfz20_3 := blk_frozen BK343.out 3; (try exact βia)) | (go_at_call 71; (with_reducible refine (spec_l03Is.calls a0_1 0 (wrap64 (a1 - 1)) true _ A5.out).mono ?_); rintro e w' ⟨rfl, ⟨nd, rfl⟩⟩; (try exact βia)) | (go_at_call 71; (with_reducible refine (spec_l03Is.calls a0_2 0 (wrap64 (a1 - 1)) t346 _ A6.out).mono ?_); rintro e w' ⟨rfl, ⟨nd, rfl⟩⟩; (try exact βia))); try go_wp2_with (first | ((with_reducible refine gate_dst (N := 2) rfl ?_); (try (refine gate_guard (by rfl) ?_; dsimp only)); refine box_event ?hg (N := 2) ?hd (cs := #[.int .i64 a0_0, .int .i64 a0_1, .int .i64 a0_2, .string a0_3]) (t := 42) ?hr ?_; (case hd => exact (by rfl)); (case hg => exact (by rfl)); (case hr => exact βAa); intro gb343 hg w19 hbox hb; have n0_ := zA_ (below_step (zh_ HB.out) hb); have n1_ := zA_ (hbox); have n2_ := zA_ ((by rw [hg]; exact (below_size (zh_ HB.out)) : w.heap.size ≤ gb343)); have n3_ := zA_ ((by rw [hg]; exact (below_size (zh_ HB.out)) : w.heap.size ≤ gb343)); clear HB; have HB := n0_; have BK343 := n1_; have GW343 := n2_; have GE343 := n3_; clear n0_ n1_ n2_ n3_; clear hb hbox hg) | (go_at_call 71; (with_reducible refine (spec_l03Is.calls a1 1 8 true _ A3.out).mono ?_); rintro e w' ⟨rfl, ⟨nd, rfl⟩⟩; have hcz20_0 := cz_ BK343.out 0 (.int .i64 a0_0) rfl; have hcz20_1 := cz_ BK343.out 1 (.int .i64 a0_1) rfl; have hcz20_2 := cz_ BK343.out 2 (.int .i64 a0_2) rfl; have hcz20_3 := cz_ BK343.out 3 (.string a0_3) rfl; have hfz20_0 := blk_frozen BK343.out 0; have hfz20_1 := blk_frozen BK343.out 1; have hfz20_2 := blk_frozen BK343.out 2; have hfz20_3 := blk_frozen BK343.out 3; (try exact βia)) | (go_at_call 71; (with_reducible refine (spec_l03Is.calls a0_1 0 (wrap64 (a1 - 1)) true _ A5.out).mono ?_); rintro e w' ⟨rfl, ⟨nd, rfl⟩⟩; (try exact βia)) | (go_at_call 71; (with_reducible refine (spec_l03Is.calls a0_2 0 (wrap64 (a1 - 1)) t346 _ A6.out).mono ?_); rintro e w' ⟨rfl, ⟨nd, rfl⟩⟩; (try exact βia))))
           go_ret
           exact ⟨βsa, βP⟩
         · rw [if_neg c18] at H
           have c18b0 : (a0_2 == 0) = false := beq_eq_false_iff_ne.mpr c18
           have c18b1 : (a0_2 != 0) = true := bne_iff_ne.mpr c18
           obtain rfl := Option.some.inj H
           go_enter Tryd.func52, Tryd.ntmps52
           go_wp2_with (first | ((with_reducible refine gate_dst (N := 2) rfl ?_); (try (refine gate_guard (by rfl) ?_; dsimp only)); refine box_event ?hg (N := 2) ?hd (cs := #[.int .i64 a0_0, .int .i64 a0_1, .int .i64 a0_2, .string a0_3]) (t := 42) ?hr ?_; (case hd => exact (by rfl)); (case hg => exact (by rfl)); (case hr => exact βAa); intro gb343 hg w21 hbox hb; have n0_ := zA_ (below_step (zh_ HB.out) hb); have n1_ := zA_ (hbox); have n2_ := zA_ ((by rw [hg]; exact (below_size (zh_ HB.out)) : w.heap.size ≤ gb343)); have n3_ := zA_ ((by rw [hg]; exact (below_size (zh_ HB.out)) : w.heap.size ≤ gb343)); clear HB; have HB := n0_; have BK343 := n1_; have GW343 := n2_; have GE343 := n3_; clear n0_ n1_ n2_ n3_; clear hb hbox hg) | (go_at_call 71; (with_reducible refine (spec_l03Is.calls a1 1 8 true _ A3.out).mono ?_); rintro e w' ⟨rfl, ⟨nd, rfl⟩⟩; have hcz22_0 := cz_ BK343.out 0 (.int .i64 a0_0) rfl; have hcz22_1 := cz_ BK343.out 1 (.int .i64 a0_1) rfl; have hcz22_2 := cz_ BK343.out 2 (.int .i64 a0_2) rfl; have hcz22_3 := cz_ BK343.out 3 (.string a0_3) rfl; have hfz22_0 := blk_frozen BK343.out 0; have hfz22_1 := blk_frozen BK343.out 1; have hfz22_2 := blk_frozen BK343.out 2; have hfz22_3 := blk_frozen BK343.out 3; (try exact βia)) | (go_at_call 71; (with_reducible refine (spec_l03Is.calls a0_1 0 (wrap64 (a1 - 1)) true _ A5.out).mono ?_); rintro e w' ⟨rfl, ⟨nd, rfl⟩⟩; (try exact βia)) | (go_at_call 71; (with_reducible refine (spec_l03Is.calls a0_2 0 (wrap64 (a1 - 1)) t346 _ A6.out).mono ?_); rintro e w' ⟨rfl, ⟨nd, rfl⟩⟩; (try exact βia)))
           repeat (go_quiet (first | ((with_reducible refine gate_dst (N := 2) rfl ?_); (try (refine gate_guard (by rfl) ?_; dsimp only)); refine box_event ?hg (N := 2) ?hd (cs := #[.int .i64 a0_0, .int .i64 a0_1, .int .i64 a0_2, .string a0_3]) (t := 42) ?hr ?_; (case hd => exact (by rfl)); (case hg => exact (by rfl)); (case hr => exact βAa); intro gb343 hg w21 hbox hb; have n0_ := zA_ (below_step (zh_ HB.out) hb); have n1_ := zA_ (hbox); have n2_ := zA_ ((by rw [hg]; exact (below_size (zh_ HB.out)) : w.heap.size ≤ gb343)); have n3_ := zA_ ((by rw [hg]; exact (below_size (zh_ HB.out)) : w.heap.size ≤ gb343)); clear HB; have HB := n0_; have BK343 := n1_; have GW343 := n2_; have GE343 := n3_; clear n0_ n1_ n2_ n3_; clear hb hbox hg) | (go_at_call 71; (with_reducible refine (spec_l03Is.calls a1 1 8 true _ A3.out).mono ?_); rintro e w' ⟨rfl, ⟨nd, rfl⟩⟩; have hcz22_0 := cz_ BK343.out 0 (.int .i64 a0_0) rfl; have hcz22_1 := cz_ BK343.out 1 (.int .i64 a0_1) rfl; have hcz22_2 := cz_ BK343.out 2 (.int .i64 a0_2) rfl; have hcz22_3 := cz_ BK343.out 3 (.string a0_3) rfl; have hfz22_0 := blk_frozen BK343.out 0; have hfz22_1 := blk_frozen BK343.out 1; have hfz22_2 := blk_frozen BK343.out 2; have hfz22_3 := blk_frozen BK343.out 3; (try exact βia)) | (go_at_call 71; (with_reducible refine (spec_l03Is.calls a0_1 0 (wrap64 (a1 - 1)) true _ A5.out).mono ?_); rintro e w' ⟨rfl, ⟨nd, rfl⟩⟩; (try exact βia)) | (go_at_call 71; (with_reducible refine (spec_l03Is.calls a0_2 0 (wrap64 (a1 - 1)) t346 _ A6.out).mono ?_); rintro e w' ⟨rfl, ⟨nd, rfl⟩⟩; (try exact βia))); try go_wp2_with (first | ((with_reducible refine gate_dst (N := 2) rfl ?_); (try (refine gate_guard (by rfl) ?_; dsimp only)); refine box_event ?hg (N := 2) ?hd (cs := #[.int .i64 a0_0, .int .i64 a0_1, .int .i64 a0_2, .string a0_3]) (t := 42) ?hr ?_; (case hd => exact (by rfl)); (case hg => exact (by rfl)); (case hr => exact βAa); intro gb343 hg w21 hbox hb; have n0_ := zA_ (below_step (zh_ HB.out) hb); have n1_ := zA_ (hbox); have n2_ := zA_ ((by rw [hg]; exact (below_size (zh_ HB.out)) : w.heap.size ≤ gb343)); have n3_ := zA_ ((by rw [hg]; exact (below_size (zh_ HB.out)) : w.heap.size ≤ gb343)); clear HB; have HB := n0_; have BK343 := n1_; have GW343 := n2_; have GE343 := n3_; clear n0_ n1_ n2_ n3_; clear hb hbox hg) | (go_at_call 71; (with_reducible refine (spec_l03Is.calls a1 1 8 true _ A3.out).mono ?_); rintro e w' ⟨rfl, ⟨nd, rfl⟩⟩; have hcz22_0 := cz_ BK343.out 0 (.int .i64 a0_0) rfl; have hcz22_1 := cz_ BK343.out 1 (.int .i64 a0_1) rfl; have hcz22_2 := cz_ BK343.out 2 (.int .i64 a0_2) rfl; have hcz22_3 := cz_ BK343.out 3 (.string a0_3) rfl; have hfz22_0 := blk_frozen BK343.out 0; have hfz22_1 := blk_frozen BK343.out 1; have hfz22_2 := blk_frozen BK343.out 2; have hfz22_3 := blk_frozen BK343.out 3; (try exact βia)) | (go_at_call 71; (with_reducible refine (spec_l03Is.calls a0_1 0 (wrap64 (a1 - 1)) true _ A5.out).mono ?_); rintro e w' ⟨rfl, ⟨nd, rfl⟩⟩; (try exact βia)) | (go_at_call 71; (with_reducible refine (spec_l03Is.calls a0_2 0 (wrap64 (a1 - 1)) t346 _ A6.out).mono ?_); rintro e w' ⟨rfl, ⟨nd, rfl⟩⟩; (try exact βia))))
           go_ret
           exact ⟨βsa, βP⟩
       · replace c17 := Bool.eq_false_iff.mpr c17
         subst c17
         have H1 : (some false) = some r := by rw [if_neg (show ¬ (false = true) by decide)] at H; exact H
         clear H
         have H := H1
         clear H1
         obtain rfl := Option.some.inj H
         go_enter Tryd.func52, Tryd.ntmps52
         go_wp2_with (first | ((with_reducible refine gate_dst (N := 2) rfl ?_); (try (refine gate_guard (by rfl) ?_; dsimp only)); refine box_event ?hg (N := 2) ?hd (cs := #[.int .i64 a0_0, .int .i64 a0_1, .int .i64 a0_2, .string a0_3]) (t := 42) ?hr ?_; (case hd => exact (by rfl)); (case hg => exact (by rfl)); (case hr => exact βAa); intro gb343 hg w23 hbox hb; have n0_ := zA_ (below_step (zh_ HB.out) hb); have n1_ := zA_ (hbox); have n2_ := zA_ ((by rw [hg]; exact (below_size (zh_ HB.out)) : w.heap.size ≤ gb343)); have n3_ := zA_ ((by rw [hg]; exact (below_size (zh_ HB.out)) : w.heap.size ≤ gb343)); clear HB; have HB := n0_; have BK343 := n1_; have GW343 := n2_; have GE343 := n3_; clear n0_ n1_ n2_ n3_; clear hb hbox hg) | (go_at_call 71; (with_reducible refine (spec_l03Is.calls a1 1 8 true _ A3.out).mono ?_); rintro e w' ⟨rfl, ⟨nd, rfl⟩⟩; have hcz24_0 := cz_ BK343.out 0 (.int .i64 a0_0) rfl; have hcz24_1 := cz_ BK343.out 1 (.int .i64 a0_1) rfl; have hcz24_2 := cz_ BK343.out 2 (.int .i64 a0_2) rfl; have hcz24_3 := cz_ BK343.out 3 (.string a0_3) rfl; have hfz24_0 := blk_frozen BK343.out 0; have hfz24_1 := blk_frozen BK343.out 1; have hfz24_2 := blk_frozen BK343.out 2; have hfz24_3 := blk_frozen BK343.out 3; (try exact βia)) | (go_at_call 71; (with_reducible refine (spec_l03Is.calls a0_1 0 (wrap64 (a1 - 1)) false _ A5.out).mono ?_); rintro e w' ⟨rfl, ⟨nd, rfl⟩⟩; (try exact βia)) | (go_at_call 71; (with_reducible refine (spec_l03Is.calls a0_2 0 (wrap64 (a1 - 1)) t346 _ A6.out).mono ?_); rintro e w' ⟨rfl, ⟨nd, rfl⟩⟩; (try exact βia)))
         repeat (go_quiet (first | ((with_reducible refine gate_dst (N := 2) rfl ?_); (try (refine gate_guard (by rfl) ?_; dsimp only)); refine box_event ?hg (N := 2) ?hd (cs := #[.int .i64 a0_0, .int .i64 a0_1, .int .i64 a0_2, .string a0_3]) (t := 42) ?hr ?_; (case hd => exact (by rfl)); (case hg => exact (by rfl)); (case hr => exact βAa); intro gb343 hg w23 hbox hb; have n0_ := zA_ (below_step (zh_ HB.out) hb); have n1_ := zA_ (hbox); have n2_ := zA_ ((by rw [hg]; exact (below_size (zh_ HB.out)) : w.heap.size ≤ gb343)); have n3_ := zA_ ((by rw [hg]; exact (below_size (zh_ HB.out)) : w.heap.size ≤ gb343)); clear HB; have HB := n0_; have BK343 := n1_; have GW343 := n2_; have GE343 := n3_; clear n0_ n1_ n2_ n3_; clear hb hbox hg) | (go_at_call 71; (with_reducible refine (spec_l03Is.calls a1 1 8 true _ A3.out).mono ?_); rintro e w' ⟨rfl, ⟨nd, rfl⟩⟩; have hcz24_0 := cz_ BK343.out 0 (.int .i64 a0_0) rfl; have hcz24_1 := cz_ BK343.out 1 (.int .i64 a0_1) rfl; have hcz24_2 := cz_ BK343.out 2 (.int .i64 a0_2) rfl; have hcz24_3 := cz_ BK343.out 3 (.string a0_3) rfl; have hfz24_0 := blk_frozen BK343.out 0; have hfz24_1 := blk_frozen BK343.out 1; have hfz24_2 := blk_frozen BK343.out 2; have hfz24_3 := blk_frozen BK343.out 3; (try exact βia)) | (go_at_call 71; (with_reducible refine (spec_l03Is.calls a0_1 0 (wrap64 (a1 - 1)) false _ A5.out).mono ?_); rintro e w' ⟨rfl, ⟨nd, rfl⟩⟩; (try exact βia)) | (go_at_call 71; (with_reducible refine (spec_l03Is.calls a0_2 0 (wrap64 (a1 - 1)) t346 _ A6.out).mono ?_); rintro e w' ⟨rfl, ⟨nd, rfl⟩⟩; (try exact βia))); try go_wp2_with (first | ((with_reducible refine gate_dst (N := 2) rfl ?_); (try (refine gate_guard (by rfl) ?_; dsimp only)); refine box_event ?hg (N := 2) ?hd (cs := #[.int .i64 a0_0, .int .i64 a0_1, .int .i64 a0_2, .string a0_3]) (t := 42) ?hr ?_; (case hd => exact (by rfl)); (case hg => exact (by rfl)); (case hr => exact βAa); intro gb343 hg w23 hbox hb; have n0_ := zA_ (below_step (zh_ HB.out) hb); have n1_ := zA_ (hbox); have n2_ := zA_ ((by rw [hg]; exact (below_size (zh_ HB.out)) : w.heap.size ≤ gb343)); have n3_ := zA_ ((by rw [hg]; exact (below_size (zh_ HB.out)) : w.heap.size ≤ gb343)); clear HB; have HB := n0_; have BK343 := n1_; have GW343 := n2_; have GE343 := n3_; clear n0_ n1_ n2_ n3_; clear hb hbox hg) | (go_at_call 71; (with_reducible refine (spec_l03Is.calls a1 1 8 true _ A3.out).mono ?_); rintro e w' ⟨rfl, ⟨nd, rfl⟩⟩; have hcz24_0 := cz_ BK343.out 0 (.int .i64 a0_0) rfl; have hcz24_1 := cz_ BK343.out 1 (.int .i64 a0_1) rfl; have hcz24_2 := cz_ BK343.out 2 (.int .i64 a0_2) rfl; have hcz24_3 := cz_ BK343.out 3 (.string a0_3) rfl; have hfz24_0 := blk_frozen BK343.out 0; have hfz24_1 := blk_frozen BK343.out 1; have hfz24_2 := blk_frozen BK343.out 2; have hfz24_3 := blk_frozen BK343.out 3; (try exact βia)) | (go_at_call 71; (with_reducible refine (spec_l03Is.calls a0_1 0 (wrap64 (a1 - 1)) false _ A5.out).mono ?_); rintro e w' ⟨rfl, ⟨nd, rfl⟩⟩; (try exact βia)) | (go_at_call 71; (with_reducible refine (spec_l03Is.calls a0_2 0 (wrap64 (a1 - 1)) t346 _ A6.out).mono ?_); rintro e w' ⟨rfl, ⟨nd, rfl⟩⟩; (try exact βia))))
         go_ret
         exact ⟨βsa, βP⟩
     · rw [if_neg c16] at H
       have c16b0 : (a0_0 == 2) = false := beq_eq_false_iff_ne.mpr c16
       have c16b1 : (a0_0 != 2) = true := bne_iff_ne.mpr c16
       by_cases c25 : a0_0 = 3
       · rw [if_pos c25] at H
         have c25b0 : (a0_0 == 3) = true := beq_iff_eq.mpr c25
         have c25b1 : (a0_0 != 3) = false := bne_eq_false_iff_eq.mpr c25
         clear c25
         by_cases c26 : t345 = true
         · subst c26
           have H1 : (if t346 = true then (some (a0_3.toList == ([] : List UInt8))) else (some false)) = some r := by rw [if_pos rfl] at H; exact H
           clear H
           have H := H1
           clear H1
           by_cases c27 : t346 = true
           · subst c27
             have H1 : (some (a0_3.toList == ([] : List UInt8))) = some r := by rw [if_pos rfl] at H; exact H
             clear H
             have H := H1
             clear H1
             obtain rfl := Option.some.inj H
             go_enter Tryd.func52, Tryd.ntmps52
             go_wp2_with (first | ((with_reducible refine gate_dst (N := 2) rfl ?_); (try (refine gate_guard (by rfl) ?_; dsimp only)); refine box_event ?hg (N := 2) ?hd (cs := #[.int .i64 a0_0, .int .i64 a0_1, .int .i64 a0_2, .string a0_3]) (t := 42) ?hr ?_; (case hd => exact (by rfl)); (case hg => exact (by rfl)); (case hr => exact βAa); intro gb343 hg w28 hbox hb; have n0_ := zA_ (below_step (zh_ HB.out) hb); have n1_ := zA_ (hbox); have n2_ := zA_ ((by rw [hg]; exact (below_size (zh_ HB.out)) : w.heap.size ≤ gb343)); have n3_ := zA_ ((by rw [hg]; exact (below_size (zh_ HB.out)) : w.heap.size ≤ gb343)); clear HB; have HB := n0_; have BK343 := n1_; have GW343 := n2_; have GE343 := n3_; clear n0_ n1_ n2_ n3_; clear hb hbox hg) | (go_at_call 71; (with_reducible refine (spec_l03Is.calls a1 1 8 true _ A3.out).mono ?_); rintro e w' ⟨rfl, ⟨nd, rfl⟩⟩; have hcz29_0 := cz_ BK343.out 0 (.int .i64 a0_0) rfl; have hcz29_1 := cz_ BK343.out 1 (.int .i64 a0_1) rfl; have hcz29_2 := cz_ BK343.out 2 (.int .i64 a0_2) rfl; have hcz29_3 := cz_ BK343.out 3 (.string a0_3) rfl; have hfz29_0 := blk_frozen BK343.out 0; have hfz29_1 := blk_frozen BK343.out 1; have hfz29_2 := blk_frozen BK343.out 2; have hfz29_3 := blk_frozen BK343.out 3; (try exact βia)) | (go_at_call 71; (with_reducible refine (spec_l03Is.calls a0_1 0 (wrap64 (a1 - 1)) true _ A5.out).mono ?_); rintro e w' ⟨rfl, ⟨nd, rfl⟩⟩; (try exact βia)) | (go_at_call 71; (with_reducible refine (spec_l03Is.calls a0_2 0 (wrap64 (a1 - 1)) true _ A6.out).mono ?_); rintro e w' ⟨rfl, ⟨nd, rfl⟩⟩; (try exact βia)))
             repeat (go_quiet (first | ((with_reducible refine gate_dst (N := 2) rfl ?_); (try (refine gate_guard (by rfl) ?_; dsimp only)); refine box_event ?hg (N := 2) ?hd (cs := #[.int .i64 a0_0, .int .i64 a0_1, .int .i64 a0_2, .string a0_3]) (t := 42) ?hr ?_; (case hd => exact (by rfl)); (case hg => exact (by rfl)); (case hr => exact βAa); intro gb343 hg w28 hbox hb; have n0_ := zA_ (below_step (zh_ HB.out) hb); have n1_ := zA_ (hbox); have n2_ := zA_ ((by rw [hg]; exact (below_size (zh_ HB.out)) : w.heap.size ≤ gb343)); have n3_ := zA_ ((by rw [hg]; exact (below_size (zh_ HB.out)) : w.heap.size ≤ gb343)); clear HB; have HB := n0_; have BK343 := n1_; have GW343 := n2_; have GE343 := n3_; clear n0_ n1_ n2_ n3_; clear hb hbox hg) | (go_at_call 71; (with_reducible refine (spec_l03Is.calls a1 1 8 true _ A3.out).mono ?_); rintro e w' ⟨rfl, ⟨nd, rfl⟩⟩; have hcz29_0 := cz_ BK343.out 0 (.int .i64 a0_0) rfl; have hcz29_1 := cz_ BK343.out 1 (.int .i64 a0_1) rfl; have hcz29_2 := cz_ BK343.out 2 (.int .i64 a0_2) rfl; have hcz29_3 := cz_ BK343.out 3 (.string a0_3) rfl; have hfz29_0 := blk_frozen BK343.out 0; have hfz29_1 := blk_frozen BK343.out 1; have hfz29_2 := blk_frozen BK343.out 2; have hfz29_3 := blk_frozen BK343.out 3; (try exact βia)) | (go_at_call 71; (with_reducible refine (spec_l03Is.calls a0_1 0 (wrap64 (a1 - 1)) true _ A5.out).mono ?_); rintro e w' ⟨rfl, ⟨nd, rfl⟩⟩; (try exact βia)) | (go_at_call 71; (with_reducible refine (spec_l03Is.calls a0_2 0 (wrap64 (a1 - 1)) true _ A6.out).mono ?_); rintro e w' ⟨rfl, ⟨nd, rfl⟩⟩; (try exact βia))); try go_wp2_with (first | ((with_reducible refine gate_dst (N := 2) rfl ?_); (try (refine gate_guard (by rfl) ?_; dsimp only)); refine box_event ?hg (N := 2) ?hd (cs := #[.int .i64 a0_0, .int .i64 a0_1, .int .i64 a0_2, .string a0_3]) (t := 42) ?hr ?_; (case hd => exact (by rfl)); (case hg => exact (by rfl)); (case hr => exact βAa); intro gb343 hg w28 hbox hb; have n0_ := zA_ (below_step (zh_ HB.out) hb); have n1_ := zA_ (hbox); have n2_ := zA_ ((by rw [hg]; exact (below_size (zh_ HB.out)) : w.heap.size ≤ gb343)); have n3_ := zA_ ((by rw [hg]; exact (below_size (zh_ HB.out)) : w.heap.size ≤ gb343)); clear HB; have HB := n0_; have BK343 := n1_; have GW343 := n2_; have GE343 := n3_; clear n0_ n1_ n2_ n3_; clear hb hbox hg) | (go_at_call 71; (with_reducible refine (spec_l03Is.calls a1 1 8 true _ A3.out).mono ?_); rintro e w' ⟨rfl, ⟨nd, rfl⟩⟩; have hcz29_0 := cz_ BK343.out 0 (.int .i64 a0_0) rfl; have hcz29_1 := cz_ BK343.out 1 (.int .i64 a0_1) rfl; have hcz29_2 := cz_ BK343.out 2 (.int .i64 a0_2) rfl; have hcz29_3 := cz_ BK343.out 3 (.string a0_3) rfl; have hfz29_0 := blk_frozen BK343.out 0; have hfz29_1 := blk_frozen BK343.out 1; have hfz29_2 := blk_frozen BK343.out 2; have hfz29_3 := blk_frozen BK343.out 3; (try exact βia)) | (go_at_call 71; (with_reducible refine (spec_l03Is.calls a0_1 0 (wrap64 (a1 - 1)) true _ A5.out).mono ?_); rintro e w' ⟨rfl, ⟨nd, rfl⟩⟩; (try exact βia)) | (go_at_call 71; (with_reducible refine (spec_l03Is.calls a0_2 0 (wrap64 (a1 - 1)) true _ A6.out).mono ?_); rintro e w' ⟨rfl, ⟨nd, rfl⟩⟩; (try exact βia))))
             go_ret
             exact ⟨βsa, βP⟩
           · replace c27 := Bool.eq_false_iff.mpr c27
             subst c27
             have H1 : (some false) = some r := by rw [if_neg (show ¬ (false = true) by decide)] at H; exact H
             clear H
             have H := H1
             clear H1
             obtain rfl := Option.some.inj H
             go_enter Tryd.func52, Tryd.ntmps52
             go_wp2_with (first | ((with_reducible refine gate_dst (N := 2) rfl ?_); (try (refine gate_guard (by rfl) ?_; dsimp only)); refine box_event ?hg (N := 2) ?hd (cs := #[.int .i64 a0_0, .int .i64 a0_1, .int .i64 a0_2, .string a0_3]) (t := 42) ?hr ?_; (case hd => exact (by rfl)); (case hg => exact (by rfl)); (case hr => exact βAa); intro gb343 hg w30 hbox hb; have n0_ := zA_ (below_step (zh_ HB.out) hb); have n1_ := zA_ (hbox); have n2_ := zA_ ((by rw [hg]; exact (below_size (zh_ HB.out)) : w.heap.size ≤ gb343)); have n3_ := zA_ ((by rw [hg]; exact (below_size (zh_ HB.out)) : w.heap.size ≤ gb343)); clear HB; have HB := n0_; have BK343 := n1_; have GW343 := n2_; have GE343 := n3_; clear n0_ n1_ n2_ n3_; clear hb hbox hg) | (go_at_call 71; (with_reducible refine (spec_l03Is.calls a1 1 8 true _ A3.out).mono ?_); rintro e w' ⟨rfl, ⟨nd, rfl⟩⟩; have hcz31_0 := cz_ BK343.out 0 (.int .i64 a0_0) rfl; have hcz31_1 := cz_ BK343.out 1 (.int .i64 a0_1) rfl; have hcz31_2 := cz_ BK343.out 2 (.int .i64 a0_2) rfl; have hcz31_3 := cz_ BK343.out 3 (.string a0_3) rfl; have hfz31_0 := blk_frozen BK343.out 0; have hfz31_1 := blk_frozen BK343.out 1; have hfz31_2 := blk_frozen BK343.out 2; have hfz31_3 := blk_frozen BK343.out 3; (try exact βia)) | (go_at_call 71; (with_reducible refine (spec_l03Is.calls a0_1 0 (wrap64 (a1 - 1)) true _ A5.out).mono ?_); rintro e w' ⟨rfl, ⟨nd, rfl⟩⟩; (try exact βia)) | (go_at_call 71; (with_reducible refine (spec_l03Is.calls a0_2 0 (wrap64 (a1 - 1)) false _ A6.out).mono ?_); rintro e w' ⟨rfl, ⟨nd, rfl⟩⟩; (try exact βia)))
             repeat (go_quiet (first | ((with_reducible refine gate_dst (N := 2) rfl ?_); (try (refine gate_guard (by rfl) ?_; dsimp only)); refine box_event ?hg (N := 2) ?hd (cs := #[.int .i64 a0_0, .int .i64 a0_1, .int .i64 a0_2, .string a0_3]) (t := 42) ?hr ?_; (case hd => exact (by rfl)); (case hg => exact (by rfl)); (case hr => exact βAa); intro gb343 hg w30 hbox hb; have n0_ := zA_ (below_step (zh_ HB.out) hb); have n1_ := zA_ (hbox); have n2_ := zA_ ((by rw [hg]; exact (below_size (zh_ HB.out)) : w.heap.size ≤ gb343)); have n3_ := zA_ ((by rw [hg]; exact (below_size (zh_ HB.out)) : w.heap.size ≤ gb343)); clear HB; have HB := n0_; have BK343 := n1_; have GW343 := n2_; have GE343 := n3_; clear n0_ n1_ n2_ n3_; clear hb hbox hg) | (go_at_call 71; (with_reducible refine (spec_l03Is.calls a1 1 8 true _ A3.out).mono ?_); rintro e w' ⟨rfl, ⟨nd, rfl⟩⟩; have hcz31_0 := cz_ BK343.out 0 (.int .i64 a0_0) rfl; have hcz31_1 := cz_ BK343.out 1 (.int .i64 a0_1) rfl; have hcz31_2 := cz_ BK343.out 2 (.int .i64 a0_2) rfl; have hcz31_3 := cz_ BK343.out 3 (.string a0_3) rfl; have hfz31_0 := blk_frozen BK343.out 0; have hfz31_1 := blk_frozen BK343.out 1; have hfz31_2 := blk_frozen BK343.out 2; have hfz31_3 := blk_frozen BK343.out 3; (try exact βia)) | (go_at_call 71; (with_reducible refine (spec_l03Is.calls a0_1 0 (wrap64 (a1 - 1)) true _ A5.out).mono ?_); rintro e w' ⟨rfl, ⟨nd, rfl⟩⟩; (try exact βia)) | (go_at_call 71; (with_reducible refine (spec_l03Is.calls a0_2 0 (wrap64 (a1 - 1)) false _ A6.out).mono ?_); rintro e w' ⟨rfl, ⟨nd, rfl⟩⟩; (try exact βia))); try go_wp2_with (first | ((with_reducible refine gate_dst (N := 2) rfl ?_); (try (refine gate_guard (by rfl) ?_; dsimp only)); refine box_event ?hg (N := 2) ?hd (cs := #[.int .i64 a0_0, .int .i64 a0_1, .int .i64 a0_2, .string a0_3]) (t := 42) ?hr ?_; (case hd => exact (by rfl)); (case hg => exact (by rfl)); (case hr => exact βAa); intro gb343 hg w30 hbox hb; have n0_ := zA_ (below_step (zh_ HB.out) hb); have n1_ := zA_ (hbox); have n2_ := zA_ ((by rw [hg]; exact (below_size (zh_ HB.out)) : w.heap.size ≤ gb343)); have n3_ := zA_ ((by rw [hg]; exact (below_size (zh_ HB.out)) : w.heap.size ≤ gb343)); clear HB; have HB := n0_; have BK343 := n1_; have GW343 := n2_; have GE343 := n3_; clear n0_ n1_ n2_ n3_; clear hb hbox hg) | (go_at_call 71; (with_reducible refine (spec_l03Is.calls a1 1 8 true _ A3.out).mono ?_); rintro e w' ⟨rfl, ⟨nd, rfl⟩⟩; have hcz31_0 := cz_ BK343.out 0 (.int .i64 a0_0) rfl; have hcz31_1 := cz_ BK343.out 1 (.int .i64 a0_1) rfl; have hcz31_2 := cz_ BK343.out 2 (.int .i64 a0_2) rfl; have hcz31_3 := cz_ BK343.out 3 (.string a0_3) rfl; have hfz31_0 := blk_frozen BK343.out 0; have hfz31_1 := blk_frozen BK343.out 1; have hfz31_2 := blk_frozen BK343.out 2; have hfz31_3 := blk_frozen BK343.out 3; (try exact βia)) | (go_at_call 71; (with_reducible refine (spec_l03Is.calls a0_1 0 (wrap64 (a1 - 1)) true _ A5.out).mono ?_); rintro e w' ⟨rfl, ⟨nd, rfl⟩⟩; (try exact βia)) | (go_at_call 71; (with_reducible refine (spec_l03Is.calls a0_2 0 (wrap64 (a1 - 1)) false _ A6.out).mono ?_); rintro e w' ⟨rfl, ⟨nd, rfl⟩⟩; (try exact βia))))
             go_ret
             exact ⟨βsa, βP⟩
         · replace c26 := Bool.eq_false_iff.mpr c26
           subst c26
           have H1 : (some false) = some r := by rw [if_neg (show ¬ (false = true) by decide)] at H; exact H
           clear H
           have H := H1
           clear H1
           obtain rfl := Option.some.inj H
           go_enter Tryd.func52, Tryd.ntmps52
           go_wp2_with (first | ((with_reducible refine gate_dst (N := 2) rfl ?_); (try (refine gate_guard (by rfl) ?_; dsimp only)); refine box_event ?hg (N := 2) ?hd (cs := #[.int .i64 a0_0, .int .i64 a0_1, .int .i64 a0_2, .string a0_3]) (t := 42) ?hr ?_; (case hd => exact (by rfl)); (case hg => exact (by rfl)); (case hr => exact βAa); intro gb343 hg w32 hbox hb; have n0_ := zA_ (below_step (zh_ HB.out) hb); have n1_ := zA_ (hbox); have n2_ := zA_ ((by rw [hg]; exact (below_size (zh_ HB.out)) : w.heap.size ≤ gb343)); have n3_ := zA_ ((by rw [hg]; exact (below_size (zh_ HB.out)) : w.heap.size ≤ gb343)); clear HB; have HB := n0_; have BK343 := n1_; have GW343 := n2_; have GE343 := n3_; clear n0_ n1_ n2_ n3_; clear hb hbox hg) | (go_at_call 71; (with_reducible refine (spec_l03Is.calls a1 1 8 true _ A3.out).mono ?_); rintro e w' ⟨rfl, ⟨nd, rfl⟩⟩; have hcz33_0 := cz_ BK343.out 0 (.int .i64 a0_0) rfl; have hcz33_1 := cz_ BK343.out 1 (.int .i64 a0_1) rfl; have hcz33_2 := cz_ BK343.out 2 (.int .i64 a0_2) rfl; have hcz33_3 := cz_ BK343.out 3 (.string a0_3) rfl; have hfz33_0 := blk_frozen BK343.out 0; have hfz33_1 := blk_frozen BK343.out 1; have hfz33_2 := blk_frozen BK343.out 2; have hfz33_3 := blk_frozen BK343.out 3; (try exact βia)) | (go_at_call 71; (with_reducible refine (spec_l03Is.calls a0_1 0 (wrap64 (a1 - 1)) false _ A5.out).mono ?_); rintro e w' ⟨rfl, ⟨nd, rfl⟩⟩; (try exact βia)) | (go_at_call 71; (with_reducible refine (spec_l03Is.calls a0_2 0 (wrap64 (a1 - 1)) t346 _ A6.out).mono ?_); rintro e w' ⟨rfl, ⟨nd, rfl⟩⟩; (try exact βia)))
           repeat (go_quiet (first | ((with_reducible refine gate_dst (N := 2) rfl ?_); (try (refine gate_guard (by rfl) ?_; dsimp only)); refine box_event ?hg (N := 2) ?hd (cs := #[.int .i64 a0_0, .int .i64 a0_1, .int .i64 a0_2, .string a0_3]) (t := 42) ?hr ?_; (case hd => exact (by rfl)); (case hg => exact (by rfl)); (case hr => exact βAa); intro gb343 hg w32 hbox hb; have n0_ := zA_ (below_step (zh_ HB.out) hb); have n1_ := zA_ (hbox); have n2_ := zA_ ((by rw [hg]; exact (below_size (zh_ HB.out)) : w.heap.size ≤ gb343)); have n3_ := zA_ ((by rw [hg]; exact (below_size (zh_ HB.out)) : w.heap.size ≤ gb343)); clear HB; have HB := n0_; have BK343 := n1_; have GW343 := n2_; have GE343 := n3_; clear n0_ n1_ n2_ n3_; clear hb hbox hg) | (go_at_call 71; (with_reducible refine (spec_l03Is.calls a1 1 8 true _ A3.out).mono ?_); rintro e w' ⟨rfl, ⟨nd, rfl⟩⟩; have hcz33_0 := cz_ BK343.out 0 (.int .i64 a0_0) rfl; have hcz33_1 := cz_ BK343.out 1 (.int .i64 a0_1) rfl; have hcz33_2 := cz_ BK343.out 2 (.int .i64 a0_2) rfl; have hcz33_3 := cz_ BK343.out 3 (.string a0_3) rfl; have hfz33_0 := blk_frozen BK343.out 0; have hfz33_1 := blk_frozen BK343.out 1; have hfz33_2 := blk_frozen BK343.out 2; have hfz33_3 := blk_frozen BK343.out 3; (try exact βia)) | (go_at_call 71; (with_reducible refine (spec_l03Is.calls a0_1 0 (wrap64 (a1 - 1)) false _ A5.out).mono ?_); rintro e w' ⟨rfl, ⟨nd, rfl⟩⟩; (try exact βia)) | (go_at_call 71; (with_reducible refine (spec_l03Is.calls a0_2 0 (wrap64 (a1 - 1)) t346 _ A6.out).mono ?_); rintro e w' ⟨rfl, ⟨nd, rfl⟩⟩; (try exact βia))); try go_wp2_with (first | ((with_reducible refine gate_dst (N := 2) rfl ?_); (try (refine gate_guard (by rfl) ?_; dsimp only)); refine box_event ?hg (N := 2) ?hd (cs := #[.int .i64 a0_0, .int .i64 a0_1, .int .i64 a0_2, .string a0_3]) (t := 42) ?hr ?_; (case hd => exact (by rfl)); (case hg => exact (by rfl)); (case hr => exact βAa); intro gb343 hg w32 hbox hb; have n0_ := zA_ (below_step (zh_ HB.out) hb); have n1_ := zA_ (hbox); have n2_ := zA_ ((by rw [hg]; exact (below_size (zh_ HB.out)) : w.heap.size ≤ gb343)); have n3_ := zA_ ((by rw [hg]; exact (below_size (zh_ HB.out)) : w.heap.size ≤ gb343)); clear HB; have HB := n0_; have BK343 := n1_; have GW343 := n2_; have GE343 := n3_; clear n0_ n1_ n2_ n3_; clear hb hbox hg) | (go_at_call 71; (with_reducible refine (spec_l03Is.calls a1 1 8 true _ A3.out).mono ?_); rintro e w' ⟨rfl, ⟨nd, rfl⟩⟩; have hcz33_0 := cz_ BK343.out 0 (.int .i64 a0_0) rfl; have hcz33_1 := cz_ BK343.out 1 (.int .i64 a0_1) rfl; have hcz33_2 := cz_ BK343.out 2 (.int .i64 a0_2) rfl; have hcz33_3 := cz_ BK343.out 3 (.string a0_3) rfl; have hfz33_0 := blk_frozen BK343.out 0; have hfz33_1 := blk_frozen BK343.out 1; have hfz33_2 := blk_frozen BK343.out 2; have hfz33_3 := blk_frozen BK343.out 3; (try exact βia)) | (go_at_call 71; (with_reducible refine (spec_l03Is.calls a0_1 0 (wrap64 (a1 - 1)) false _ A5.out).mono ?_); rintro e w' ⟨rfl, ⟨nd, rfl⟩⟩; (try exact βia)) | (go_at_call 71; (with_reducible refine (spec_l03Is.calls a0_2 0 (wrap64 (a1 - 1)) t346 _ A6.out).mono ?_); rintro e w' ⟨rfl, ⟨nd, rfl⟩⟩; (try exact βia))))
           go_ret
           exact ⟨βsa, βP⟩
       · rw [if_neg c25] at H
         have c25b0 : (a0_0 == 3) = false := beq_eq_false_iff_ne.mpr c25
         have c25b1 : (a0_0 != 3) = true := bne_iff_ne.mpr c25
         by_cases c34 : a0_0 = 4
         · rw [if_pos c34] at H
           have c34b0 : (a0_0 == 4) = true := beq_iff_eq.mpr c34
           have c34b1 : (a0_0 != 4) = false := bne_eq_false_iff_eq.mpr c34
           clear c34
           by_cases c35 : t345 = true
           · subst c35
             have H1 : (if t346 = true then (some ((a0_3.size : Int) == 8)) else (some false)) = some r := by rw [if_pos rfl] at H; exact H
             clear H
             have H := H1
             clear H1
             by_cases c36 : t346 = true
             · subst c36
               have H1 : (some ((a0_3.size : Int) == 8)) = some r := by rw [if_pos rfl] at H; exact H
               clear H
               have H := H1
               clear H1
               obtain rfl := Option.some.inj H
               go_enter Tryd.func52, Tryd.ntmps52
               go_wp2_with (first | ((with_reducible refine gate_dst (N := 2) rfl ?_); (try (refine gate_guard (by rfl) ?_; dsimp only)); refine box_event ?hg (N := 2) ?hd (cs := #[.int .i64 a0_0, .int .i64 a0_1, .int .i64 a0_2, .string a0_3]) (t := 42) ?hr ?_; (case hd => exact (by rfl)); (case hg => exact (by rfl)); (case hr => exact βAa); intro gb343 hg w37 hbox hb; have n0_ := zA_ (below_step (zh_ HB.out) hb); have n1_ := zA_ (hbox); have n2_ := zA_ ((by rw [hg]; exact (below_size (zh_ HB.out)) : w.heap.size ≤ gb343)); have n3_ := zA_ ((by rw [hg]; exact (below_size (zh_ HB.out)) : w.heap.size ≤ gb343)); clear HB; have HB := n0_; have BK343 := n1_; have GW343 := n2_; have GE343 := n3_; clear n0_ n1_ n2_ n3_; clear hb hbox hg) | (go_at_call 71; (with_reducible refine (spec_l03Is.calls a1 1 8 true _ A3.out).mono ?_); rintro e w' ⟨rfl, ⟨nd, rfl⟩⟩; have hcz38_0 := cz_ BK343.out 0 (.int .i64 a0_0) rfl; have hcz38_1 := cz_ BK343.out 1 (.int .i64 a0_1) rfl; have hcz38_2 := cz_ BK343.out 2 (.int .i64 a0_2) rfl; have hcz38_3 := cz_ BK343.out 3 (.string a0_3) rfl; have hfz38_0 := blk_frozen BK343.out 0; have hfz38_1 := blk_frozen BK343.out 1; have hfz38_2 := blk_frozen BK343.out 2; have hfz38_3 := blk_frozen BK343.out 3; (try exact βia)) | (go_at_call 71; (with_reducible refine (spec_l03Is.calls a0_1 0 (wrap64 (a1 - 1)) true _ A5.out).mono ?_); rintro e w' ⟨rfl, ⟨nd, rfl⟩⟩; (try exact βia)) | (go_at_call 71; (with_reducible refine (spec_l03Is.calls a0_2 0 (wrap64 (a1 - 1)) true _ A6.out).mono ?_); rintro e w' ⟨rfl, ⟨nd, rfl⟩⟩; (try exact βia)))
               repeat (go_quiet (first | ((with_reducible refine gate_dst (N := 2) rfl ?_); (try (refine gate_guard (by rfl) ?_; dsimp only)); refine box_event ?hg (N := 2) ?hd (cs := #[.int .i64 a0_0, .int .i64 a0_1, .int .i64 a0_2, .string a0_3]) (t := 42) ?hr ?_; (case hd => exact (by rfl)); (case hg => exact (by rfl)); (case hr => exact βAa); intro gb343 hg w37 hbox hb; have n0_ := zA_ (below_step (zh_ HB.out) hb); have n1_ := zA_ (hbox); have n2_ := zA_ ((by rw [hg]; exact (below_size (zh_ HB.out)) : w.heap.size ≤ gb343)); have n3_ := zA_ ((by rw [hg]; exact (below_size (zh_ HB.out)) : w.heap.size ≤ gb343)); clear HB; have HB := n0_; have BK343 := n1_; have GW343 := n2_; have GE343 := n3_; clear n0_ n1_ n2_ n3_; clear hb hbox hg) | (go_at_call 71; (with_reducible refine (spec_l03Is.calls a1 1 8 true _ A3.out).mono ?_); rintro e w' ⟨rfl, ⟨nd, rfl⟩⟩; have hcz38_0 := cz_ BK343.out 0 (.int .i64 a0_0) rfl; have hcz38_1 := cz_ BK343.out 1 (.int .i64 a0_1) rfl; have hcz38_2 := cz_ BK343.out 2 (.int .i64 a0_2) rfl; have hcz38_3 := cz_ BK343.out 3 (.string a0_3) rfl; have hfz38_0 := blk_frozen BK343.out 0; have hfz38_1 := blk_frozen BK343.out 1; have hfz38_2 := blk_frozen BK343.out 2; have hfz38_3 := blk_frozen BK343.out 3; (try exact βia)) | (go_at_call 71; (with_reducible refine (spec_l03Is.calls a0_1 0 (wrap64 (a1 - 1)) true _ A5.out).mono ?_); rintro e w' ⟨rfl, ⟨nd, rfl⟩⟩; (try exact βia)) | (go_at_call 71; (with_reducible refine (spec_l03Is.calls a0_2 0 (wrap64 (a1 - 1)) true _ A6.out).mono ?_); rintro e w' ⟨rfl, ⟨nd, rfl⟩⟩; (try exact βia))); try go_wp2_with (first | ((with_reducible refine gate_dst (N := 2) rfl ?_); (try (refine gate_guard (by rfl) ?_; dsimp only)); refine box_event ?hg (N := 2) ?hd (cs := #[.int .i64 a0_0, .int .i64 a0_1, .int .i64 a0_2, .string a0_3]) (t := 42) ?hr ?_; (case hd => exact (by rfl)); (case hg => exact (by rfl)); (case hr => exact βAa); intro gb343 hg w37 hbox hb; have n0_ := zA_ (below_step (zh_ HB.out) hb); have n1_ := zA_ (hbox); have n2_ := zA_ ((by rw [hg]; exact (below_size (zh_ HB.out)) : w.heap.size ≤ gb343)); have n3_ := zA_ ((by rw [hg]; exact (below_size (zh_ HB.out)) : w.heap.size ≤ gb343)); clear HB; have HB := n0_; have BK343 := n1_; have GW343 := n2_; have GE343 := n3_; clear n0_ n1_ n2_ n3_; clear hb hbox hg) | (go_at_call 71; (with_reducible refine (spec_l03Is.calls a1 1 8 true _ A3.out).mono ?_); rintro e w' ⟨rfl, ⟨nd, rfl⟩⟩; have hcz38_0 := cz_ BK343.out 0 (.int .i64 a0_0) rfl; have hcz38_1 := cz_ BK343.out 1 (.int .i64 a0_1) rfl; have hcz38_2 := cz_ BK343.out 2 (.int .i64 a0_2) rfl; have hcz38_3 := cz_ BK343.out 3 (.string a0_3) rfl; have hfz38_0 := blk_frozen BK343.out 0; have hfz38_1 := blk_frozen BK343.out 1; have hfz38_2 := blk_frozen BK343.out 2; have hfz38_3 := blk_frozen BK343.out 3; (try exact βia)) | (go_at_call 71; (with_reducible refine (spec_l03Is.calls a0_1 0 (wrap64 (a1 - 1)) true _ A5.out).mono ?_); rintro e w' ⟨rfl, ⟨nd, rfl⟩⟩; (try exact βia)) | (go_at_call 71; (with_reducible refine (spec_l03Is.calls a0_2 0 (wrap64 (a1 - 1)) true _ A6.out).mono ?_); rintro e w' ⟨rfl, ⟨nd, rfl⟩⟩; (try exact βia))))
               go_ret
               exact ⟨βsa, βP⟩
             · replace c36 := Bool.eq_false_iff.mpr c36
               subst c36
               have H1 : (some false) = some r := by rw [if_neg (show ¬ (false = true) by decide)] at H; exact H
               clear H
               have H := H1
               clear H1
               obtain rfl := Option.some.inj H
               go_enter Tryd.func52, Tryd.ntmps52
               go_wp2_with (first | ((with_reducible refine gate_dst (N := 2) rfl ?_); (try (refine gate_guard (by rfl) ?_; dsimp only)); refine box_event ?hg (N := 2) ?hd (cs := #[.int .i64 a0_0, .int .i64 a0_1, .int .i64 a0_2, .string a0_3]) (t := 42) ?hr ?_; (case hd => exact (by rfl)); (case hg => exact (by rfl)); (case hr => exact βAa); intro gb343 hg w39 hbox hb; have n0_ := zA_ (below_step (zh_ HB.out) hb); have n1_ := zA_ (hbox); have n2_ := zA_ ((by rw [hg]; exact (below_size (zh_ HB.out)) : w.heap.size ≤ gb343)); have n3_ := zA_ ((by rw [hg]; exact (below_size (zh_ HB.out)) : w.heap.size ≤ gb343)); clear HB; have HB := n0_; have BK343 := n1_; have GW343 := n2_; have GE343 := n3_; clear n0_ n1_ n2_ n3_; clear hb hbox hg) | (go_at_call 71; (with_reducible refine (spec_l03Is.calls a1 1 8 true _ A3.out).mono ?_); rintro e w' ⟨rfl, ⟨nd, rfl⟩⟩; have hcz40_0 := cz_ BK343.out 0 (.int .i64 a0_0) rfl; have hcz40_1 := cz_ BK343.out 1 (.int .i64 a0_1) rfl; have hcz40_2 := cz_ BK343.out 2 (.int .i64 a0_2) rfl; have hcz40_3 := cz_ BK343.out 3 (.string a0_3) rfl; have hfz40_0 := blk_frozen BK343.out 0; have hfz40_1 := blk_frozen BK343.out 1; have hfz40_2 := blk_frozen BK343.out 2; have hfz40_3 := blk_frozen BK343.out 3; (try exact βia)) | (go_at_call 71; (with_reducible refine (spec_l03Is.calls a0_1 0 (wrap64 (a1 - 1)) true _ A5.out).mono ?_); rintro e w' ⟨rfl, ⟨nd, rfl⟩⟩; (try exact βia)) | (go_at_call 71; (with_reducible refine (spec_l03Is.calls a0_2 0 (wrap64 (a1 - 1)) false _ A6.out).mono ?_); rintro e w' ⟨rfl, ⟨nd, rfl⟩⟩; (try exact βia)))
               repeat (go_quiet (first | ((with_reducible refine gate_dst (N := 2) rfl ?_); (try (refine gate_guard (by rfl) ?_; dsimp only)); refine box_event ?hg (N := 2) ?hd (cs := #[.int .i64 a0_0, .int .i64 a0_1, .int .i64 a0_2, .string a0_3]) (t := 42) ?hr ?_; (case hd => exact (by rfl)); (case hg => exact (by rfl)); (case hr => exact βAa); intro gb343 hg w39 hbox hb; have n0_ := zA_ (below_step (zh_ HB.out) hb); have n1_ := zA_ (hbox); have n2_ := zA_ ((by rw [hg]; exact (below_size (zh_ HB.out)) : w.heap.size ≤ gb343)); have n3_ := zA_ ((by rw [hg]; exact (below_size (zh_ HB.out)) : w.heap.size ≤ gb343)); clear HB; have HB := n0_; have BK343 := n1_; have GW343 := n2_; have GE343 := n3_; clear n0_ n1_ n2_ n3_; clear hb hbox hg) | (go_at_call 71; (with_reducible refine (spec_l03Is.calls a1 1 8 true _ A3.out).mono ?_); rintro e w' ⟨rfl, ⟨nd, rfl⟩⟩; have hcz40_0 := cz_ BK343.out 0 (.int .i64 a0_0) rfl; have hcz40_1 := cz_ BK343.out 1 (.int .i64 a0_1) rfl; have hcz40_2 := cz_ BK343.out 2 (.int .i64 a0_2) rfl; have hcz40_3 := cz_ BK343.out 3 (.string a0_3) rfl; have hfz40_0 := blk_frozen BK343.out 0; have hfz40_1 := blk_frozen BK343.out 1; have hfz40_2 := blk_frozen BK343.out 2; have hfz40_3 := blk_frozen BK343.out 3; (try exact βia)) | (go_at_call 71; (with_reducible refine (spec_l03Is.calls a0_1 0 (wrap64 (a1 - 1)) true _ A5.out).mono ?_); rintro e w' ⟨rfl, ⟨nd, rfl⟩⟩; (try exact βia)) | (go_at_call 71; (with_reducible refine (spec_l03Is.calls a0_2 0 (wrap64 (a1 - 1)) false _ A6.out).mono ?_); rintro e w' ⟨rfl, ⟨nd, rfl⟩⟩; (try exact βia))); try go_wp2_with (first | ((with_reducible refine gate_dst (N := 2) rfl ?_); (try (refine gate_guard (by rfl) ?_; dsimp only)); refine box_event ?hg (N := 2) ?hd (cs := #[.int .i64 a0_0, .int .i64 a0_1, .int .i64 a0_2, .string a0_3]) (t := 42) ?hr ?_; (case hd => exact (by rfl)); (case hg => exact (by rfl)); (case hr => exact βAa); intro gb343 hg w39 hbox hb; have n0_ := zA_ (below_step (zh_ HB.out) hb); have n1_ := zA_ (hbox); have n2_ := zA_ ((by rw [hg]; exact (below_size (zh_ HB.out)) : w.heap.size ≤ gb343)); have n3_ := zA_ ((by rw [hg]; exact (below_size (zh_ HB.out)) : w.heap.size ≤ gb343)); clear HB; have HB := n0_; have BK343 := n1_; have GW343 := n2_; have GE343 := n3_; clear n0_ n1_ n2_ n3_; clear hb hbox hg) | (go_at_call 71; (with_reducible refine (spec_l03Is.calls a1 1 8 true _ A3.out).mono ?_); rintro e w' ⟨rfl, ⟨nd, rfl⟩⟩; have hcz40_0 := cz_ BK343.out 0 (.int .i64 a0_0) rfl; have hcz40_1 := cz_ BK343.out 1 (.int .i64 a0_1) rfl; have hcz40_2 := cz_ BK343.out 2 (.int .i64 a0_2) rfl; have hcz40_3 := cz_ BK343.out 3 (.string a0_3) rfl; have hfz40_0 := blk_frozen BK343.out 0; have hfz40_1 := blk_frozen BK343.out 1; have hfz40_2 := blk_frozen BK343.out 2; have hfz40_3 := blk_frozen BK343.out 3; (try exact βia)) | (go_at_call 71; (with_reducible refine (spec_l03Is.calls a0_1 0 (wrap64 (a1 - 1)) true _ A5.out).mono ?_); rintro e w' ⟨rfl, ⟨nd, rfl⟩⟩; (try exact βia)) | (go_at_call 71; (with_reducible refine (spec_l03Is.calls a0_2 0 (wrap64 (a1 - 1)) false _ A6.out).mono ?_); rintro e w' ⟨rfl, ⟨nd, rfl⟩⟩; (try exact βia))))
               go_ret
               exact ⟨βsa, βP⟩
           · replace c35 := Bool.eq_false_iff.mpr c35
             subst c35
             have H1 : (some false) = some r := by rw [if_neg (show ¬ (false = true) by decide)] at H; exact H
             clear H
             have H := H1
             clear H1
             obtain rfl := Option.some.inj H
             go_enter Tryd.func52, Tryd.ntmps52
             go_wp2_with (first | ((with_reducible refine gate_dst (N := 2) rfl ?_); (try (refine gate_guard (by rfl) ?_; dsimp only)); refine box_event ?hg (N := 2) ?hd (cs := #[.int .i64 a0_0, .int .i64 a0_1, .int .i64 a0_2, .string a0_3]) (t := 42) ?hr ?_; (case hd => exact (by rfl)); (case hg => exact (by rfl)); (case hr => exact βAa); intro gb343 hg w41 hbox hb; have n0_ := zA_ (below_step (zh_ HB.out) hb); have n1_ := zA_ (hbox); have n2_ := zA_ ((by rw [hg]; exact (below_size (zh_ HB.out)) : w.heap.size ≤ gb343)); have n3_ := zA_ ((by rw [hg]; exact (below_size (zh_ HB.out)) : w.heap.size ≤ gb343)); clear HB; have HB := n0_; have BK343 := n1_; have GW343 := n2_; have GE343 := n3_; clear n0_ n1_ n2_ n3_; clear hb hbox hg) | (go_at_call 71; (with_reducible refine (spec_l03Is.calls a1 1 8 true _ A3.out).mono ?_); rintro e w' ⟨rfl, ⟨nd, rfl⟩⟩; have hcz42_0 := cz_ BK343.out 0 (.int .i64 a0_0) rfl; have hcz42_1 := cz_ BK343.out 1 (.int .i64 a0_1) rfl; have hcz42_2 := cz_ BK343.out 2 (.int .i64 a0_2) rfl; have hcz42_3 := cz_ BK343.out 3 (.string a0_3) rfl; have hfz42_0 := blk_frozen BK343.out 0; have hfz42_1 := blk_frozen BK343.out 1; have hfz42_2 := blk_frozen BK343.out 2; have hfz42_3 := blk_frozen BK343.out 3; (try exact βia)) | (go_at_call 71; (with_reducible refine (spec_l03Is.calls a0_1 0 (wrap64 (a1 - 1)) false _ A5.out).mono ?_); rintro e w' ⟨rfl, ⟨nd, rfl⟩⟩; (try exact βia)) | (go_at_call 71; (with_reducible refine (spec_l03Is.calls a0_2 0 (wrap64 (a1 - 1)) t346 _ A6.out).mono ?_); rintro e w' ⟨rfl, ⟨nd, rfl⟩⟩; (try exact βia)))
             repeat (go_quiet (first | ((with_reducible refine gate_dst (N := 2) rfl ?_); (try (refine gate_guard (by rfl) ?_; dsimp only)); refine box_event ?hg (N := 2) ?hd (cs := #[.int .i64 a0_0, .int .i64 a0_1, .int .i64 a0_2, .string a0_3]) (t := 42) ?hr ?_; (case hd => exact (by rfl)); (case hg => exact (by rfl)); (case hr => exact βAa); intro gb343 hg w41 hbox hb; have n0_ := zA_ (below_step (zh_ HB.out) hb); have n1_ := zA_ (hbox); have n2_ := zA_ ((by rw [hg]; exact (below_size (zh_ HB.out)) : w.heap.size ≤ gb343)); have n3_ := zA_ ((by rw [hg]; exact (below_size (zh_ HB.out)) : w.heap.size ≤ gb343)); clear HB; have HB := n0_; have BK343 := n1_; have GW343 := n2_; have GE343 := n3_; clear n0_ n1_ n2_ n3_; clear hb hbox hg) | (go_at_call 71; (with_reducible refine (spec_l03Is.calls a1 1 8 true _ A3.out).mono ?_); rintro e w' ⟨rfl, ⟨nd, rfl⟩⟩; have hcz42_0 := cz_ BK343.out 0 (.int .i64 a0_0) rfl; have hcz42_1 := cz_ BK343.out 1 (.int .i64 a0_1) rfl; have hcz42_2 := cz_ BK343.out 2 (.int .i64 a0_2) rfl; have hcz42_3 := cz_ BK343.out 3 (.string a0_3) rfl; have hfz42_0 := blk_frozen BK343.out 0; have hfz42_1 := blk_frozen BK343.out 1; have hfz42_2 := blk_frozen BK343.out 2; have hfz42_3 := blk_frozen BK343.out 3; (try exact βia)) | (go_at_call 71; (with_reducible refine (spec_l03Is.calls a0_1 0 (wrap64 (a1 - 1)) false _ A5.out).mono ?_); rintro e w' ⟨rfl, ⟨nd, rfl⟩⟩; (try exact βia)) | (go_at_call 71; (with_reducible refine (spec_l03Is.calls a0_2 0 (wrap64 (a1 - 1)) t346 _ A6.out).mono ?_); rintro e w' ⟨rfl, ⟨nd, rfl⟩⟩; (try exact βia))); try go_wp2_with (first | ((with_reducible refine gate_dst (N := 2) rfl ?_); (try (refine gate_guard (by rfl) ?_; dsimp only)); refine box_event ?hg (N := 2) ?hd (cs := #[.int .i64 a0_0, .int .i64 a0_1, .int .i64 a0_2, .string a0_3]) (t := 42) ?hr ?_; (case hd => exact (by rfl)); (case hg => exact (by rfl)); (case hr => exact βAa); intro gb343 hg w41 hbox hb; have n0_ := zA_ (below_step (zh_ HB.out) hb); have n1_ := zA_ (hbox); have n2_ := zA_ ((by rw [hg]; exact (below_size (zh_ HB.out)) : w.heap.size ≤ gb343)); have n3_ := zA_ ((by rw [hg]; exact (below_size (zh_ HB.out)) : w.heap.size ≤ gb343)); clear HB; have HB := n0_; have BK343 := n1_; have GW343 := n2_; have GE343 := n3_; clear n0_ n1_ n2_ n3_; clear hb hbox hg) | (go_at_call 71; (with_reducible refine (spec_l03Is.calls a1 1 8 true _ A3.out).mono ?_); rintro e w' ⟨rfl, ⟨nd, rfl⟩⟩; have hcz42_0 := cz_ BK343.out 0 (.int .i64 a0_0) rfl; have hcz42_1 := cz_ BK343.out 1 (.int .i64 a0_1) rfl; have hcz42_2 := cz_ BK343.out 2 (.int .i64 a0_2) rfl; have hcz42_3 := cz_ BK343.out 3 (.string a0_3) rfl; have hfz42_0 := blk_frozen BK343.out 0; have hfz42_1 := blk_frozen BK343.out 1; have hfz42_2 := blk_frozen BK343.out 2; have hfz42_3 := blk_frozen BK343.out 3; (try exact βia)) | (go_at_call 71; (with_reducible refine (spec_l03Is.calls a0_1 0 (wrap64 (a1 - 1)) false _ A5.out).mono ?_); rintro e w' ⟨rfl, ⟨nd, rfl⟩⟩; (try exact βia)) | (go_at_call 71; (with_reducible refine (spec_l03Is.calls a0_2 0 (wrap64 (a1 - 1)) t346 _ A6.out).mono ?_); rintro e w' ⟨rfl, ⟨nd, rfl⟩⟩; (try exact βia))))
             go_ret
             exact ⟨βsa, βP⟩
         · rw [if_neg c34] at H
           have c34b0 : (a0_0 == 4) = false := beq_eq_false_iff_ne.mpr c34
           have c34b1 : (a0_0 != 4) = true := bne_iff_ne.mpr c34
           by_cases c43 : a0_0 = 5
           · rw [if_pos c43] at H
             have c43b0 : (a0_0 == 5) = true := beq_iff_eq.mpr c43
             have c43b1 : (a0_0 != 5) = false := bne_eq_false_iff_eq.mpr c43
             clear c43
             by_cases c44 : a0_1 = 0
             · rw [if_pos c44] at H
               have c44b0 : (a0_1 == 0) = true := beq_iff_eq.mpr c44
               have c44b1 : (a0_1 != 0) = false := bne_eq_false_iff_eq.mpr c44
               clear c44
               replace H := Option.bind_eq_some_iff.mp H
               obtain ⟨t347, A450, H⟩ := H
               replace H : (if t347 = true then (some (a0_3.toList == ([] : List UInt8))) else (some false)) = some r := H
               have A45 := zA_ A450
               clear A450
               by_cases c46 : t347 = true
               · subst c46
                 have H1 : (some (a0_3.toList == ([] : List UInt8))) = some r := by rw [if_pos rfl] at H; exact H
                 clear H
                 have H := H1
                 clear H1
                 obtain rfl := Option.some.inj H
                 go_enter Tryd.func52, Tryd.ntmps52
                 go_wp2_with (first | ((with_reducible refine gate_dst (N := 2) rfl ?_); (try (refine gate_guard (by rfl) ?_; dsimp only)); refine box_event ?hg (N := 2) ?hd (cs := #[.int .i64 a0_0, .int .i64 a0_1, .int .i64 a0_2, .string a0_3]) (t := 42) ?hr ?_; (case hd => exact (by rfl)); (case hg => exact (by rfl)); (case hr => exact βAa); intro gb343 hg w47 hbox hb; have n0_ := zA_ (below_step (zh_ HB.out) hb); have n1_ := zA_ (hbox); have n2_ := zA_ ((by rw [hg]; exact (below_size (zh_ HB.out)) : w.heap.size ≤ gb343)); have n3_ := zA_ ((by rw [hg]; exact (below_size (zh_ HB.out)) : w.heap.size ≤ gb343)); clear HB; have HB := n0_; have BK343 := n1_; have GW343 := n2_; have GE343 := n3_; clear n0_ n1_ n2_ n3_; clear hb hbox hg) | (go_at_call 71; (with_reducible refine (spec_l03Is.calls a1 1 8 true _ A3.out).mono ?_); rintro e w' ⟨rfl, ⟨nd, rfl⟩⟩; have hcz48_0 := cz_ BK343.out 0 (.int .i64 a0_0) rfl; have hcz48_1 := cz_ BK343.out 1 (.int .i64 a0_1) rfl; have hcz48_2 := cz_ BK343.out 2 (.int .i64 a0_2) rfl; have hcz48_3 := cz_ BK343.out 3 (.string a0_3) rfl; have hfz48_0 := blk_frozen BK343.out 0; have hfz48_1 := blk_frozen BK343.out 1; have hfz48_2 := blk_frozen BK343.out 2; have hfz48_3 := blk_frozen BK343.out 3; (try exact βia)) | (go_at_call 71; (with_reducible refine (spec_l03Is.calls a0_1 0 (wrap64 (a1 - 1)) t345 _ A5.out).mono ?_); rintro e w' ⟨rfl, ⟨nd, rfl⟩⟩; (try exact βia)) | (go_at_call 71; (with_reducible refine (spec_l03Is.calls a0_2 0 (wrap64 (a1 - 1)) t346 _ A6.out).mono ?_); rintro e w' ⟨rfl, ⟨nd, rfl⟩⟩; (try exact βia)) | (go_at_call 71; (with_reducible refine (spec_l03Is.calls a0_2 0 1000000 true _ A45.out).mono ?_); rintro e w' ⟨rfl, ⟨nd, rfl⟩⟩; (try exact βia)))
                 repeat (go_quiet (first | ((with_reducible refine gate_dst (N := 2) rfl ?_); (try (refine gate_guard (by rfl) ?_; dsimp only)); refine box_event ?hg (N := 2) ?hd (cs := #[.int .i64 a0_0, .int .i64 a0_1, .int .i64 a0_2, .string a0_3]) (t := 42) ?hr ?_; (case hd => exact (by rfl)); (case hg => exact (by rfl)); (case hr => exact βAa); intro gb343 hg w47 hbox hb; have n0_ := zA_ (below_step (zh_ HB.out) hb); have n1_ := zA_ (hbox); have n2_ := zA_ ((by rw [hg]; exact (below_size (zh_ HB.out)) : w.heap.size ≤ gb343)); have n3_ := zA_ ((by rw [hg]; exact (below_size (zh_ HB.out)) : w.heap.size ≤ gb343)); clear HB; have HB := n0_; have BK343 := n1_; have GW343 := n2_; have GE343 := n3_; clear n0_ n1_ n2_ n3_; clear hb hbox hg) | (go_at_call 71; (with_reducible refine (spec_l03Is.calls a1 1 8 true _ A3.out).mono ?_); rintro e w' ⟨rfl, ⟨nd, rfl⟩⟩; have hcz48_0 := cz_ BK343.out 0 (.int .i64 a0_0) rfl; have hcz48_1 := cz_ BK343.out 1 (.int .i64 a0_1) rfl; have hcz48_2 := cz_ BK343.out 2 (.int .i64 a0_2) rfl; have hcz48_3 := cz_ BK343.out 3 (.string a0_3) rfl; have hfz48_0 := blk_frozen BK343.out 0; have hfz48_1 := blk_frozen BK343.out 1; have hfz48_2 := blk_frozen BK343.out 2; have hfz48_3 := blk_frozen BK343.out 3; (try exact βia)) | (go_at_call 71; (with_reducible refine (spec_l03Is.calls a0_1 0 (wrap64 (a1 - 1)) t345 _ A5.out).mono ?_); rintro e w' ⟨rfl, ⟨nd, rfl⟩⟩; (try exact βia)) | (go_at_call 71; (with_reducible refine (spec_l03Is.calls a0_2 0 (wrap64 (a1 - 1)) t346 _ A6.out).mono ?_); rintro e w' ⟨rfl, ⟨nd, rfl⟩⟩; (try exact βia)) | (go_at_call 71; (with_reducible refine (spec_l03Is.calls a0_2 0 1000000 true _ A45.out).mono ?_); rintro e w' ⟨rfl, ⟨nd, rfl⟩⟩; (try exact βia))); try go_wp2_with (first | ((with_reducible refine gate_dst (N := 2) rfl ?_); (try (refine gate_guard (by rfl) ?_; dsimp only)); refine box_event ?hg (N := 2) ?hd (cs := #[.int .i64 a0_0, .int .i64 a0_1, .int .i64 a0_2, .string a0_3]) (t := 42) ?hr ?_; (case hd => exact (by rfl)); (case hg => exact (by rfl)); (case hr => exact βAa); intro gb343 hg w47 hbox hb; have n0_ := zA_ (below_step (zh_ HB.out) hb); have n1_ := zA_ (hbox); have n2_ := zA_ ((by rw [hg]; exact (below_size (zh_ HB.out)) : w.heap.size ≤ gb343)); have n3_ := zA_ ((by rw [hg]; exact (below_size (zh_ HB.out)) : w.heap.size ≤ gb343)); clear HB; have HB := n0_; have BK343 := n1_; have GW343 := n2_; have GE343 := n3_; clear n0_ n1_ n2_ n3_; clear hb hbox hg) | (go_at_call 71; (with_reducible refine (spec_l03Is.calls a1 1 8 true _ A3.out).mono ?_); rintro e w' ⟨rfl, ⟨nd, rfl⟩⟩; have hcz48_0 := cz_ BK343.out 0 (.int .i64 a0_0) rfl; have hcz48_1 := cz_ BK343.out 1 (.int .i64 a0_1) rfl; have hcz48_2 := cz_ BK343.out 2 (.int .i64 a0_2) rfl; have hcz48_3 := cz_ BK343.out 3 (.string a0_3) rfl; have hfz48_0 := blk_frozen BK343.out 0; have hfz48_1 := blk_frozen BK343.out 1; have hfz48_2 := blk_frozen BK343.out 2; have hfz48_3 := blk_frozen BK343.out 3; (try exact βia)) | (go_at_call 71; (with_reducible refine (spec_l03Is.calls a0_1 0 (wrap64 (a1 - 1)) t345 _ A5.out).mono ?_); rintro e w' ⟨rfl, ⟨nd, rfl⟩⟩; (try exact βia)) | (go_at_call 71; (with_reducible refine (spec_l03Is.calls a0_2 0 (wrap64 (a1 - 1)) t346 _ A6.out).mono ?_); rintro e w' ⟨rfl, ⟨nd, rfl⟩⟩; (try exact βia)) | (go_at_call 71; (with_reducible refine (spec_l03Is.calls a0_2 0 1000000 true _ A45.out).mono ?_); rintro e w' ⟨rfl, ⟨nd, rfl⟩⟩; (try exact βia))))
                 go_ret
                 exact ⟨βsa, βP⟩
               · replace c46 := Bool.eq_false_iff.mpr c46
                 subst c46
                 have H1 : (some false) = some r := by rw [if_neg (show ¬ (false = true) by decide)] at H; exact H
                 clear H
                 have H := H1
                 clear H1
                 obtain rfl := Option.some.inj H
                 go_enter Tryd.func52, Tryd.ntmps52
                 go_wp2_with (first | ((with_reducible refine gate_dst (N := 2) rfl ?_); (try (refine gate_guard (by rfl) ?_; dsimp only)); refine box_event ?hg (N := 2) ?hd (cs := #[.int .i64 a0_0, .int .i64 a0_1, .int .i64 a0_2, .string a0_3]) (t := 42) ?hr ?_; (case hd => exact (by rfl)); (case hg => exact (by rfl)); (case hr => exact βAa); intro gb343 hg w49 hbox hb; have n0_ := zA_ (below_step (zh_ HB.out) hb); have n1_ := zA_ (hbox); have n2_ := zA_ ((by rw [hg]; exact (below_size (zh_ HB.out)) : w.heap.size ≤ gb343)); have n3_ := zA_ ((by rw [hg]; exact (below_size (zh_ HB.out)) : w.heap.size ≤ gb343)); clear HB; have HB := n0_; have BK343 := n1_; have GW343 := n2_; have GE343 := n3_; clear n0_ n1_ n2_ n3_; clear hb hbox hg) | (go_at_call 71; (with_reducible refine (spec_l03Is.calls a1 1 8 true _ A3.out).mono ?_); rintro e w' ⟨rfl, ⟨nd, rfl⟩⟩; have hcz50_0 := cz_ BK343.out 0 (.int .i64 a0_0) rfl; have hcz50_1 := cz_ BK343.out 1 (.int .i64 a0_1) rfl; have hcz50_2 := cz_ BK343.out 2 (.int .i64 a0_2) rfl; have hcz50_3 := cz_ BK343.out 3 (.string a0_3) rfl; have hfz50_0 := blk_frozen BK343.out 0; have hfz50_1 := blk_frozen BK343.out 1; have hfz50_2 := blk_frozen BK343.out 2; have hfz50_3 := blk_frozen BK343.out 3; (try exact βia)) | (go_at_call 71; (with_reducible refine (spec_l03Is.calls a0_1 0 (wrap64 (a1 - 1)) t345 _ A5.out).mono ?_); rintro e w' ⟨rfl, ⟨nd, rfl⟩⟩; (try exact βia)) | (go_at_call 71; (with_reducible refine (spec_l03Is.calls a0_2 0 (wrap64 (a1 - 1)) t346 _ A6.out).mono ?_); rintro e w' ⟨rfl, ⟨nd, rfl⟩⟩; (try exact βia)) | (go_at_call 71; (with_reducible refine (spec_l03Is.calls a0_2 0 1000000 false _ A45.out).mono ?_); rintro e w' ⟨rfl, ⟨nd, rfl⟩⟩; (try exact βia)))
                 repeat (go_quiet (first | ((with_reducible refine gate_dst (N := 2) rfl ?_); (try (refine gate_guard (by rfl) ?_; dsimp only)); refine box_event ?hg (N := 2) ?hd (cs := #[.int .i64 a0_0, .int .i64 a0_1, .int .i64 a0_2, .string a0_3]) (t := 42) ?hr ?_; (case hd => exact (by rfl)); (case hg => exact (by rfl)); (case hr => exact βAa); intro gb343 hg w49 hbox hb; have n0_ := zA_ (below_step (zh_ HB.out) hb); have n1_ := zA_ (hbox); have n2_ := zA_ ((by rw [hg]; exact (below_size (zh_ HB.out)) : w.heap.size ≤ gb343)); have n3_ := zA_ ((by rw [hg]; exact (below_size (zh_ HB.out)) : w.heap.size ≤ gb343)); clear HB; have HB := n0_; have BK343 := n1_; have GW343 := n2_; have GE343 := n3_; clear n0_ n1_ n2_ n3_; clear hb hbox hg) | (go_at_call 71; (with_reducible refine (spec_l03Is.calls a1 1 8 true _ A3.out).mono ?_); rintro e w' ⟨rfl, ⟨nd, rfl⟩⟩; have hcz50_0 := cz_ BK343.out 0 (.int .i64 a0_0) rfl; have hcz50_1 := cz_ BK343.out 1 (.int .i64 a0_1) rfl; have hcz50_2 := cz_ BK343.out 2 (.int .i64 a0_2) rfl; have hcz50_3 := cz_ BK343.out 3 (.string a0_3) rfl; have hfz50_0 := blk_frozen BK343.out 0; have hfz50_1 := blk_frozen BK343.out 1; have hfz50_2 := blk_frozen BK343.out 2; have hfz50_3 := blk_frozen BK343.out 3; (try exact βia)) | (go_at_call 71; (with_reducible refine (spec_l03Is.calls a0_1 0 (wrap64 (a1 - 1)) t345 _ A5.out).mono ?_); rintro e w' ⟨rfl, ⟨nd, rfl⟩⟩; (try exact βia)) | (go_at_call 71; (with_reducible refine (spec_l03Is.calls a0_2 0 (wrap64 (a1 - 1)) t346 _ A6.out).mono ?_); rintro e w' ⟨rfl, ⟨nd, rfl⟩⟩; (try exact βia)) | (go_at_call 71; (with_reducible refine (spec_l03Is.calls a0_2 0 1000000 false _ A45.out).mono ?_); rintro e w' ⟨rfl, ⟨nd, rfl⟩⟩; (try exact βia))); try go_wp2_with (first | ((with_reducible refine gate_dst (N := 2) rfl ?_); (try (refine gate_guard (by rfl) ?_; dsimp only)); refine box_event ?hg (N := 2) ?hd (cs := #[.int .i64 a0_0, .int .i64 a0_1, .int .i64 a0_2, .string a0_3]) (t := 42) ?hr ?_; (case hd => exact (by rfl)); (case hg => exact (by rfl)); (case hr => exact βAa); intro gb343 hg w49 hbox hb; have n0_ := zA_ (below_step (zh_ HB.out) hb); have n1_ := zA_ (hbox); have n2_ := zA_ ((by rw [hg]; exact (below_size (zh_ HB.out)) : w.heap.size ≤ gb343)); have n3_ := zA_ ((by rw [hg]; exact (below_size (zh_ HB.out)) : w.heap.size ≤ gb343)); clear HB; have HB := n0_; have BK343 := n1_; have GW343 := n2_; have GE343 := n3_; clear n0_ n1_ n2_ n3_; clear hb hbox hg) | (go_at_call 71; (with_reducible refine (spec_l03Is.calls a1 1 8 true _ A3.out).mono ?_); rintro e w' ⟨rfl, ⟨nd, rfl⟩⟩; have hcz50_0 := cz_ BK343.out 0 (.int .i64 a0_0) rfl; have hcz50_1 := cz_ BK343.out 1 (.int .i64 a0_1) rfl; have hcz50_2 := cz_ BK343.out 2 (.int .i64 a0_2) rfl; have hcz50_3 := cz_ BK343.out 3 (.string a0_3) rfl; have hfz50_0 := blk_frozen BK343.out 0; have hfz50_1 := blk_frozen BK343.out 1; have hfz50_2 := blk_frozen BK343.out 2; have hfz50_3 := blk_frozen BK343.out 3; (try exact βia)) | (go_at_call 71; (with_reducible refine (spec_l03Is.calls a0_1 0 (wrap64 (a1 - 1)) t345 _ A5.out).mono ?_); rintro e w' ⟨rfl, ⟨nd, rfl⟩⟩; (try exact βia)) | (go_at_call 71; (with_reducible refine (spec_l03Is.calls a0_2 0 (wrap64 (a1 - 1)) t346 _ A6.out).mono ?_); rintro e w' ⟨rfl, ⟨nd, rfl⟩⟩; (try exact βia)) | (go_at_call 71; (with_reducible refine (spec_l03Is.calls a0_2 0 1000000 false _ A45.out).mono ?_); rintro e w' ⟨rfl, ⟨nd, rfl⟩⟩; (try exact βia))))
                 go_ret
                 exact ⟨βsa, βP⟩
             · rw [if_neg c44] at H
               have c44b0 : (a0_1 == 0) = false := beq_eq_false_iff_ne.mpr c44
               have c44b1 : (a0_1 != 0) = true := bne_iff_ne.mpr c44
               obtain rfl := Option.some.inj H
               go_enter Tryd.func52, Tryd.ntmps52
               go_wp2_with (first | ((with_reducible refine gate_dst (N := 2) rfl ?_); (try (refine gate_guard (by rfl) ?_; dsimp only)); refine box_event ?hg (N := 2) ?hd (cs := #[.int .i64 a0_0, .int .i64 a0_1, .int .i64 a0_2, .string a0_3]) (t := 42) ?hr ?_; (case hd => exact (by rfl)); (case hg => exact (by rfl)); (case hr => exact βAa); intro gb343 hg w51 hbox hb; have n0_ := zA_ (below_step (zh_ HB.out) hb); have n1_ := zA_ (hbox); have n2_ := zA_ ((by rw [hg]; exact (below_size (zh_ HB.out)) : w.heap.size ≤ gb343)); have n3_ := zA_ ((by rw [hg]; exact (below_size (zh_ HB.out)) : w.heap.size ≤ gb343)); clear HB; have HB := n0_; have BK343 := n1_; have GW343 := n2_; have GE343 := n3_; clear n0_ n1_ n2_ n3_; clear hb hbox hg) | (go_at_call 71; (with_reducible refine (spec_l03Is.calls a1 1 8 true _ A3.out).mono ?_); rintro e w' ⟨rfl, ⟨nd, rfl⟩⟩; have hcz52_0 := cz_ BK343.out 0 (.int .i64 a0_0) rfl; have hcz52_1 := cz_ BK343.out 1 (.int .i64 a0_1) rfl; have hcz52_2 := cz_ BK343.out 2 (.int .i64 a0_2) rfl; have hcz52_3 := cz_ BK343.out 3 (.string a0_3) rfl; have hfz52_0 := blk_frozen BK343.out 0; have hfz52_1 := blk_frozen BK343.out 1; have hfz52_2 := blk_frozen BK343.out 2; have hfz52_3 := blk_frozen BK343.out 3; (try exact βia)) | (go_at_call 71; (with_reducible refine (spec_l03Is.calls a0_1 0 (wrap64 (a1 - 1)) t345 _ A5.out).mono ?_); rintro e w' ⟨rfl, ⟨nd, rfl⟩⟩; (try exact βia)) | (go_at_call 71; (with_reducible refine (spec_l03Is.calls a0_2 0 (wrap64 (a1 - 1)) t346 _ A6.out).mono ?_); rintro e w' ⟨rfl, ⟨nd, rfl⟩⟩; (try exact βia)))
               repeat (go_quiet (first | ((with_reducible refine gate_dst (N := 2) rfl ?_); (try (refine gate_guard (by rfl) ?_; dsimp only)); refine box_event ?hg (N := 2) ?hd (cs := #[.int .i64 a0_0, .int .i64 a0_1, .int .i64 a0_2, .string a0_3]) (t := 42) ?hr ?_; (case hd => exact (by rfl)); (case hg => exact (by rfl)); (case hr => exact βAa); intro gb343 hg w51 hbox hb; have n0_ := zA_ (below_step (zh_ HB.out) hb); have n1_ := zA_ (hbox); have n2_ := zA_ ((by rw [hg]; exact (below_size (zh_ HB.out)) : w.heap.size ≤ gb343)); have n3_ := zA_ ((by rw [hg]; exact (below_size (zh_ HB.out)) : w.heap.size ≤ gb343)); clear HB; have HB := n0_; have BK343 := n1_; have GW343 := n2_; have GE343 := n3_; clear n0_ n1_ n2_ n3_; clear hb hbox hg) | (go_at_call 71; (with_reducible refine (spec_l03Is.calls a1 1 8 true _ A3.out).mono ?_); rintro e w' ⟨rfl, ⟨nd, rfl⟩⟩; have hcz52_0 := cz_ BK343.out 0 (.int .i64 a0_0) rfl; have hcz52_1 := cz_ BK343.out 1 (.int .i64 a0_1) rfl; have hcz52_2 := cz_ BK343.out 2 (.int .i64 a0_2) rfl; have hcz52_3 := cz_ BK343.out 3 (.string a0_3) rfl; have hfz52_0 := blk_frozen BK343.out 0; have hfz52_1 := blk_frozen BK343.out 1; have hfz52_2 := blk_frozen BK343.out 2; have hfz52_3 := blk_frozen BK343.out 3; (try exact βia)) | (go_at_call 71; (with_reducible refine (spec_l03Is.calls a0_1 0 (wrap64 (a1 - 1)) t345 _ A5.out).mono ?_); rintro e w' ⟨rfl, ⟨nd, rfl⟩⟩; (try exact βia)) | (go_at_call 71; (with_reducible refine (spec_l03Is.calls a0_2 0 (wrap64 (a1 - 1)) t346 _ A6.out).mono ?_); rintro e w' ⟨rfl, ⟨nd, rfl⟩⟩; (try exact βia))); try go_wp2_with (first | ((with_reducible refine gate_dst (N := 2) rfl ?_); (try (refine gate_guard (by rfl) ?_; dsimp only)); refine box_event ?hg (N := 2) ?hd (cs := #[.int .i64 a0_0, .int .i64 a0_1, .int .i64 a0_2, .string a0_3]) (t := 42) ?hr ?_; (case hd => exact (by rfl)); (case hg => exact (by rfl)); (case hr => exact βAa); intro gb343 hg w51 hbox hb; have n0_ := zA_ (below_step (zh_ HB.out) hb); have n1_ := zA_ (hbox); have n2_ := zA_ ((by rw [hg]; exact (below_size (zh_ HB.out)) : w.heap.size ≤ gb343)); have n3_ := zA_ ((by rw [hg]; exact (below_size (zh_ HB.out)) : w.heap.size ≤ gb343)); clear HB; have HB := n0_; have BK343 := n1_; have GW343 := n2_; have GE343 := n3_; clear n0_ n1_ n2_ n3_; clear hb hbox hg) | (go_at_call 71; (with_reducible refine (spec_l03Is.calls a1 1 8 true _ A3.out).mono ?_); rintro e w' ⟨rfl, ⟨nd, rfl⟩⟩; have hcz52_0 := cz_ BK343.out 0 (.int .i64 a0_0) rfl; have hcz52_1 := cz_ BK343.out 1 (.int .i64 a0_1) rfl; have hcz52_2 := cz_ BK343.out 2 (.int .i64 a0_2) rfl; have hcz52_3 := cz_ BK343.out 3 (.string a0_3) rfl; have hfz52_0 := blk_frozen BK343.out 0; have hfz52_1 := blk_frozen BK343.out 1; have hfz52_2 := blk_frozen BK343.out 2; have hfz52_3 := blk_frozen BK343.out 3; (try exact βia)) | (go_at_call 71; (with_reducible refine (spec_l03Is.calls a0_1 0 (wrap64 (a1 - 1)) t345 _ A5.out).mono ?_); rintro e w' ⟨rfl, ⟨nd, rfl⟩⟩; (try exact βia)) | (go_at_call 71; (with_reducible refine (spec_l03Is.calls a0_2 0 (wrap64 (a1 - 1)) t346 _ A6.out).mono ?_); rintro e w' ⟨rfl, ⟨nd, rfl⟩⟩; (try exact βia))))
               go_ret
               exact ⟨βsa, βP⟩
           · rw [if_neg c43] at H
             have c43b0 : (a0_0 == 5) = false := beq_eq_false_iff_ne.mpr c43
             have c43b1 : (a0_0 != 5) = true := bne_iff_ne.mpr c43
             obtain rfl := Option.some.inj H
             go_enter Tryd.func52, Tryd.ntmps52
             go_wp2_with (first | ((with_reducible refine gate_dst (N := 2) rfl ?_); (try (refine gate_guard (by rfl) ?_; dsimp only)); refine box_event ?hg (N := 2) ?hd (cs := #[.int .i64 a0_0, .int .i64 a0_1, .int .i64 a0_2, .string a0_3]) (t := 42) ?hr ?_; (case hd => exact (by rfl)); (case hg => exact (by rfl)); (case hr => exact βAa); intro gb343 hg w53 hbox hb; have n0_ := zA_ (below_step (zh_ HB.out) hb); have n1_ := zA_ (hbox); have n2_ := zA_ ((by rw [hg]; exact (below_size (zh_ HB.out)) : w.heap.size ≤ gb343)); have n3_ := zA_ ((by rw [hg]; exact (below_size (zh_ HB.out)) : w.heap.size ≤ gb343)); clear HB; have HB := n0_; have BK343 := n1_; have GW343 := n2_; have GE343 := n3_; clear n0_ n1_ n2_ n3_; clear hb hbox hg) | (go_at_call 71; (with_reducible refine (spec_l03Is.calls a1 1 8 true _ A3.out).mono ?_); rintro e w' ⟨rfl, ⟨nd, rfl⟩⟩; have hcz54_0 := cz_ BK343.out 0 (.int .i64 a0_0) rfl; have hcz54_1 := cz_ BK343.out 1 (.int .i64 a0_1) rfl; have hcz54_2 := cz_ BK343.out 2 (.int .i64 a0_2) rfl; have hcz54_3 := cz_ BK343.out 3 (.string a0_3) rfl; have hfz54_0 := blk_frozen BK343.out 0; have hfz54_1 := blk_frozen BK343.out 1; have hfz54_2 := blk_frozen BK343.out 2; have hfz54_3 := blk_frozen BK343.out 3; (try exact βia)) | (go_at_call 71; (with_reducible refine (spec_l03Is.calls a0_1 0 (wrap64 (a1 - 1)) t345 _ A5.out).mono ?_); rintro e w' ⟨rfl, ⟨nd, rfl⟩⟩; (try exact βia)) | (go_at_call 71; (with_reducible refine (spec_l03Is.calls a0_2 0 (wrap64 (a1 - 1)) t346 _ A6.out).mono ?_); rintro e w' ⟨rfl, ⟨nd, rfl⟩⟩; (try exact βia)))
             repeat (go_quiet (first | ((with_reducible refine gate_dst (N := 2) rfl ?_); (try (refine gate_guard (by rfl) ?_; dsimp only)); refine box_event ?hg (N := 2) ?hd (cs := #[.int .i64 a0_0, .int .i64 a0_1, .int .i64 a0_2, .string a0_3]) (t := 42) ?hr ?_; (case hd => exact (by rfl)); (case hg => exact (by rfl)); (case hr => exact βAa); intro gb343 hg w53 hbox hb; have n0_ := zA_ (below_step (zh_ HB.out) hb); have n1_ := zA_ (hbox); have n2_ := zA_ ((by rw [hg]; exact (below_size (zh_ HB.out)) : w.heap.size ≤ gb343)); have n3_ := zA_ ((by rw [hg]; exact (below_size (zh_ HB.out)) : w.heap.size ≤ gb343)); clear HB; have HB := n0_; have BK343 := n1_; have GW343 := n2_; have GE343 := n3_; clear n0_ n1_ n2_ n3_; clear hb hbox hg) | (go_at_call 71; (with_reducible refine (spec_l03Is.calls a1 1 8 true _ A3.out).mono ?_); rintro e w' ⟨rfl, ⟨nd, rfl⟩⟩; have hcz54_0 := cz_ BK343.out 0 (.int .i64 a0_0) rfl; have hcz54_1 := cz_ BK343.out 1 (.int .i64 a0_1) rfl; have hcz54_2 := cz_ BK343.out 2 (.int .i64 a0_2) rfl; have hcz54_3 := cz_ BK343.out 3 (.string a0_3) rfl; have hfz54_0 := blk_frozen BK343.out 0; have hfz54_1 := blk_frozen BK343.out 1; have hfz54_2 := blk_frozen BK343.out 2; have hfz54_3 := blk_frozen BK343.out 3; (try exact βia)) | (go_at_call 71; (with_reducible refine (spec_l03Is.calls a0_1 0 (wrap64 (a1 - 1)) t345 _ A5.out).mono ?_); rintro e w' ⟨rfl, ⟨nd, rfl⟩⟩; (try exact βia)) | (go_at_call 71; (with_reducible refine (spec_l03Is.calls a0_2 0 (wrap64 (a1 - 1)) t346 _ A6.out).mono ?_); rintro e w' ⟨rfl, ⟨nd, rfl⟩⟩; (try exact βia))); try go_wp2_with (first | ((with_reducible refine gate_dst (N := 2) rfl ?_); (try (refine gate_guard (by rfl) ?_; dsimp only)); refine box_event ?hg (N := 2) ?hd (cs := #[.int .i64 a0_0, .int .i64 a0_1, .int .i64 a0_2, .string a0_3]) (t := 42) ?hr ?_; (case hd => exact (by rfl)); (case hg => exact (by rfl)); (case hr => exact βAa); intro gb343 hg w53 hbox hb; have n0_ := zA_ (below_step (zh_ HB.out) hb); have n1_ := zA_ (hbox); have n2_ := zA_ ((by rw [hg]; exact (below_size (zh_ HB.out)) : w.heap.size ≤ gb343)); have n3_ := zA_ ((by rw [hg]; exact (below_size (zh_ HB.out)) : w.heap.size ≤ gb343)); clear HB; have HB := n0_; have BK343 := n1_; have GW343 := n2_; have GE343 := n3_; clear n0_ n1_ n2_ n3_; clear hb hbox hg) | (go_at_call 71; (with_reducible refine (spec_l03Is.calls a1 1 8 true _ A3.out).mono ?_); rintro e w' ⟨rfl, ⟨nd, rfl⟩⟩; have hcz54_0 := cz_ BK343.out 0 (.int .i64 a0_0) rfl; have hcz54_1 := cz_ BK343.out 1 (.int .i64 a0_1) rfl; have hcz54_2 := cz_ BK343.out 2 (.int .i64 a0_2) rfl; have hcz54_3 := cz_ BK343.out 3 (.string a0_3) rfl; have hfz54_0 := blk_frozen BK343.out 0; have hfz54_1 := blk_frozen BK343.out 1; have hfz54_2 := blk_frozen BK343.out 2; have hfz54_3 := blk_frozen BK343.out 3; (try exact βia)) | (go_at_call 71; (with_reducible refine (spec_l03Is.calls a0_1 0 (wrap64 (a1 - 1)) t345 _ A5.out).mono ?_); rintro e w' ⟨rfl, ⟨nd, rfl⟩⟩; (try exact βia)) | (go_at_call 71; (with_reducible refine (spec_l03Is.calls a0_2 0 (wrap64 (a1 - 1)) t346 _ A6.out).mono ?_); rintro e w' ⟨rfl, ⟨nd, rfl⟩⟩; (try exact βia))))
             go_ret
             exact ⟨βsa, βP⟩
 · replace c4 := Bool.eq_false_iff.mpr c4
   subst c4
   have H1 : (some false) = some r := by rw [if_neg (show ¬ (false = true) by decide)] at H; exact H
   clear H
   have H := H1
   clear H1
   obtain rfl := Option.some.inj H
   go_enter Tryd.func52, Tryd.ntmps52
   go_wp2_with (first | ((with_reducible refine gate_dst (N := 2) rfl ?_); (try (refine gate_guard (by rfl) ?_; dsimp only)); refine box_event ?hg (N := 2) ?hd (cs := #[.int .i64 a0_0, .int .i64 a0_1, .int .i64 a0_2, .string a0_3]) (t := 42) ?hr ?_; (case hd => exact (by rfl)); (case hg => exact (by rfl)); (case hr => exact βAa); intro gb343 hg w55 hbox hb; have n0_ := zA_ (below_step (zh_ HB.out) hb); have n1_ := zA_ (hbox); have n2_ := zA_ ((by rw [hg]; exact (below_size (zh_ HB.out)) : w.heap.size ≤ gb343)); have n3_ := zA_ ((by rw [hg]; exact (below_size (zh_ HB.out)) : w.heap.size ≤ gb343)); clear HB; have HB := n0_; have BK343 := n1_; have GW343 := n2_; have GE343 := n3_; clear n0_ n1_ n2_ n3_; clear hb hbox hg) | (go_at_call 71; (with_reducible refine (spec_l03Is.calls a1 1 8 false _ A3.out).mono ?_); rintro e w' ⟨rfl, ⟨nd, rfl⟩⟩; (try exact βia)))
   repeat (go_quiet (first | ((with_reducible refine gate_dst (N := 2) rfl ?_); (try (refine gate_guard (by rfl) ?_; dsimp only)); refine box_event ?hg (N := 2) ?hd (cs := #[.int .i64 a0_0, .int .i64 a0_1, .int .i64 a0_2, .string a0_3]) (t := 42) ?hr ?_; (case hd => exact (by rfl)); (case hg => exact (by rfl)); (case hr => exact βAa); intro gb343 hg w55 hbox hb; have n0_ := zA_ (below_step (zh_ HB.out) hb); have n1_ := zA_ (hbox); have n2_ := zA_ ((by rw [hg]; exact (below_size (zh_ HB.out)) : w.heap.size ≤ gb343)); have n3_ := zA_ ((by rw [hg]; exact (below_size (zh_ HB.out)) : w.heap.size ≤ gb343)); clear HB; have HB := n0_; have BK343 := n1_; have GW343 := n2_; have GE343 := n3_; clear n0_ n1_ n2_ n3_; clear hb hbox hg) | (go_at_call 71; (with_reducible refine (spec_l03Is.calls a1 1 8 false _ A3.out).mono ?_); rintro e w' ⟨rfl, ⟨nd, rfl⟩⟩; (try exact βia))); try go_wp2_with (first | ((with_reducible refine gate_dst (N := 2) rfl ?_); (try (refine gate_guard (by rfl) ?_; dsimp only)); refine box_event ?hg (N := 2) ?hd (cs := #[.int .i64 a0_0, .int .i64 a0_1, .int .i64 a0_2, .string a0_3]) (t := 42) ?hr ?_; (case hd => exact (by rfl)); (case hg => exact (by rfl)); (case hr => exact βAa); intro gb343 hg w55 hbox hb; have n0_ := zA_ (below_step (zh_ HB.out) hb); have n1_ := zA_ (hbox); have n2_ := zA_ ((by rw [hg]; exact (below_size (zh_ HB.out)) : w.heap.size ≤ gb343)); have n3_ := zA_ ((by rw [hg]; exact (below_size (zh_ HB.out)) : w.heap.size ≤ gb343)); clear HB; have HB := n0_; have BK343 := n1_; have GW343 := n2_; have GE343 := n3_; clear n0_ n1_ n2_ n3_; clear hb hbox hg) | (go_at_call 71; (with_reducible refine (spec_l03Is.calls a1 1 8 false _ A3.out).mono ?_); rintro e w' ⟨rfl, ⟨nd, rfl⟩⟩; (try exact βia))))
   go_ret
   exact ⟨βsa, βP⟩
end Go.Proofs.YtldhjbjbjoomcaaDoor.Q
