/- ListOf of a list of runs: what the program's (masks) and the reference's (counts) compute, and that both are the same. Conditions: lists no longer than a row allows. -/
import Derived.Test.YthlcpdmbeiaidaaBits
import Derived.Test.YthlcpdmbeiaidaaExtents
import Derived.Test.YthlcpdmbeiaidaaQx16
import Derived.Test.YthlcpdmbeiaidaaQx14
namespace Go.Proofs.Ythlcpdmbeiaidaa.Pure
set_option linter.unusedVariables false
set_option linter.unusedSimpArgs false
open Go Go.RowKit Go.Proofs.Ythlcpdmbeiaidaa.Q Go.Proofs.YthlcpdmbeiaidaaW.PrintWords Go.Proofs.YthlcpdmbeiaidaaW.PrintLast Go.Proofs.YthlcpdmbeiaidaaW.PrintMore
/-- A run within the area. -/
def okE (e : Ext) : Prop := (1 ≤ e.f1 ∧ e.f1 ≤ 24) ∧ 0 ≤ e.f0 ∧ e.f0 ≤ 24 - e.f1
instance (e : Ext) : Decidable (okE e) := by unfold okE; infer_instance
def tab (g : Nat → Int) : List Int := (List.range 24).map g
def bump (g : Nat → Int) (f c : Int) : Nat → Int := fun j => if f ≤ j ∧ (j : Int) < f + c then g j + 1 else g j
def pickFrom (g : Nat → Int) : Nat → Nat → List Int → List Int × Int
  | 0, _, acc => (acc, 0)
  | d + 1, i, acc => if g i > 1 then ([], 12) else if g i = 1 then pickFrom g d (i + 1) (acc ++ [(i : Int)]) else pickFrom g d (i + 1) acc
def specGo : List Ext → (Nat → Int) → List Int × Int
  | [], g => pickFrom g 24 0 []
  | e :: r, g => if okE e then specGo r (bump g e.f0 e.f1) else ([], 1)
def own (e : Ext) : Nat := (2 ^ e.f1.toNat - 1) * 2 ^ e.f0.toNat
def implGo : List Ext → Nat → List Int × Int
  | [], v => (bitList v, 0)
  | e :: r, v => if v &&& own e = 0 then implGo r (v ||| own e) else ([], 12)
def listOf (l : List Ext) : List Int × Int := if l.length > 400 then ([], 2) else if ∀ e ∈ l, okE e then implGo l 0 else ([], 1)

theorem tab_length (g : Nat → Int) : (tab g).length = 24 := by simp [tab]
theorem rd_tab (g : Nat → Int) (j : Nat) (h : j < 24) : rd (tab g) (j : Int) = g j := by simp [rd, tab, h]
theorem set_tab (g : Nat → Int) (j : Nat) (v : Int) : (tab g).set j v = tab (fun i => if i = j then v else g i) := by
  apply List.ext_getElem
  · simp [tab]
  · intro n h1 h2
    simp only [tab, List.getElem_set, List.getElem_map, List.getElem_range]
    by_cases e : n = j
    · simp [e]
    · rw [if_neg (fun h => e h.symm), if_neg e]
theorem tab_congr {g h : Nat → Int} (e : ∀ j, g j = h j) : tab g = tab h := by rw [funext e]

theorem len_snoc {α : Type} (q : List α) (e : α) : (q ++ [e]).length = q.length + 1 := by simp
theorem decide_congr' {p q : Prop} [Decidable p] [Decidable q] (h : p ↔ q) : decide p = decide q := by rw [Bool.eq_iff_iff]; simpa using h
theorem specPick (d : Nat) : ∀ (g : Nat → Int) (i : Nat) (acc : List Int), i + d = 24 → acc.length ≤ i →
    Ev (fun k => spec_ListOf.l2 k (tab g) acc (i : Int)) (pickFrom g d i acc) := by
  induction d with
  | zero => intro g i acc h hl; exact Ev.step (fun k => by rw [spec_ListOf.l2, if_neg (by omega)]) (by rw [pickFrom]; exact Ev.now _)
  | succ d ih =>
    intro g i acc h hl
    refine Ev.step (fun k => by rw [spec_ListOf.l2, if_pos (by omega), if_pos (by omega), if_pos (by rw [tab_length]; omega), rd_tab g i (by omega), next64 (by omega)]) ?_
    rw [pickFrom]
    by_cases h1 : g i > 1
    · simp only [if_pos h1]; exact Ev.now _
    · simp only [if_neg h1]
      by_cases h2 : g i = 1
      · simp only [if_pos h2, if_pos (show acc.length < 17592186044416 by omega)]
        exact ih g (i + 1) _ (by omega) (by simp; omega)
      · simp only [if_neg h2]
        exact ih g (i + 1) _ (by omega) (by omega)
theorem specInner (L : List Ext) (i : Int) (e : Ext) (R : List Int × Int) (G : Nat → Int) (hi0 : 0 ≤ i) (hi1 : i < (L.length : Int)) (he : rd_T50 L i = e) (h0 : 0 ≤ e.f0) (hc0 : 1 ≤ e.f1) (h1 : e.f0 + e.f1 ≤ 24)
    (hG : Ev (fun k => spec_ListOf.l0 k L (tab G) (wrap64 (i + 1))) R) (d : Nat) : ∀ (x : Nat) (g : Nat → Int), (x : Int) + d = e.f0 + e.f1 → (∀ j : Nat, x ≤ j → 0 ≤ g j ∧ g j ≤ 1000000) →
    (∀ j : Nat, G j = if x ≤ j ∧ (j : Int) < e.f0 + e.f1 then g j + 1 else g j) → Ev (fun k => spec_ListOf.l1 k L (tab g) i (x : Int)) R := by
  induction d with
  | zero =>
    intro x g h _ hg
    refine Ev.step (fun k => by rw [spec_ListOf.l1, if_pos hi0, if_pos hi1, he, wrap64_id (n := e.f0 + e.f1) (by omega) (by omega), if_neg (by omega)]) ?_
    have : tab g = tab G := tab_congr (fun j => by rw [hg, if_neg (by omega)])
    rw [this]; exact hG
  | succ d ih =>
    intro x g h hb hg
    have hx := hb x (Nat.le_refl _)
    refine Ev.step (fun k => by rw [spec_ListOf.l1, if_pos hi0, if_pos hi1, he, wrap64_id (n := e.f0 + e.f1) (by omega) (by omega), if_pos (by omega), if_pos (by omega), if_pos (by rw [tab_length]; omega), rd_tab g x (by omega), wrap64_id (n := g x + 1) (by omega) (by omega), next64 (by omega), Int.toNat_natCast, set_tab]) ?_
    refine ih (x + 1) _ (by omega) (fun j hj => ?_) (fun j => ?_)
    · simp only [if_neg (show ¬ j = x by omega)]; exact hb j (by omega)
    · rw [hg]
      by_cases e1 : j = x
      · subst e1; rw [if_pos (by omega), if_neg (by omega), if_pos rfl]
      · by_cases e2 : x ≤ j ∧ (j : Int) < e.f0 + e.f1
        · rw [if_pos e2, if_pos (by omega), if_neg e1]
        · rw [if_neg e2, if_neg (by omega), if_neg e1]
theorem specList_l0 (N : Nat) (hN : N ≤ 400) (r : List Ext) : ∀ (q : List Ext) (g : Nat → Int), q.length + r.length = N → (∀ j, 0 ≤ g j ∧ g j ≤ q.length) →
    Ev (fun k => spec_ListOf.l0 k (q ++ r) (tab g) (q.length : Int)) (specGo r g) := by
  induction r with
  | nil => intro q g h hg; exact Ev.step (fun k => by rw [spec_ListOf.l0, if_neg (not_lt_end q)]) (by rw [specGo]; exact specPick 24 g 0 [] rfl (by simp))
  | cons e r ih =>
    intro q g h hg
    simp only [List.length_cons] at h
    have key : Ev (fun k => spec_ListOf.j1 k (q ++ e :: r) (tab g) (q.length : Int) (!decide (okE e))) (specGo (e :: r) g) := by
      rw [specGo]
      by_cases ho : okE e
      · obtain ⟨⟨a1, a2⟩, a3, a4⟩ := id ho
        rw [if_pos ho, decide_eq_true ho]
        refine Ev.step (fun k => by rw [spec_ListOf.j1, if_neg (by decide), if_pos (by omega), if_pos (lt_mid q e r), rdE_mid]) ?_
        have hr := ih (q ++ [e]) (bump g e.f0 e.f1) (by simp; omega) (fun j => by
          have := hg j
          unfold bump
          split <;> (rw [List.length_append, List.length_singleton]; omega))
        rw [← snoc_app, List.length_append, List.length_singleton, ← next64 (by omega)] at hr
        have := specInner (q ++ e :: r) q.length e _ (bump g e.f0 e.f1) (by omega) (lt_mid q e r) (rdE_mid q e r) a3 a1 (by omega) hr e.f1.toNat e.f0.toNat g (by omega) (fun j _ => by have := hg j; omega) (fun j => by
          unfold bump
          by_cases e1 : e.f0 ≤ j ∧ (j : Int) < e.f0 + e.f1
          · rw [if_pos e1, if_pos (by omega)]
          · rw [if_neg e1, if_neg (by omega)])
        rw [Int.toNat_of_nonneg a3] at this
        exact this
      · rw [if_neg ho, decide_eq_false ho]
        exact Ev.step (fun k => by rw [spec_ListOf.j1, if_pos (by decide)]) (Ev.now _)
    refine Ev.step (fun k => by rw [spec_ListOf.l0, if_pos (lt_mid q e r), if_pos (by omega), rdE_mid]) ?_
    by_cases h1 : e.f1 < 1
    · simp only [if_pos h1]
      rw [show (!decide (okE e)) = true by rw [decide_eq_false (fun h : okE e => by have := h.1.1; omega)]; rfl] at key; exact key
    · simp only [if_neg h1]
      by_cases h2 : e.f1 > 24
      · simp only [if_pos h2]
        rw [show (!decide (okE e)) = true by rw [decide_eq_false (fun h : okE e => by have := h.1.2; omega)]; rfl] at key; exact key
      · simp only [if_neg h2]
        by_cases h3 : e.f0 < 0
        · simp only [if_pos h3]
          rw [show (!decide (okE e)) = true by rw [decide_eq_false (fun h : okE e => by have := h.2.1; omega)]; rfl] at key; exact key
        · simp only [if_neg h3]
          rw [wrap64_id (n := 24 - e.f1) (by omega) (by omega)]
          rw [show (!decide (okE e)) = decide (e.f0 > 24 - e.f1) by rw [decide_congr' (show okE e ↔ ¬ (e.f0 > 24 - e.f1) from ⟨fun h => by have := h.2.2; omega, fun h => ⟨⟨by omega, by omega⟩, by omega, by omega⟩⟩), decide_not, Bool.not_not]] at key; exact key

theorem shl_nat (x i : Nat) (hi : i ≤ 60) (hx : x * 2 ^ i < 9223372036854775808) : shl .i64 (x : Int) (i : Int) = ((x * 2 ^ i : Nat) : Int) := by
  unfold shl
  rw [show min (i : Int).toNat IntKind.i64.bits = i by simp [IntKind.bits]; omega]
  have e2 : (x : Int) * 2 ^ i = ((x * 2 ^ i : Nat) : Int) := by simp
  rw [e2, wraps_i64 _ (Int.natCast_nonneg _) (Int.ofNat_lt.2 hx)]
theorem own_lt (e : Ext) (h : okE e) : own e < 16777216 := by
  obtain ⟨⟨a1, a2⟩, a3, a4⟩ := h
  have h1 : own e < 2 ^ e.f1.toNat * 2 ^ e.f0.toNat := Nat.mul_lt_mul_of_pos_right (by have := Nat.two_pow_pos e.f1.toNat; omega) (Nat.two_pow_pos _)
  rw [← Nat.pow_add] at h1
  have h2 : 2 ^ (e.f1.toNat + e.f0.toNat) ≤ 2 ^ 24 := Nat.pow_le_pow_right (by omega) (by omega)
  have h3 : (2 : Nat) ^ 24 = 16777216 := by decide
  omega
theorem own_bit (e : Ext) (h : okE e) (j : Nat) : (own e).testBit j = decide (e.f0 ≤ j ∧ (j : Int) < e.f0 + e.f1) := by
  obtain ⟨⟨a1, a2⟩, a3, a4⟩ := h
  unfold own
  rw [Nat.testBit_mul_two_pow, Nat.testBit_two_pow_sub_one, Bool.eq_iff_iff]
  simp only [Bool.and_eq_true, decide_eq_true_eq]
  omega
theorem own_int (e : Ext) (h : okE e) : shl .i64 (wrap64 ((shl .i64 1 e.f1) - 1)) e.f0 = (own e : Int) := by
  have hl := own_lt e h
  obtain ⟨⟨a1, a2⟩, a3, a4⟩ := h
  unfold own at hl ⊢
  have hp := Nat.two_pow_pos e.f1.toNat
  have hq : 2 ^ e.f1.toNat ≤ 2 ^ 24 := Nat.pow_le_pow_right (by omega) (by omega)
  have hq2 : (2 : Nat) ^ 24 = 16777216 := by decide
  have h1 := shl_one e.f1.toNat (by omega)
  rw [Int.toNat_of_nonneg (by omega)] at h1
  rw [h1, wrap64_id (by omega) (by omega), show ((2 ^ e.f1.toNat : Nat) : Int) - 1 = ((2 ^ e.f1.toNat - 1 : Nat) : Int) by omega]
  have h2 := shl_nat (2 ^ e.f1.toNat - 1) e.f0.toNat (by omega) (by omega)
  rw [Int.toNat_of_nonneg a3] at h2
  exact h2
theorem implList_l1 (N : Nat) (hN : N ≤ 400) (r : List Ext) : ∀ (q : List Ext) (v : Nat), q.length + r.length = N → v < 16777216 → (∀ e ∈ r, okE e) →
    Ev (fun k => impl_ListOf.l1 k (v : Int) (q ++ r) ((q ++ r).length : Int) (q.length : Int)) (implGo r v) := by
  induction r with
  | nil =>
    intro q v h hv _
    refine Ev.step (fun k => by rw [impl_ListOf.l1, if_neg (not_lt_end q)]) ?_
    have := implFrom v (by omega) (by omega)
    rw [Int.toNat_natCast] at this
    exact Ev.bind this (Ev.now _)
  | cons e r ih =>
    intro q v h hv ho
    simp only [List.length_cons] at h
    have he := ho e (by simp)
    have hl := own_lt e he
    have hi := own_int e he
    obtain ⟨⟨a1, a2⟩, a3, a4⟩ := id he
    refine Ev.step (fun k => by rw [impl_ListOf.l1, if_pos (lt_mid q e r), if_pos (by omega), if_pos (lt_mid q e r), rdE_mid, if_pos (by omega), if_pos a3, hi, and_i64 v (own e) (by omega) (by omega), or_i64 v (own e) (by omega) (by omega), next64 (by omega)]) ?_
    rw [implGo]
    by_cases hz : v &&& own e = 0
    · simp only [if_pos hz, if_pos (show ((v &&& own e : Nat) : Int) = 0 by omega)]
      have := ih (q ++ [e]) (v ||| own e) (by simp; omega) (Nat.or_lt_two_pow (n := 24) (by omega) (by omega)) (fun x hx => ho x (by simp [hx]))
      rw [← snoc_app, len_snoc] at this
      exact this
    · simp only [if_neg hz, if_neg (show ¬ ((v &&& own e : Nat) : Int) = 0 by omega)]
      exact Ev.now _
theorem implList_l0 (N : Nat) (hN : N ≤ 400) (R : List Int × Int) (l : List Ext) (hR : (∀ e ∈ l, okE e) → Ev (fun k => impl_ListOf.l1 k 0 l (l.length : Int) 0) R) (r : List Ext) : ∀ (q : List Ext), q.length + r.length = N → ((∀ e ∈ r, okE e) → ∀ e ∈ l, okE e) →
    Ev (fun k => impl_ListOf.l0 k l (q ++ r) ((q ++ r).length : Int) (q.length : Int)) (if ∀ e ∈ r, okE e then R else ([], 1)) := by
  induction r with
  | nil => intro q h hq; exact Ev.step (fun k => by rw [impl_ListOf.l0, if_neg (not_lt_end q)]) (by simpa using hR (hq (by simp)))
  | cons e r ih =>
    intro q h hq
    simp only [List.length_cons] at h
    refine Ev.step (fun k => by rw [impl_ListOf.l0, if_pos (lt_mid q e r), if_pos (by omega), if_pos (lt_mid q e r), rdE_mid, within_eq, next64 (by omega)]) ?_
    simp only [Option.bind_some]
    by_cases ho : okE e
    · obtain ⟨⟨a1, a2⟩, a3, a4⟩ := id ho
      simp only [decide_eq_true (show 1 ≤ e.f1 ∧ e.f1 ≤ 24 from ⟨a1, a2⟩), if_true]
      rw [wrap64_id (n := 24 - e.f1) (by omega) (by omega), within_eq]
      simp only [Option.bind_some, decide_eq_true (show 0 ≤ e.f0 ∧ e.f0 ≤ 24 - e.f1 from ⟨a3, a4⟩), if_true]
      have hb : (∀ x ∈ e :: r, okE x) ↔ (∀ x ∈ r, okE x) := by simp [ho]
      have := ih (q ++ [e]) (by simp; omega) (fun h => hq (hb.2 h))
      rw [← snoc_app, len_snoc] at this
      simp only [hb]
      exact this
    · rw [if_neg (show ¬ (∀ x ∈ e :: r, okE x) from fun h => ho (h e (by simp)))]
      by_cases h1 : 1 ≤ e.f1 ∧ e.f1 ≤ 24
      · simp only [decide_eq_true h1, if_true]
        rw [wrap64_id (n := 24 - e.f1) (by omega) (by omega), within_eq]
        simp only [Option.bind_some, decide_eq_false (show ¬ (0 ≤ e.f0 ∧ e.f0 ≤ 24 - e.f1) from fun h => ho ⟨h1, h⟩), Bool.false_eq_true, if_false]
        exact Ev.now _
      · simp only [decide_eq_false h1, Bool.false_eq_true, if_false]
        exact Ev.now _
theorem implListOf (l : List Ext) (h : l.length < 9223372036854775807) : Ev (fun k => impl_ListOf.f k l) (listOf l) := by
  unfold impl_ListOf.f listOf
  by_cases h1 : l.length > 400
  · simp only [if_pos h1, if_pos (show (l.length : Int) > 400 by omega)]; exact Ev.now _
  · simp only [if_neg h1, if_neg (show ¬ (l.length : Int) > 400 by omega)]
    by_cases ho : ∀ e ∈ l, okE e
    · have := implList_l0 l.length (by omega) (implGo l 0) l (fun _ => implList_l1 l.length (by omega) l [] 0 (by simp) (by omega) ho) l [] (by simp) (fun h => h)
      rw [if_pos ho] at this ⊢; exact this
    · have := implList_l0 l.length (by omega) ([], 1) l (fun h => absurd h ho) l [] (by simp) (fun h => h)
      rw [if_neg ho] at this ⊢; exact this
theorem pick_bits (v : Nat) (d : Nat) : ∀ (g : Nat → Int) (i : Nat) (acc : List Int), i + d = 24 → (∀ j, j < 24 → g j = if v.testBit j = true then 1 else 0) → pickFrom g d i acc = (acc ++ bitsFrom v d i, 0) := by
  induction d with
  | zero => intro g i acc _ _; simp [pickFrom, bitsFrom]
  | succ d ih =>
    intro g i acc h hg
    have hi := hg i (by omega)
    rw [pickFrom, bitsFrom]
    by_cases hb : v.testBit i = true
    · rw [if_pos hb] at hi; rw [if_neg (by omega), if_pos hi, if_pos hb, ih g (i + 1) _ (by omega) hg]; simp
    · rw [if_neg hb] at hi; rw [if_neg (by omega), if_neg (by omega), if_neg hb, ih g (i + 1) _ (by omega) hg]
theorem pick_twice (d : Nat) : ∀ (g : Nat → Int) (i : Nat) (acc : List Int) (j : Nat), i + d = 24 → i ≤ j → j < 24 → g j > 1 → pickFrom g d i acc = ([], 12) := by
  induction d with
  | zero => intro g i acc j h h1 h2 _; omega
  | succ d ih =>
    intro g i acc j h h1 h2 hg
    rw [pickFrom]
    by_cases e : g i > 1
    · rw [if_pos e]
    · have : j ≠ i := fun h => e (h ▸ hg)
      rw [if_neg e]
      split
      · exact ih g (i + 1) _ j (by omega) (by omega) h2 hg
      · exact ih g (i + 1) _ j (by omega) (by omega) h2 hg
theorem specGo_twice (r : List Ext) : ∀ (g : Nat → Int) (j : Nat), (∀ e ∈ r, okE e) → j < 24 → g j > 1 → specGo r g = ([], 12) := by
  induction r with
  | nil => intro g j _ h hg; exact pick_twice 24 g 0 [] j rfl (by omega) h hg
  | cons e r ih =>
    intro g j ho h hg
    rw [specGo, if_pos (ho e (by simp))]
    refine ih _ j (fun x hx => ho x (by simp [hx])) h ?_
    unfold bump; split <;> omega
theorem specGo_form (r : List Ext) : ∀ (g : Nat → Int), ¬ (∀ e ∈ r, okE e) → specGo r g = ([], 1) := by
  induction r with
  | nil => intro g h; exact absurd (by simp) h
  | cons e r ih =>
    intro g h
    rw [specGo]
    by_cases he : okE e
    · rw [if_pos he]; exact ih _ (fun h2 => h (fun x hx => by rcases List.mem_cons.1 hx with rfl | hx; exact he; exact h2 x hx))
    · rw [if_neg he]
theorem specGo_impl (r : List Ext) : ∀ (g : Nat → Int) (v : Nat), (∀ e ∈ r, okE e) → (∀ j, j < 24 → g j = if v.testBit j = true then 1 else 0) → specGo r g = implGo r v := by
  induction r with
  | nil => intro g v _ hg; rw [specGo, implGo, pick_bits v 24 g 0 [] rfl hg]; rfl
  | cons e r ih =>
    intro g v ho hg
    have he := ho e (by simp)
    have hb := own_bit e he
    rw [specGo, implGo, if_pos he]
    by_cases hz : v &&& own e = 0
    · rw [if_pos hz]
      refine ih _ _ (fun x hx => ho x (by simp [hx])) (fun j hj => ?_)
      have h1 : (v &&& own e).testBit j = false := by rw [hz]; simp
      rw [Nat.testBit_and] at h1
      have h2 := hg j hj
      have h3 := hb j
      rw [Nat.testBit_or]
      unfold bump
      by_cases e1 : e.f0 ≤ j ∧ (j : Int) < e.f0 + e.f1
      · rw [decide_eq_true e1] at h3
        rw [h3, Bool.and_true] at h1
        rw [h1] at h2 ⊢
        rw [if_pos e1, h3, h2]; simp
      · rw [decide_eq_false e1] at h3
        rw [if_neg e1, h3, h2]; simp
    · rw [if_neg hz]
      obtain ⟨j, hj⟩ : ∃ j, (v &&& own e).testBit j = true := Nat.exists_testBit_of_ne_zero hz
      rw [Nat.testBit_and, Bool.and_eq_true, hb j, decide_eq_true_iff] at hj
      obtain ⟨⟨a1, a2⟩, a3, a4⟩ := id he
      refine specGo_twice r _ j (fun x hx => ho x (by simp [hx])) (by omega) ?_
      unfold bump
      rw [if_pos hj.2, hg j (by omega), if_pos hj.1]; omega
theorem specListOf (l : List Ext) (h : l.length < 9223372036854775807) : Ev (fun k => spec_ListOf.f k l) (listOf l) := by
  unfold spec_ListOf.f listOf
  by_cases h1 : l.length > 400
  · simp only [if_pos h1, if_pos (show (l.length : Int) > 400 by omega)]; exact Ev.now _
  · simp only [if_neg h1, if_neg (show ¬ (l.length : Int) > 400 by omega), if_pos (show 24 ≤ 35184372088832 by omega)]
    have := specList_l0 l.length (by omega) l [] (fun _ => 0) (by simp) (by simp)
    have e : tab (fun _ => 0) = List.replicate 24 0 := by decide
    rw [e] at this
    by_cases ho : ∀ e ∈ l, okE e
    · rw [if_pos ho, ← specGo_impl l (fun _ => 0) 0 ho (by simp)]; exact this
    · rw [if_neg ho, ← specGo_form l (fun _ => 0) ho]; exact this
theorem listOf_length (l : List Ext) : (listOf l).1.length ≤ 24 := by
  have : ∀ (r : List Ext) (v : Nat), (implGo r v).1.length ≤ 24 := by
    intro r
    induction r with
    | nil => intro v; exact bitList_length v
    | cons e r ih =>
      intro v
      rw [implGo]
      split
      · exact ih _
      · simp
  unfold listOf
  split
  · simp
  · split
    · exact this l 0
    · simp
end Go.Proofs.Ythlcpdmbeiaidaa.Pure
