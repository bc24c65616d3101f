/- The area's masks: what fromBits, bitsOf and freeOf compute. Conditions: masks of 24 bits, rising lists of 0 to 23. -/
import Derived.Test.YthlcpdmbeiaidaaArea
import Derived.Test.YthlcpdmbeiaidaaQx4
import Derived.Test.YthlcpdmbeiaidaaQx5
import Derived.Test.YthlcpdmbeiaidaaQx7
import Derived.Laws.BitsLemmas
namespace Go.Proofs.Ythlcpdmbeiaidaa.Pure
set_option linter.unusedVariables false
set_option linter.unusedSimpArgs false
open Go Go.RowKit Go.Proofs.Ythlcpdmbeiaidaa.Q Go.Proofs.YthlcpdmbeiaidaaW.PrintWords Go.Proofs.YthlcpdmbeiaidaaW.PrintLast Go.Proofs.YthlcpdmbeiaidaaW.PrintMore
theorem wraps_i64 (n : Int) (h0 : 0 ≤ n) (h1 : n < 2 ^ 63) : IntKind.i64.wrap n = n := by rw [IntKind.wrap_i64]; omega
theorem and_i64 (a b : Nat) (ha : a < 9223372036854775808) (hb : b < 9223372036854775808) : Go.bits .and .i64 (a : Int) (b : Int) = ((a &&& b : Nat) : Int) := (bits_nat .i64 63 (by decide) wraps_i64 a b ha hb).1
theorem or_i64 (a b : Nat) (ha : a < 9223372036854775808) (hb : b < 9223372036854775808) : Go.bits .or .i64 (a : Int) (b : Int) = ((a ||| b : Nat) : Int) := (bits_nat .i64 63 (by decide) wraps_i64 a b ha hb).2
theorem shr_i64 (x i : Nat) (hi : i ≤ 24) : shr .i64 (x : Int) (i : Int) = ((x / 2 ^ i : Nat) : Int) := by
  unfold shr
  rw [show min (i : Int).toNat IntKind.i64.bits = i by simp [IntKind.bits]; omega]
  simp
theorem shl_one (i : Nat) (hi : i ≤ 60) : shl .i64 1 (i : Int) = ((2 ^ i : Nat) : Int) := by
  unfold shl
  rw [show min (i : Int).toNat IntKind.i64.bits = i by simp [IntKind.bits]; omega]
  have : 2 ^ i ≤ 2 ^ 60 := Nat.pow_le_pow_right (by omega) hi
  have e : (2 : Nat) ^ 60 = 1152921504606846976 := by decide
  have e2 : (1 : Int) * 2 ^ i = ((2 ^ i : Nat) : Int) := by simp
  have h : 2 ^ i < 9223372036854775808 := by omega
  rw [e2, wraps_i64 _ (Int.natCast_nonneg _) (Int.ofNat_lt.2 h)]
theorem bit_test (x i : Nat) (hx : x < 16777216) (hi : i ≤ 24) : Go.bits .and .i64 (shr .i64 (x : Int) (i : Int)) 1 = 1 ↔ x.testBit i = true := by
  rw [shr_i64 x i hi]
  have hq : x / 2 ^ i ≤ x := Nat.div_le_self _ _
  have e := and_i64 (x / 2 ^ i) 1 (by omega) (by omega)
  rw [Nat.and_one_is_mod] at e
  rw [show (1 : Int) = ((1 : Nat) : Int) from rfl, e, Nat.testBit_eq_decide_div_mod_eq, decide_eq_true_iff]
  exact Int.ofNat_inj
/-- The numbers from i on, below i + d, whose bits stand in x. -/
def bitsFrom (x : Nat) : Nat → Nat → List Int
  | 0, _ => []
  | d + 1, i => if x.testBit i = true then (i : Int) :: bitsFrom x d (i + 1) else bitsFrom x d (i + 1)
def bitList (x : Nat) : List Int := bitsFrom x 24 0
theorem specFrom_l0 (x : Nat) (hx : x < 16777216) (d : Nat) : ∀ (i : Nat) (acc : List Int), i + d = 24 → acc.length ≤ i →
    Ev (fun k => spec_FromBits.l0 k (x : Int) acc (i : Int)) (acc ++ bitsFrom x d i) := by
  induction d with
  | zero => intro i acc h hl; exact Ev.step (fun k => by rw [spec_FromBits.l0, if_neg (by omega)]) (by simpa [bitsFrom] using Ev.now _)
  | succ d ih =>
    intro i acc h hl
    refine Ev.step (fun k => by rw [spec_FromBits.l0, if_pos (by omega), if_pos (by omega), next64 (by omega)]) ?_
    rw [bitsFrom]
    by_cases hb : x.testBit i = true
    · simp only [if_pos ((bit_test x i hx (by omega)).2 hb), if_pos hb, if_pos (show acc.length < 17592186044416 by omega)]
      have := ih (i + 1) (acc ++ [(i : Int)]) (by omega) (by simp; omega)
      rw [← snoc_app] at this
      exact this
    · simp only [if_neg (fun h => hb ((bit_test x i hx (by omega)).1 h)), if_neg hb]
      exact ih (i + 1) acc (by omega) (by omega)
theorem implFrom_l0 (x : Nat) (hx : x < 16777216) (d : Nat) : ∀ (i : Nat) (acc : List Int), i + d = 24 → acc.length ≤ i →
    Ev (fun k => impl_fromBits.l0 k (x : Int) acc (i : Int)) (acc ++ bitsFrom x d i) := by
  induction d with
  | zero => intro i acc h hl; exact Ev.step (fun k => by rw [impl_fromBits.l0, if_neg (by omega)]) (by simpa [bitsFrom] using Ev.now _)
  | succ d ih =>
    intro i acc h hl
    refine Ev.step (fun k => by rw [impl_fromBits.l0, if_pos (by omega), if_pos (by omega), next64 (by omega)]) ?_
    rw [bitsFrom]
    by_cases hb : x.testBit i = true
    · simp only [if_pos ((bit_test x i hx (by omega)).2 hb), if_pos hb, if_pos (show acc.length < 17592186044416 by omega)]
      have := ih (i + 1) (acc ++ [(i : Int)]) (by omega) (by simp; omega)
      rw [← snoc_app] at this
      exact this
    · simp only [if_neg (fun h => hb ((bit_test x i hx (by omega)).1 h)), if_neg hb]
      exact ih (i + 1) acc (by omega) (by omega)
theorem implFrom (x : Int) (h0 : 0 ≤ x) (hx : x < 16777216) : Ev (fun k => impl_fromBits.f k x) (bitList x.toNat) := by
  unfold impl_fromBits.f
  have := implFrom_l0 x.toNat (by omega) 24 0 [] rfl (by simp)
  rw [Int.toNat_of_nonneg h0] at this
  exact this
theorem specFrom (x : Int) : Ev (fun k => spec_FromBits.f k x) (if x < 0 ∨ x ≥ 16777216 then [] else bitList x.toNat) := by
  unfold spec_FromBits.f
  simp only [Option.bind_some]
  have key : Ev (fun k => spec_FromBits.j0 k x [] (decide (x < 0 ∨ x ≥ 16777216))) (if x < 0 ∨ x ≥ 16777216 then [] else bitList x.toNat) := by
    by_cases h : x < 0 ∨ x ≥ 16777216
    · rw [if_pos h, decide_eq_true h]
      exact Ev.step (fun k => by rw [spec_FromBits.j0, if_pos rfl]) (Ev.now _)
    · rw [if_neg h, decide_eq_false h]
      refine Ev.step (fun k => by rw [spec_FromBits.j0, if_neg (by decide)]) ?_
      have := specFrom_l0 x.toNat (by omega) 24 0 [] rfl (by simp)
      rw [Int.toNat_of_nonneg (by omega)] at this
      exact this
  by_cases h : x < 0
  · simp only [if_pos h]
    rw [show decide (x < 0 ∨ x ≥ 16777216) = true by simp [h]] at key
    simpa [h] using key
  · simp only [if_neg h]
    rw [show decide (x < 0 ∨ x ≥ 16777216) = decide (x ≥ 16777216) by rw [Bool.eq_iff_iff]; simp [h]] at key
    exact key
theorem bitList_length (x : Nat) : (bitList x).length ≤ 24 := by
  have : ∀ d i, (bitsFrom x d i).length ≤ d := by
    intro d
    induction d with
    | zero => intro i; simp [bitsFrom]
    | succ d ih =>
      intro i
      rw [bitsFrom]
      have := ih (i + 1)
      split
      · simp only [List.length_cons]; omega
      · omega
  exact this 24 0
/-- The mask of a rising list. -/
def maskFrom (v : Nat) (l : List Int) : Nat := l.foldl (fun v a => v + 2 ^ a.toNat) v
def mask (l : List Int) : Nat := maskFrom 0 l
theorem pow24 {a : Nat} (h : a ≤ 23) : 2 ^ a ≤ 8388608 := by
  have : 2 ^ a ≤ 2 ^ 23 := Nat.pow_le_pow_right (by omega) h
  have e : (2 : Nat) ^ 23 = 8388608 := by decide
  omega
theorem specBits_l0 (N : Nat) (hN : N < 9223372036854775807) (r : List Int) : ∀ (q : List Int) (p : Int) (v : Nat), q.length + r.length = N → -1 ≤ p → p ≤ 23 → v < 2 ^ (p + 1).toNat → risesFrom p r = true →
    Ev (fun k => spec_BitsOf.l0 k (q ++ r) (v : Int) (q.length : Int)) (maskFrom v r : Int) := by
  induction r with
  | nil => intro q p v h _ _ hv hr; exact Ev.step (fun k => by rw [spec_BitsOf.l0, if_neg (not_lt_end q)]; rfl) (Ev.now _)
  | cons a r ih =>
    intro q p v h hp hp2 hv hr
    simp only [List.length_cons] at h
    simp only [risesFrom, Bool.and_eq_true, decide_eq_true_eq] at hr
    obtain ⟨⟨h1, h2⟩, h3⟩ := hr
    obtain ⟨b, rfl⟩ := Int.eq_ofNat_of_zero_le (show 0 ≤ a by omega)
    have hb := pow24 (a := b) (by omega)
    have hle : 2 ^ (p + 1).toNat ≤ 2 ^ b := Nat.pow_le_pow_right (by omega) (by omega)
    have hs : 2 ^ ((b : Int) + 1).toNat = 2 ^ b + 2 ^ b := by rw [show ((b : Int) + 1).toNat = b + 1 by omega, Nat.pow_succ]; omega
    have nxt := ih (q ++ [(b : Int)]) b (v + 2 ^ b) (by simp; omega) (by omega) (by omega) (by omega) h3
    simp only [← snoc_app, List.length_append, List.length_singleton] at nxt
    have em : maskFrom v ((b : Int) :: r) = maskFrom (v + 2 ^ b) r := rfl
    rw [em]
    refine Ev.step (fun k => ?_) nxt
    rw [spec_BitsOf.l0, if_pos (lt_mid q _ r), if_pos (by omega), rd_mid, if_pos (by omega), shl_one b (by omega), next64 (by omega), ← Int.natCast_add, wrap64_id (by omega) (by omega)]
theorem implBits_l0 (N : Nat) (hN : N < 9223372036854775807) (r : List Int) : ∀ (q : List Int) (p : Int) (v : Nat), q.length + r.length = N → -1 ≤ p → p ≤ 23 → v < 2 ^ (p + 1).toNat → risesFrom p r = true →
    Ev (fun k => impl_bitsOf.l0 k (v : Int) (q ++ r) ((q ++ r).length : Int) (q.length : Int)) (maskFrom v r : Int) := by
  induction r with
  | nil => intro q p v h _ _ hv hr; exact Ev.step (fun k => by rw [impl_bitsOf.l0, if_neg (not_lt_end q)]; rfl) (Ev.now _)
  | cons a r ih =>
    intro q p v h hp hp2 hv hr
    simp only [List.length_cons] at h
    simp only [risesFrom, Bool.and_eq_true, decide_eq_true_eq] at hr
    obtain ⟨⟨h1, h2⟩, h3⟩ := hr
    obtain ⟨b, rfl⟩ := Int.eq_ofNat_of_zero_le (show 0 ≤ a by omega)
    have hb := pow24 (a := b) (by omega)
    have hle : 2 ^ (p + 1).toNat ≤ 2 ^ b := Nat.pow_le_pow_right (by omega) (by omega)
    have hs : 2 ^ ((b : Int) + 1).toNat = 2 ^ b + 2 ^ b := by rw [show ((b : Int) + 1).toNat = b + 1 by omega, Nat.pow_succ]; omega
    have nxt := ih (q ++ [(b : Int)]) b (v + 2 ^ b) (by simp; omega) (by omega) (by omega) (by omega) h3
    simp only [← snoc_app, List.length_append, List.length_singleton] at nxt
    simp only [List.length_append, List.length_cons] at nxt ⊢
    have em : maskFrom v ((b : Int) :: r) = maskFrom (v + 2 ^ b) r := rfl
    rw [em]
    have eo : v ||| 2 ^ b = v + 2 ^ b := by rw [Nat.or_comm, nat_join b (2 ^ b) v (Nat.mod_self _) (by omega), Nat.add_comm]
    refine Ev.step (fun k => ?_) nxt
    rw [impl_bitsOf.l0, if_pos (by omega), if_pos (by omega), if_pos (lt_mid q _ r), rd_mid, if_pos (by omega), shl_one b (by omega), next64 (by omega), or_i64 v (2 ^ b) (by omega) (by omega), eo]
theorem mask_lt (l : List Int) (h : rises l = true) : mask l < 16777216 := by
  have key : ∀ (r : List Int) (p : Int) (v : Nat), -1 ≤ p → p ≤ 23 → v < 2 ^ (p + 1).toNat → risesFrom p r = true → maskFrom v r < 16777216 := by
    intro r
    induction r with
    | nil =>
      intro p v hp hp2 hv _
      have : 2 ^ (p + 1).toNat ≤ 2 ^ 24 := Nat.pow_le_pow_right (by omega) (by omega)
      have e : (2 : Nat) ^ 24 = 16777216 := by decide
      show v < 16777216
      omega
    | cons a r ih =>
      intro p v hp hp2 hv hr
      simp only [risesFrom, Bool.and_eq_true, decide_eq_true_eq] at hr
      obtain ⟨⟨h1, h2⟩, h3⟩ := hr
      obtain ⟨b, rfl⟩ := Int.eq_ofNat_of_zero_le (show 0 ≤ a by omega)
      have hle : 2 ^ (p + 1).toNat ≤ 2 ^ b := Nat.pow_le_pow_right (by omega) (by omega)
      have hs : 2 ^ ((b : Int) + 1).toNat = 2 ^ b + 2 ^ b := by rw [show ((b : Int) + 1).toNat = b + 1 by omega, Nat.pow_succ]; omega
      exact ih b (v + 2 ^ b) (by omega) (by omega) (by omega) h3
  exact key l (-1) 0 (by omega) (by omega) (by simp) h
theorem specBits (l : List Int) (hl : l.length < 9223372036854775807) : Ev (fun k => spec_BitsOf.f k l) (if rises l = true then (mask l : Int) else -1) := by
  unfold spec_BitsOf.f
  refine Ev.bind (specRight l hl) ?_
  by_cases h : rises l = true
  · simp only [if_pos h]
    exact specBits_l0 l.length hl l [] (-1) 0 (by simp) (by omega) (by omega) (by simp) h
  · simp only [if_neg h]; exact Ev.now _
theorem implBits (l : List Int) (hl : l.length < 9223372036854775807) (h : rises l = true) : Ev (fun k => impl_bitsOf.f k l) (mask l : Int) := by
  unfold impl_bitsOf.f
  exact implBits_l0 l.length hl l [] (-1) 0 (by simp) (by omega) (by omega) (by simp) h
end Go.Proofs.Ythlcpdmbeiaidaa.Pure
