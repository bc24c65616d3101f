/- Free numbers of the area: what freeOf and the reference's l05Free compute: the numbers of 0 to 23 that are in neither list. Conditions: rising lists. -/
import Derived.Test.YthlcpdmbeiaidaaBits
import Derived.Test.YthlcpdmbeiaidaaQx7
import Derived.Test.YthlcpdmbeiaidaaQx6
namespace Go.Proofs.Ythlcpdmbeiaidaa.Pure
set_option linter.unusedVariables false
set_option linter.unusedSimpArgs false
open Go Go.RowKit Go.Proofs.Ythlcpdmbeiaidaa.Q Go.Proofs.YthlcpdmbeiaidaaW.PrintWords Go.Proofs.YthlcpdmbeiaidaaW.PrintLast Go.Proofs.YthlcpdmbeiaidaaW.PrintMore
theorem add_pow_testBit {v b : Nat} (h : v < 2 ^ b) (k : Nat) : (v + 2 ^ b).testBit k = (v.testBit k || decide (b = k)) := by
  have e : v + 2 ^ b = 2 ^ b ||| v := by rw [nat_join b (2 ^ b) v (Nat.mod_self _) h, Nat.add_comm]
  rw [e, Nat.testBit_or, Nat.testBit_two_pow, Bool.or_comm]
theorem mask_testBit (l : List Int) (h : rises l = true) (k : Nat) : (mask l).testBit k = decide ((k : Int) ∈ l) := by
  have key : ∀ (r : List Int) (p : Int) (v : Nat), -1 ≤ p → p ≤ 23 → v < 2 ^ (p + 1).toNat → risesFrom p r = true → (maskFrom v r).testBit k = (v.testBit k || decide ((k : Int) ∈ r)) := by
    intro r
    induction r with
    | nil => intro p v _ _ _ _; simp [maskFrom]
    | cons a r ih =>
      intro p v hp hp2 hv hr
      simp only [risesFrom, Bool.and_eq_true, decide_eq_true_eq] at hr
      obtain ⟨⟨h1, h2⟩, h3⟩ := hr
      obtain ⟨b, rfl⟩ := Int.eq_ofNat_of_zero_le (show 0 ≤ a by omega)
      have hle : 2 ^ (p + 1).toNat ≤ 2 ^ b := Nat.pow_le_pow_right (by omega) (by omega)
      have hs : 2 ^ ((b : Int) + 1).toNat = 2 ^ b + 2 ^ b := by rw [show ((b : Int) + 1).toNat = b + 1 by omega, Nat.pow_succ]; omega
      have := ih b (v + 2 ^ b) (by omega) (by omega) (by omega) h3
      have em : maskFrom v ((b : Int) :: r) = maskFrom (v + 2 ^ b) r := rfl
      rw [em, this, add_pow_testBit (by omega)]
      rw [Bool.eq_iff_iff]
      simp only [Bool.or_eq_true, decide_eq_true_eq, List.mem_cons]
      constructor
      · rintro ((h | h) | h)
        · exact .inl h
        · exact .inr (.inl (by omega))
        · exact .inr (.inr h)
      · rintro (h | h | h)
        · exact .inl (.inl h)
        · exact .inl (.inr (by omega))
        · exact .inr h
  have := key l (-1) 0 (by omega) (by omega) (by simp) h
  simpa [mask] using this
def freeFrom (a b : List Int) : Nat → Nat → List Int
  | 0, _ => []
  | d + 1, i => if (i : Int) ∈ a ∨ (i : Int) ∈ b then freeFrom a b d (i + 1) else (i : Int) :: freeFrom a b d (i + 1)
/-- The numbers of the area that are in neither list. -/
def freeM (a b : List Int) : List Int := freeFrom a b 24 0
theorem freeFrom_bits (a b : List Int) (x : Nat) (hx : ∀ k, k < 24 → x.testBit k = !(decide ((k : Int) ∈ a) || decide ((k : Int) ∈ b))) (d : Nat) : ∀ i, i + d = 24 → bitsFrom x d i = freeFrom a b d i := by
  induction d with
  | zero => intro i _; rfl
  | succ d ih =>
    intro i hi
    rw [bitsFrom, freeFrom, ih (i + 1) (by omega), hx i (by omega)]
    by_cases h : (i : Int) ∈ a ∨ (i : Int) ∈ b
    · rw [if_pos h, if_neg]
      simp only [Bool.not_eq_true', Bool.or_eq_false_iff, decide_eq_false_iff_not]
      exact fun hh => h.elim hh.1 hh.2
    · rw [if_neg h, if_pos]
      simp only [Bool.not_eq_true', Bool.or_eq_false_iff, decide_eq_false_iff_not]
      exact not_or.1 h
theorem andNot_i64 (y : Nat) (hy : y < 16777216) : Go.bits .andNot .i64 16777215 (y : Int) = ((16777215 &&& (18446744073709551615 - y) : Nat) : Int) := by
  have hx : 16777215 &&& (18446744073709551615 - y) ≤ 16777215 := Nat.and_le_left
  have ha : (BitVec.ofInt 64 (16777215 : Int)).toNat = 16777215 := ofInt_u64 16777215 (by omega)
  show IntKind.i64.wrap ((BitVec.ofInt 64 (16777215 : Int) &&& ~~~BitVec.ofInt 64 (y : Int)).toNat : Int) = _
  rw [BitVec.toNat_and, BitVec.toNat_not, ha, ofInt_u64 y (by omega)]
  exact wraps_i64 _ (Int.natCast_nonneg _) (Int.ofNat_lt.2 (show (16777215 &&& (18446744073709551615 - y)) < 9223372036854775808 by omega))
theorem free_testBit (a b : List Int) (ha : rises a = true) (hb : rises b = true) (k : Nat) (hk : k < 24) :
    (16777215 &&& (18446744073709551615 - (mask a ||| mask b))).testBit k = !(decide ((k : Int) ∈ a) || decide ((k : Int) ∈ b)) := by
  have hm : mask a ||| mask b < 2 ^ 64 := Nat.or_lt_two_pow (Nat.lt_trans (mask_lt a ha) (by decide)) (Nat.lt_trans (mask_lt b hb) (by decide))
  rw [Nat.testBit_and]
  have e1 : (16777215 : Nat).testBit k = true := by
    have := Nat.testBit_two_pow_sub_one 24 k
    rw [show (2 : Nat) ^ 24 - 1 = 16777215 by decide] at this
    rw [this]; simpa using hk
  have e2 : (18446744073709551615 - (mask a ||| mask b)).testBit k = !(mask a ||| mask b).testBit k := by
    have := Nat.testBit_two_pow_sub_succ hm k
    rw [show (2 : Nat) ^ 64 - ((mask a ||| mask b) + 1) = 18446744073709551615 - (mask a ||| mask b) by omega] at this
    rw [this, decide_eq_true (show k < 64 by omega)]; simp
  rw [e1, e2, Nat.testBit_or, mask_testBit a ha, mask_testBit b hb]; simp
theorem implFree (a b : List Int) (hla : a.length < 9223372036854775807) (hlb : b.length < 9223372036854775807) (ha : rises a = true) (hb : rises b = true) :
    Ev (fun k => impl_freeOf.f k a b) (freeM a b) := by
  unfold impl_freeOf.f
  have ma := mask_lt a ha
  have mb := mask_lt b hb
  have hm : mask a ||| mask b < 2 ^ 24 := Nat.or_lt_two_pow (by omega) (by omega)
  have hle : 16777215 &&& (18446744073709551615 - (mask a ||| mask b)) ≤ 16777215 := Nat.and_le_left
  refine Ev.bind (implBits a hla ha) (Ev.bind (implBits b hlb hb) (Ev.bind (a := freeM a b) ?_ (Ev.now _)))
  rw [or_i64 _ _ (by omega) (by omega), andNot_i64 _ (by omega)]
  have := implFrom ((16777215 &&& (18446744073709551615 - (mask a ||| mask b)) : Nat) : Int) (by omega) (by omega)
  rw [Int.toNat_natCast] at this
  have e : bitList (16777215 &&& (18446744073709551615 - (mask a ||| mask b))) = freeM a b := freeFrom_bits a b _ (fun k hk => free_testBit a b ha hb k hk) 24 0 rfl
  rw [e] at this
  exact this
theorem specHas_l0 (N : Nat) (hN : N < 9223372036854775807) (n : Int) (r : List Int) : ∀ q : List Int, q.length + r.length = N → Ev (fun k => spec_l05Has.l0 k (q ++ r) n (q.length : Int)) (decide (n ∈ r)) := by
  induction r with
  | nil => intro q h; exact Ev.step (fun k => by rw [spec_l05Has.l0, if_neg (not_lt_end q)]) (by simpa using Ev.now _)
  | cons a r ih =>
    intro q h
    simp only [List.length_cons] at h
    have := ih (q ++ [a]) (by simp; omega)
    simp only [← snoc_app, List.length_append, List.length_singleton] at this
    refine Ev.step (fun k => by rw [spec_l05Has.l0, if_pos (lt_mid q a r), if_pos (by omega), rd_mid, next64 (by omega)]) ?_
    by_cases hq : a = n
    · simp only [if_pos hq]
      rw [decide_eq_true (show n ∈ a :: r by simp [hq])]; exact Ev.now _
    · simp only [if_neg hq]
      rw [show decide (n ∈ a :: r) = decide (n ∈ r) by rw [Bool.eq_iff_iff]; simp; intro h; exact absurd h.symm hq]
      exact this
theorem specHas (l : List Int) (n : Int) (h : l.length < 9223372036854775807) : Ev (fun k => spec_l05Has.f k l n) (decide (n ∈ l)) := by
  unfold spec_l05Has.f
  exact specHas_l0 l.length h n l [] (by simp)
theorem specFree_l0 (a b : List Int) (ha : a.length < 9223372036854775807) (hb : b.length < 9223372036854775807) (d : Nat) : ∀ (i : Nat) (acc : List Int), i + d = 24 → acc.length ≤ i →
    Ev (fun k => spec_l05Free.l0 k a b acc (i : Int)) (acc ++ freeFrom a b d i) := by
  induction d with
  | zero => intro i acc h hl; exact Ev.step (fun k => by rw [spec_l05Free.l0, if_neg (by omega)]) (by simpa [freeFrom] using Ev.now _)
  | succ d ih =>
    intro i acc h hl
    refine Ev.step (fun k => by rw [spec_l05Free.l0, if_pos (by omega), next64 (by omega)]) ?_
    refine Ev.bind (specHas a i ha) ?_
    rw [freeFrom]
    by_cases h1 : (i : Int) ∈ a
    · simp only [decide_eq_true h1, if_true, if_pos (show (i : Int) ∈ a ∨ (i : Int) ∈ b from .inl h1)]
      exact ih (i + 1) acc (by omega) (by omega)
    · simp only [decide_eq_false h1, Bool.false_eq_true, if_false]
      refine Ev.bind (specHas b i hb) ?_
      by_cases h2 : (i : Int) ∈ b
      · simp only [decide_eq_true h2, if_true, if_pos (show (i : Int) ∈ a ∨ (i : Int) ∈ b from .inr h2)]
        exact ih (i + 1) acc (by omega) (by omega)
      · simp only [decide_eq_false h2, Bool.false_eq_true, if_false, if_neg (show ¬ ((i : Int) ∈ a ∨ (i : Int) ∈ b) from not_or.2 ⟨h1, h2⟩), if_pos (show acc.length < 17592186044416 by omega)]
        have := ih (i + 1) (acc ++ [(i : Int)]) (by omega) (by simp; omega)
        rw [← snoc_app] at this
        exact this
theorem specFree (a b : List Int) (ha : a.length < 9223372036854775807) (hb : b.length < 9223372036854775807) : Ev (fun k => spec_l05Free.f k a b) (freeM a b) := by
  unfold spec_l05Free.f
  exact specFree_l0 a b ha hb 24 0 [] rfl (by simp)
theorem freeM_length (a b : List Int) : (freeM a b).length ≤ 24 := by
  have : ∀ d i, (freeFrom a b d i).length ≤ d := by
    intro d
    induction d with
    | zero => intro i; simp [freeFrom]
    | succ d ih =>
      intro i
      rw [freeFrom]
      have := ih (i + 1)
      split
      · omega
      · simp only [List.length_cons]; omega
  exact this 24 0
end Go.Proofs.Ythlcpdmbeiaidaa.Pure
