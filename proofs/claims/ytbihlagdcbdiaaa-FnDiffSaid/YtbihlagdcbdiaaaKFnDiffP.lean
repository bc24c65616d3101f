/- Pure texts in one: The difference of two images makes of the old one the new one; equal images need no steps; for every draw. -/
import Derived.Test.YtbihlagdcbdiaaaKFnDiff0
import Derived.Test.YtbihlagdcbdiaaaKFnDiff1
import Derived.Test.YtbihlagdcbdiaaaKFnDiff2
import Derived.Test.YtbihlagdcbdiaaaKFnDiff3
import Derived.Test.YtbihlagdcbdiaaaKFnDiff4
import Derived.Test.YtbihlagdcbdiaaaWMore
import Derived.Laws.BitsAllLaws
import Derived.Laws.Strings
import Derived.Lib.Bytealg
namespace Go.Proofs.Ytbihlagdcbdiaaa.Pure
set_option linter.unusedVariables false
set_option linter.unusedSimpArgs false
open Go Go.RowKit Go.Proofs.YtbihlagdcbdiaaaW.PrintWords Go.Proofs.YtbihlagdcbdiaaaW.PrintLast Go.Proofs.YtbihlagdcbdiaaaW.PrintMore
theorem wrap64_id {n : Int} (h0 : -9223372036854775808 ≤ n) (h1 : n ≤ 9223372036854775807) : wrap64 n = n := by
  unfold wrap64; omega
theorem wrap_u64 (n : Int) : IntKind.u64.wrap n = n % 18446744073709551616 := by simp [IntKind.wrap, IntKind.bits, IntKind.signed]
theorem wrap_u64_id {n : Int} (h0 : 0 ≤ n) (h1 : n < 18446744073709551616) : IntKind.u64.wrap n = n := by rw [wrap_u64]; omega
theorem bt_nonneg (s : ByteArray) (i : Int) : 0 ≤ bt s i := (bt_range s i).1
theorem bt_le (s : ByteArray) (i : Int) : bt s i ≤ 255 := (bt_range s i).2
theorem toList_data (s : ByteArray) : s.toList = s.data.toList := ByteArray.toList_eq s
theorem toList_inj {a b : ByteArray} (h : a.toList = b.toList) : a = b := by
  rw [toList_data, toList_data] at h
  cases a; cases b
  simpa using h
theorem Ev.ok {α : Type} {g : Nat → Option α} {r : α} {K : Nat} (h : ∀ k, K ≤ k → g k = some r) : Ev g r := ⟨K, h⟩
/-- One is known without rounds. -/
theorem Ev.bind1 {α β : Type} {g : Option α} {f : Nat → α → Option β} {a : α} {r : β} (h : g = some a) (k : Ev (fun n => f n a) r) : Ev (fun n => g.bind (f n)) r := by
  subst h
  exact k
end Go.Proofs.Ytbihlagdcbdiaaa.Pure
namespace Go.Proofs.Ytbihlagdcbdiaaa.Pure
set_option linter.unusedVariables false
set_option linter.unusedSimpArgs false
open Go Go.RowKit Go.Proofs.YtbihlagdcbdiaaaW.PrintWords Go.Proofs.YtbihlagdcbdiaaaW.PrintLast Go.Proofs.YtbihlagdcbdiaaaW.PrintMore
theorem snoc_app {α : Type} (p : List α) (a : α) (r : List α) : p ++ a :: r = (p ++ [a]) ++ r := by simp
theorem lt_mid {α : Type} (p : List α) (a : α) (r : List α) : (p.length : Int) < ((p ++ a :: r).length : Int) := by rw [List.length_append, List.length_cons]; omega
theorem not_lt_end {α : Type} (p : List α) : ¬ (p.length : Int) < ((p ++ []).length : Int) := by rw [List.append_nil]; omega
theorem next64 {i : Nat} (h : i < 9223372036854775807) : wrap64 ((i : Int) + 1) = ((i + 1 : Nat) : Int) := by rw [wrap64_id (by omega) (by omega)]; omega
end Go.Proofs.Ytbihlagdcbdiaaa.Pure
namespace Go.Proofs.Ytbihlagdcbdiaaa.Pure
set_option linter.unusedVariables false
set_option linter.unusedSimpArgs false
open Go Go.RowKit Go.Proofs.Ytbihlagdcbdiaaa.Q Go.Proofs.YtbihlagdcbdiaaaW.PrintWords Go.Proofs.YtbihlagdcbdiaaaW.PrintLast Go.Proofs.YtbihlagdcbdiaaaW.PrintMore
theorem rdS_mid (p : List ByteArray) (a : ByteArray) (r : List ByteArray) : rdOf ByteArray.empty (p ++ a :: r) (p.length : Int) = a := by simp [rdOf]
theorem lenS_snoc {α : Type} (q : List α) (e : α) : (q ++ [e]).length = q.length + 1 := by simp
end Go.Proofs.Ytbihlagdcbdiaaa.Pure
namespace Go.Proofs.Ytbihlagdcbdiaaa.Pure
set_option linter.unusedVariables false
set_option linter.unusedSimpArgs false
open Go Go.RowKit Go.Proofs.Ytbihlagdcbdiaaa.Q Go.Proofs.YtbihlagdcbdiaaaW.PrintWords Go.Proofs.YtbihlagdcbdiaaaW.PrintLast Go.Proofs.YtbihlagdcbdiaaaW.PrintMore
def imageM (l : List ByteArray) : Bool := decide (1 ≤ (l.length : Int) ∧ (l.length : Int) ≤ 8) && !(l.any (fun s => (s.size : Int) != 8))
theorem implImage (l : List ByteArray) (h : l.length ≤ 9223372036854775807) : impl_isImage.f l = some (imageM l) := by
  unfold impl_isImage.f imageM
  rw [if_pos h]
theorem specImage_l0 (N : Nat) (hN : N ≤ 1000) (r : List ByteArray) : ∀ p : List ByteArray, p.length + r.length = N → Ev (fun k => spec_ImageRight.l0 k (p ++ r) (p.length : Int)) (!(r.any (fun s => (s.size : Int) != 8))) := by
  induction r with
  | nil => intro p h; exact Ev.step (f := fun _ => some true) (fun k => by rw [spec_ImageRight.l0, if_neg (not_lt_end p)]) (Ev.now _)
  | cons a r ih =>
    intro p h
    simp only [List.length_cons] at h
    refine Ev.step (fun k => by rw [spec_ImageRight.l0, if_pos (lt_mid p a r), if_pos (by omega), rdS_mid, next64 (by omega)]) ?_
    rw [List.any_cons]
    by_cases g : (a.size : Int) = 8
    · simp only [if_pos g, show ((a.size : Int) != 8) = false from bne_eq_false_iff_eq.2 g, Bool.false_or]
      have := ih (p ++ [a]) (by simp; omega)
      rw [← snoc_app, lenS_snoc] at this
      exact this
    · simp only [if_neg g, show ((a.size : Int) != 8) = true from bne_iff_ne.2 g, Bool.true_or, Bool.not_true]
      exact Ev.now _
theorem specImage (l : List ByteArray) : Ev (fun k => spec_ImageRight.f k l) (imageM l) := by
  unfold spec_ImageRight.f imageM
  by_cases h1 : (l.length : Int) < 1
  · simp only [if_pos h1, decide_eq_false (show ¬ (1 ≤ (l.length : Int) ∧ (l.length : Int) ≤ 8) by omega), Bool.false_and]
    exact Ev.step (fun k => by rw [spec_ImageRight.j0, if_pos rfl]) (Ev.now _)
  · simp only [if_neg h1]
    by_cases h2 : (l.length : Int) > 8
    · rw [decide_eq_true h2, decide_eq_false (show ¬ (1 ≤ (l.length : Int) ∧ (l.length : Int) ≤ 8) by omega), Bool.false_and]
      exact Ev.step (fun k => by rw [spec_ImageRight.j0, if_pos rfl]) (Ev.now _)
    · rw [decide_eq_false h2, decide_eq_true (show 1 ≤ (l.length : Int) ∧ (l.length : Int) ≤ 8 by omega), Bool.true_and]
      have := specImage_l0 l.length (by omega) l [] (by simp)
      exact Ev.step (f := fun k => spec_ImageRight.l0 k l 0) (fun k => by rw [spec_ImageRight.j0, if_neg (by decide)]) this
end Go.Proofs.Ytbihlagdcbdiaaa.Pure
namespace Go.Proofs.Ytbihlagdcbdiaaa.Pure
set_option linter.unusedVariables false
set_option linter.unusedSimpArgs false
open Go Go.RowKit Go.Proofs.Ytbihlagdcbdiaaa.Q Go.Proofs.YtbihlagdcbdiaaaW.PrintWords Go.Proofs.YtbihlagdcbdiaaaW.PrintLast Go.Proofs.YtbihlagdcbdiaaaW.PrintMore
theorem xs_length (a b : ByteArray) : ∀ k, (impl_xored.xs a b k).length = k := by
  intro k
  induction k with
  | zero => rfl
  | succ k ih => simp [impl_xored.xs, ih]
def xorM (a b : ByteArray) : ByteArray := strOfNums (impl_xored.xs a b 8)
theorem implXored (a b : ByteArray) (ha : a.size = 8) (hb : b.size = 8) : impl_xored.f a b = some (xorM a b) := by
  unfold impl_xored.f xorM
  rw [ha, if_pos ⟨by omega, by omega⟩]
theorem specXored_l0 (a b : ByteArray) (ha : a.size = 8) (hb : b.size = 8) (d : Nat) : ∀ i : Nat, i + d = 8 →
    Ev (fun k => spec_Xored.l0 k a b (impl_xored.xs a b i ++ List.replicate d 0) (i : Int)) (xorM a b) := by
  induction d with
  | zero =>
    intro i h
    obtain rfl : i = 8 := by omega
    exact Ev.step (fun k => by rw [spec_Xored.l0, if_neg (by omega), List.replicate_zero, List.append_nil]; rfl) (Ev.now _)
  | succ d ih =>
    intro i h
    have := ih (i + 1) (by omega)
    refine Ev.step (fun k => ?_) this
    have e1 : wrap64 ((i : Int) + 1) = ((i + 1 : Nat) : Int) := by rw [wrap64_id (by omega) (by omega)]; omega
    have e2 : (impl_xored.xs a b i ++ (0 : Int) :: List.replicate d 0).set (i : Int).toNat (Go.bits .xor .u8 (bt a i) (bt b i)) = impl_xored.xs a b (i + 1) ++ List.replicate d 0 := by
      have hl := xs_length a b i
      rw [impl_xored.xs, List.append_assoc, Int.toNat_natCast]
      conv => lhs; rw [show i = (impl_xored.xs a b i).length from hl.symm]
      simp [hl]
    have hlen : ((impl_xored.xs a b i ++ List.replicate (d + 1) (0 : Int)).length : Int) = 8 := by
      rw [List.length_append, xs_length, List.length_replicate]; omega
    rw [spec_Xored.l0, if_pos (by omega), if_pos (by omega), if_pos (by omega), if_pos (by omega), hlen, if_pos (by omega), List.replicate_succ, e2, e1]
theorem specXored (a b : ByteArray) : Ev (fun k => spec_Xored.f k a b) (if a.size = 8 ∧ b.size = 8 then xorM a b else ⟨#[]⟩) := by
  unfold spec_Xored.f
  by_cases ha : a.size = 8
  · simp only [if_pos (show (a.size : Int) = 8 by omega)]
    by_cases hb : b.size = 8
    · rw [if_pos ⟨ha, hb⟩, show ((b.size : Int) != 8) = false by simp [hb]]
      have := specXored_l0 a b ha hb 8 0 rfl
      exact Ev.step (fun k => by rw [spec_Xored.j0, if_neg (by decide), if_pos (by decide)]; rfl) this
    · rw [if_neg (fun h => hb h.2), show ((b.size : Int) != 8) = true by simp; omega]
      exact Ev.step (fun k => by rw [spec_Xored.j0, if_pos rfl]) (Ev.now _)
  · simp only [if_neg (show ¬ (a.size : Int) = 8 by omega)]
    rw [if_neg (fun h => ha h.1)]
    exact Ev.step (fun k => by rw [spec_Xored.j0, if_pos rfl]) (Ev.now _)
end Go.Proofs.Ytbihlagdcbdiaaa.Pure
namespace Go.Proofs.Ytbihlagdcbdiaaa.Pure
set_option linter.unusedVariables false
set_option linter.unusedSimpArgs false
open Go Go.RowKit Go.Proofs.Ytbihlagdcbdiaaa.Q Go.Proofs.YtbihlagdcbdiaaaW.PrintWords Go.Proofs.YtbihlagdcbdiaaaW.PrintLast Go.Proofs.YtbihlagdcbdiaaaW.PrintMore
theorem xor8 {a b : Nat} (ha : a < 256) (hb : b < 256) : Go.bits .xor .u8 (a : Int) (b : Int) = ((a ^^^ b : Nat) : Int) := by
  have hx := Nat.xor_lt_two_pow (n := 8) ha hb
  simp [Go.bits]
  rw [show IntKind.u8.bits = 8 from rfl, Nat.mod_eq_of_lt (show a < 2 ^ 8 by omega), Nat.mod_eq_of_lt (show b < 2 ^ 8 by omega)]
  generalize a ^^^ b = c at hx ⊢
  simp [IntKind.wrap, IntKind.signed, IntKind.bits]; omega
theorem xor_zero (x y : Int) (hx : 0 ≤ x ∧ x ≤ 255) (hy : 0 ≤ y ∧ y ≤ 255) : UInt8.ofNat (Go.bits .xor .u8 x y).toNat = 0 ↔ x = y := by
  obtain ⟨a, rfl⟩ := Int.eq_ofNat_of_zero_le hx.1
  obtain ⟨b, rfl⟩ := Int.eq_ofNat_of_zero_le hy.1
  have ha : a < 256 := by omega
  have hb : b < 256 := by omega
  have hl : a ^^^ b < 256 := Nat.xor_lt_two_pow (n := 8) ha hb
  rw [xor8 ha hb, Int.toNat_natCast]
  constructor
  · intro h
    have h2 : (UInt8.ofNat (a ^^^ b)).toNat = 0 := by rw [h]; rfl
    rw [UInt8.toNat_ofNat', Nat.mod_eq_of_lt (show a ^^^ b < 2 ^ 8 by omega)] at h2
    have : a = b := by
      apply Nat.eq_of_testBit_eq
      intro j
      have hj : (a ^^^ b).testBit j = false := by rw [h2]; exact Nat.zero_testBit j
      rw [Nat.testBit_xor] at hj
      cases h1 : a.testBit j <;> cases h2 : b.testBit j <;> simp_all
    omega
  · intro h
    have : a = b := by omega
    subst this
    rw [Nat.xor_self]; rfl
/-- In how many of the first k bytes two texts differ. -/
def otherN (x b : ByteArray) : Nat → Nat
  | 0 => 0
  | k + 1 => otherN x b k + (if bt x (k : Int) = bt b (k : Int) then 0 else 1)
theorem cnt_other (x b : ByteArray) : ∀ k : Nat, Lib.countByte (strOfNums (impl_xored.xs x b k)).data.toList 0 + otherN x b k = k := by
  intro k
  induction k with
  | zero => rfl
  | succ k ih =>
    rw [strOfNums_data] at ih ⊢
    rw [impl_xored.xs, List.map_append, otherN]
    unfold Lib.countByte at ih ⊢
    rw [List.count_append]
    have hz := xor_zero (bt x (k : Int)) (bt b (k : Int)) ⟨bt_nonneg _ _, bt_le _ _⟩ ⟨bt_nonneg _ _, bt_le _ _⟩
    by_cases h : bt x (k : Int) = bt b (k : Int)
    · rw [if_pos h]
      have e := hz.2 h
      simp only [List.map_cons, List.map_nil, e]
      simp only [List.count_singleton_self]
      omega
    · rw [if_neg h]
      have e : ¬ UInt8.ofNat (Go.bits .xor .u8 (bt x (k : Int)) (bt b (k : Int))).toNat = 0 := fun g => h (hz.1 g)
      simp only [List.map_cons, List.map_nil]
      rw [List.count_eq_zero.2 (show (0 : UInt8) ∉ [UInt8.ofNat (Go.bits .xor .u8 (bt x (k : Int)) (bt b (k : Int))).toNat] by rw [List.mem_singleton]; exact fun g => e g.symm)]
      omega
theorem otherN_le (x b : ByteArray) : ∀ k, otherN x b k ≤ k := by
  intro k
  have := cnt_other x b k
  omega
theorem near_eq (b x : ByteArray) (hx : x.size = 8) : impl_stepsFor.near b x = decide (otherN x b 8 ≤ 2) := by
  unfold impl_stepsFor.near impl_stepsFor.mix
  rw [hx]
  have := cnt_other x b 8
  rw [Bool.eq_iff_iff, decide_eq_true_iff, decide_eq_true_iff]
  omega
theorem specOther_l0 (x b : ByteArray) (hx : x.size = 8) (hb : b.size = 8) (d : Nat) : ∀ i : Nat, i + d = 8 → Ev (fun k => spec_l07Other.l0 k x b (otherN x b i : Int) (i : Int)) (otherN x b 8 : Int) := by
  induction d with
  | zero =>
    intro i h
    obtain rfl : i = 8 := by omega
    exact Ev.step (f := fun _ => some _) (fun k => by rw [spec_l07Other.l0, if_neg (by omega)]) (Ev.now _)
  | succ d ih =>
    intro i h
    have := ih (i + 1) (by omega)
    have hl := otherN_le x b i
    refine Ev.step (fun k => by rw [spec_l07Other.l0, if_pos (by omega), if_pos (by omega), if_pos (by omega), if_pos (by omega), next64 (by omega)]) ?_
    rw [otherN] at this
    by_cases g : bt x (i : Int) = bt b (i : Int)
    · simp only [if_pos g]
      rw [if_pos g, Nat.add_zero] at this
      exact this
    · simp only [if_neg g]
      rw [if_neg g] at this
      rw [wrap64_id (by omega) (by omega)]
      exact this
theorem specOther (x b : ByteArray) (hx : x.size = 8) (hb : b.size = 8) : Ev (fun k => spec_l07Other.f k x b) (otherN x b 8 : Int) := by
  unfold spec_l07Other.f
  exact specOther_l0 x b hx hb 8 0 rfl
def forT (old : List ByteArray) (i : Int) (b : ByteArray) (n : Int) : Int × Int × Int × ByteArray := if 0 ≤ n then (4, i, n, impl_stepsFor.mix b (rdOf ByteArray.empty old n)) else (2, i, 0, b)
theorem specFor_l1 (N : Nat) (hN : N ≤ 1000) (i : Int) (b : ByteArray) (hb : b.size = 8) (r : List ByteArray) : ∀ q : List ByteArray, q.length + r.length = N → (∀ x ∈ r, x.size = 8) →
    Ev (fun k => spec_l07For.l1 k (q ++ r) i b (q.length : Int)) (forT (q ++ r) i b (idxFrom (impl_stepsFor.near b) r (q.length : Int))) := by
  induction r with
  | nil => intro q h _; exact Ev.step (fun k => by rw [spec_l07For.l1, if_neg (not_lt_end q)]; rfl) (Ev.now _)
  | cons a r ih =>
    intro q h hs
    simp only [List.length_cons] at h
    have ha : a.size = 8 := hs a (by simp)
    refine Ev.step (fun k => by rw [spec_l07For.l1, if_pos (lt_mid q a r), if_pos (by omega), rdS_mid, next64 (by omega)]) ?_
    refine Ev.bind (specOther a b ha hb) ?_
    rw [idxFrom, near_eq b a ha]
    by_cases g : otherN a b 8 ≤ 2
    · simp only [if_pos (show (otherN a b 8 : Int) ≤ 2 by omega), decide_eq_true g, if_true]
      have hx := specXored a b
      rw [if_pos ⟨ha, hb⟩] at hx
      refine Ev.bind hx ?_
      unfold forT
      rw [if_pos (show (0 : Int) ≤ (q.length : Int) by omega), rdS_mid]
      unfold impl_stepsFor.mix
      rw [ha]
      exact Ev.now _
    · simp only [if_neg (show ¬ (otherN a b 8 : Int) ≤ 2 by omega), decide_eq_false g, Bool.false_eq_true, if_false]
      have := ih (q ++ [a]) (by simp; omega) (fun x hx => hs x (by simp [hx]))
      rw [← snoc_app, lenS_snoc] at this
      exact this
theorem specFor_l0 (N : Nat) (hN : N ≤ 1000) (i : Int) (b : ByteArray) (L : List ByteArray) (R : Int × Int × Int × ByteArray) (hR : Ev (fun k => spec_l07For.l1 k L i b 0) R) (r : List ByteArray) : ∀ q : List ByteArray, q ++ r = L → q.length + r.length = N →
    Ev (fun k => spec_l07For.l0 k L i b (q.length : Int)) (if 0 ≤ idxFrom (impl_stepsFor.same b) r (q.length : Int) then (3, i, idxFrom (impl_stepsFor.same b) r (q.length : Int), (⟨#[]⟩ : ByteArray)) else R) := by
  induction r with
  | nil =>
    intro q hq h
    rw [if_neg (by simp [idxFrom])]
    subst hq
    exact Ev.step (fun k => by rw [spec_l07For.l0, if_neg (not_lt_end q)]) hR
  | cons a r ih =>
    intro q hq h
    simp only [List.length_cons] at h
    have e1 : (q.length : Int) < (L.length : Int) := by rw [← hq]; exact lt_mid q a r
    have e2 : rdOf ByteArray.empty L (q.length : Int) = a := by rw [← hq]; exact rdS_mid q a r
    refine Ev.step (fun k => by rw [spec_l07For.l0, if_pos e1, if_pos (by omega), e2, next64 (by omega)]) ?_
    rw [idxFrom]
    unfold impl_stepsFor.same
    by_cases g : a.toList = b.toList
    · simp only [if_pos g, decide_eq_true g.symm, if_true, if_pos (show (0 : Int) ≤ (q.length : Int) by omega)]
      exact Ev.now _
    · simp only [if_neg g, decide_eq_false (fun h => g (Eq.symm h)), Bool.false_eq_true, if_false]
      have := ih (q ++ [a]) (by rw [← hq]; simp) (by simp; omega)
      rw [lenS_snoc] at this
      exact this
theorem zero_block : spec_l07Zero.f = some (⟨#[0, 0, 0, 0, 0, 0, 0, 0]⟩ : ByteArray) := by unfold spec_l07Zero.f; rw [if_pos (by decide)]; rfl
theorem specFor (old : List ByteArray) (i : Int) (b : ByteArray) (hl : old.length ≤ 1000) (ho : ∀ x ∈ old, x.size = 8) (hb : b.size = 8) :
    Ev (fun k => spec_l07For.f k old i b) ((impl_stepsFor.step old i b).f0, (impl_stepsFor.step old i b).f1, (impl_stepsFor.step old i b).f2, (impl_stepsFor.step old i b).f3) := by
  unfold spec_l07For.f impl_stepsFor.step
  refine Ev.bind1 zero_block ?_
  have ez : (⟨#[0, 0, 0, 0, 0, 0, 0, 0]⟩ : ByteArray).toList = ([0, 0, 0, 0, 0, 0, 0, 0] : List UInt8) := by rw [toList_data]
  simp only [ez]
  by_cases g : b.toList = ([0, 0, 0, 0, 0, 0, 0, 0] : List UInt8)
  · simp only [if_pos g]; exact Ev.now _
  · simp only [if_neg g]
    have h1 := specFor_l1 old.length hl i b hb old [] (Nat.zero_add _) ho
    have h0 := specFor_l0 old.length hl i b old _ h1 old [] rfl (Nat.zero_add _)
    refine Ev.congr (fun k => rfl) ?_
    have key : (if 0 ≤ idxFrom (impl_stepsFor.same b) old (([] : List ByteArray).length : Int) then ((3 : Int), i, idxFrom (impl_stepsFor.same b) old (([] : List ByteArray).length : Int), (⟨#[]⟩ : ByteArray)) else forT ([] ++ old) i b (idxFrom (impl_stepsFor.near b) old (([] : List ByteArray).length : Int))) = _ := rfl
    have h0' := h0
    clear key
    simp only [List.length_nil, Int.natCast_zero, List.nil_append, forT] at h0'
    by_cases g1 : 0 ≤ idxFrom (impl_stepsFor.same b) old 0
    · simp only [if_pos g1] at h0' ⊢; exact h0'
    · simp only [if_neg g1] at h0' ⊢
      by_cases g2 : 0 ≤ idxFrom (impl_stepsFor.near b) old 0
      · simp only [if_pos g2] at h0' ⊢; exact h0'
      · simp only [if_neg g2] at h0' ⊢; exact h0'
theorem specSteps_l0 (l0 l1 : List ByteArray) (hl : l0.length = l1.length) (h8 : l0.length ≤ 8) (h0 : ∀ x ∈ l0, x.size = 8) (h1 : ∀ x ∈ l1, x.size = 8) (d : Nat) : ∀ (i : Nat) (acc : List S34), i + d = l1.length → acc.length ≤ i →
    Ev (fun k => spec_StepsFor.l0 k l0 l1 acc (i : Int)) (acc ++ impl_stepsFor.steps l0 (l1.drop i) (i : Int)) := by
  induction d with
  | zero =>
    intro i acc h ha
    rw [List.drop_eq_nil_of_le (by omega), impl_stepsFor.steps, List.append_nil]
    exact Ev.step (fun k => by rw [spec_StepsFor.l0, if_neg (by omega)]) (Ev.now _)
  | succ d ih =>
    intro i acc h ha
    have hi : i < l1.length := by omega
    have e1 : rdOf ByteArray.empty l1 (i : Int) = l1[i] := by simp [rdOf, hi]
    rw [idxFrom_drop l1 i hi, impl_stepsFor.steps]
    refine Ev.step (fun k => by rw [spec_StepsFor.l0, if_pos (by omega), if_pos (by omega), if_pos (by omega), e1, next64 (by omega)]) ?_
    by_cases g : (rdOf ByteArray.empty l0 (i : Int)).toList = l1[i].toList
    · simp only [if_pos g]
      exact ih (i + 1) acc (by omega) (by omega)
    · simp only [if_neg g]
      refine Ev.bind (specFor l0 (i : Int) l1[i] (by omega) h0 (h1 _ (List.getElem_mem hi))) ?_
      simp only [if_pos (show acc.length < 3518437208883 by omega)]
      have := ih (i + 1) (acc ++ [impl_stepsFor.step l0 (i : Int) l1[i]]) (by omega) (by simp; omega)
      rw [List.append_assoc] at this
      exact this
theorem image_all {l : List ByteArray} (h : imageM l = true) : (1 ≤ l.length ∧ l.length ≤ 8) ∧ ∀ x ∈ l, x.size = 8 := by
  unfold imageM at h
  simp only [Bool.and_eq_true, decide_eq_true_eq, Bool.not_eq_true'] at h
  refine ⟨by omega, fun x hx => ?_⟩
  have := List.any_eq_false.1 h.2 x hx
  have h3 : (x.size : Int) = 8 := by simpa using this
  omega
/-- What both StepsFor give. -/
def forM (old fresh : List ByteArray) : List S34 := if (imageM old = true ∧ imageM fresh = true) ∧ old.length = fresh.length then impl_stepsFor.steps old fresh 0 else []
theorem steps_length (old : List ByteArray) : ∀ (r : List ByteArray) (i : Int), (impl_stepsFor.steps old r i).length ≤ r.length := by
  intro r
  induction r with
  | nil => intro i; simp [impl_stepsFor.steps]
  | cons b r ih =>
    intro i
    rw [impl_stepsFor.steps]
    have := ih (i + 1)
    split <;> simp only [List.length_cons] <;> omega
theorem forM_length (old fresh : List ByteArray) : (forM old fresh).length ≤ fresh.length := by
  unfold forM; split
  · exact steps_length _ _ _
  · simp
theorem implStepsFor (old fresh : List ByteArray) (h1 : old.length ≤ 9223372036854775807) (h2 : fresh.length ≤ 9223372036854775807) : impl_StepsFor.f old fresh = some (forM old fresh) := by
  unfold impl_StepsFor.f forM
  rw [implImage old h1, Option.bind_some]
  by_cases g1 : imageM old = true
  · rw [if_pos g1, implImage fresh h2, Option.bind_some]
    by_cases g2 : imageM fresh = true
    · rw [if_pos g2]
      by_cases g3 : old.length = fresh.length
      · rw [if_pos (by omega), if_pos ⟨⟨g1, g2⟩, g3⟩]
        obtain ⟨a1, a2⟩ := image_all g1
        obtain ⟨b1, b2⟩ := image_all g2
        unfold impl_stepsFor.f
        rw [if_pos ⟨⟨g3, by omega⟩, a2, b2⟩]
        rfl
      · rw [if_neg (by omega), if_neg (fun h => g3 h.2)]
    · rw [if_neg g2, if_neg (fun h => g2 h.1.2)]
  · rw [if_neg g1, if_neg (fun h => g1 h.1.1)]
theorem specStepsFor (old fresh : List ByteArray) : Ev (fun k => spec_StepsFor.f k old fresh) (forM old fresh) := by
  unfold spec_StepsFor.f forM
  refine Ev.bind1 rfl (Ev.bind (specImage old) ?_)
  by_cases g1 : imageM old = true
  · simp only [if_pos g1]
    refine Ev.bind (specImage fresh) ?_
    by_cases g2 : imageM fresh = true
    · simp only [if_pos g2]
      by_cases g3 : old.length = fresh.length
      · rw [if_pos ⟨⟨g1, g2⟩, g3⟩, show ((old.length : Int) != (fresh.length : Int)) = false by simp [g3]]
        obtain ⟨a1, a2⟩ := image_all g1
        obtain ⟨b1, b2⟩ := image_all g2
        have := specSteps_l0 old fresh g3 (by omega) a2 b2 fresh.length 0 [] (Nat.zero_add _) (Nat.le_refl _)
        exact Ev.step (f := fun k => spec_StepsFor.l0 k old fresh [] 0) (fun k => by rw [spec_StepsFor.j0, if_neg (by decide)]) this
      · rw [if_neg (fun h => g3 h.2), show ((old.length : Int) != (fresh.length : Int)) = true by simp; omega]
        exact Ev.step (fun k => by rw [spec_StepsFor.j0, if_pos rfl]) (Ev.now _)
    · simp only [if_neg g2]
      rw [if_neg (fun h => g2 h.1.2)]
      exact Ev.step (fun k => by rw [spec_StepsFor.j0, if_pos rfl]) (Ev.now _)
  · simp only [if_neg g1]
    rw [if_neg (fun h => g1 h.1.1)]
    exact Ev.step (fun k => by rw [spec_StepsFor.j0, if_pos rfl]) (Ev.now _)
end Go.Proofs.Ytbihlagdcbdiaaa.Pure
namespace Go.Proofs.Ytbihlagdcbdiaaa.Pure
set_option linter.unusedVariables false
set_option linter.unusedSimpArgs false
open Go Go.RowKit Go.Proofs.Ytbihlagdcbdiaaa.Q Go.Proofs.YtbihlagdcbdiaaaW.PrintWords Go.Proofs.YtbihlagdcbdiaaaW.PrintLast Go.Proofs.YtbihlagdcbdiaaaW.PrintMore
theorem within_eq (a b c : Int) : impl_within.f a b c = some (decide (b ≤ a ∧ a ≤ c)) := by
  unfold impl_within.f
  by_cases h : a ≥ b
  · rw [if_pos h]; congr 1; rw [Bool.eq_iff_iff]; simp; omega
  · rw [if_neg h]; congr 1; simp; omega
end Go.Proofs.Ytbihlagdcbdiaaa.Pure
namespace Go.Proofs.Ytbihlagdcbdiaaa.Pure
set_option linter.unusedVariables false
set_option linter.unusedSimpArgs false
open Go Go.RowKit Go.Proofs.Ytbihlagdcbdiaaa.Q Go.Proofs.YtbihlagdcbdiaaaW.PrintWords Go.Proofs.YtbihlagdcbdiaaaW.PrintLast Go.Proofs.YtbihlagdcbdiaaaW.PrintMore
def emp (d : ByteArray) : Bool := d.toList == ([] : List UInt8)
def e8 (d : ByteArray) : Bool := (d.size : Int) == 8
def inr (x hi : Int) : Bool := decide (0 ≤ x ∧ x ≤ hi)
def stepM (k b c : Int) (d : ByteArray) (n : Int) : Bool :=
  if k = 1 then inr b (n - 1) && (c == 0) && emp d
  else if k = 2 then inr b (n - 1) && (c == 0) && e8 d
  else if k = 3 then inr b (n - 1) && inr c (n - 1) && emp d
  else if k = 4 then inr b (n - 1) && inr c (n - 1) && e8 d
  else if k = 5 then (b == 0) && inr c 1000000 && emp d
  else false
def j3M (k b c : Int) (x5 x6 x7 : Bool) : Bool := if k = 5 then (b == 0) && inr c 1000000 && x7 else decide (1 ≤ k ∧ k ≤ 5) && x5 && x6 && x7
theorem isStep_j3 (k b c : Int) (d : ByteArray) (x5 x6 x7 : Bool) : Ev (fun m => impl_isStep.j3 m x5 x6 x7 k b c d) (j3M k b c x5 x6 x7) := by
  refine Ev.step (fun m => by rw [impl_isStep.j3, impl_isTime.f, within_eq, within_eq]) ?_
  simp only [Option.bind_some]
  unfold j3M inr
  generalize decide (0 ≤ c ∧ c ≤ 1000000) = t3
  by_cases k5 : k = 5
  · simp only [if_pos k5, decide_eq_true (show 1 ≤ k ∧ k ≤ 5 by omega), if_true]
    by_cases hb : b = 0
    · cases t3
      · simp only [if_pos hb, Bool.false_eq_true, if_false, Bool.and_false, Bool.false_and]; exact Ev.now _
      · simp only [if_pos hb, if_true, hb, beq_self_eq_true, Bool.true_and]; exact Ev.now _
    · simp only [if_neg hb, show (b == 0) = false from beq_eq_false_iff_ne.2 hb, Bool.false_and]; exact Ev.now _
  · simp only [if_neg k5]
    generalize decide (1 ≤ k ∧ k ≤ 5) = t1
    cases t1
    · simp only [Bool.false_eq_true, if_false, Bool.false_and]; exact Ev.now _
    · cases x5
      · simp only [Bool.false_eq_true, if_false, if_true, Bool.false_and, Bool.true_and]; exact Ev.now _
      · cases x6
        · simp only [Bool.false_eq_true, if_false, if_true, Bool.false_and, Bool.true_and]; exact Ev.now _
        · simp only [if_true, Bool.true_and]; exact Ev.now _
theorem isStep_j2 (k b c : Int) (d : ByteArray) (x5 x6 x7 x39 : Bool) : Ev (fun m => impl_isStep.j2 m x5 x6 x7 x39 k b c d) (j3M k b c x5 x6 (if x39 = true then e8 d else x7)) := by
  refine Ev.step (fun m => by rw [impl_isStep.j2]) ?_
  by_cases h : x39 = true
  · simp only [if_pos h]; exact isStep_j3 k b c d x5 x6 _
  · simp only [if_neg h]; exact isStep_j3 k b c d x5 x6 x7
theorem isStep_j1 (k b c : Int) (d : ByteArray) (x5 x6 x7 : Bool) : Ev (fun m => impl_isStep.j1 m x5 x6 x7 k b c d) (j3M k b c x5 x6 (if k = 2 ∨ k = 4 then e8 d else x7)) := by
  refine Ev.step (fun m => by rw [impl_isStep.j1]) ?_
  by_cases h : k = 2
  · simp only [if_pos h, if_pos (show k = 2 ∨ k = 4 from .inl h)]
    have := isStep_j2 k b c d x5 x6 x7 true
    simpa using this
  · simp only [if_neg h]
    have := isStep_j2 k b c d x5 x6 x7 (k == 4)
    by_cases h4 : k = 4
    · rw [if_pos (.inr h4)]; rw [if_pos (by simp [h4])] at this; exact this
    · rw [if_neg (by omega)]; rw [if_neg (by simp [h4])] at this; exact this
theorem isStep_j0 (k b c : Int) (d : ByteArray) (n : Int) (h : 1 ≤ n ∧ n ≤ 8) (x5 x6 x7 x26 : Bool) : Ev (fun m => impl_isStep.j0 m n x5 x6 x7 x26 k b c d) (j3M k b c x5 (if x26 = true then inr c (n - 1) else x6) (if k = 2 ∨ k = 4 then e8 d else x7)) := by
  refine Ev.step (fun m => by rw [impl_isStep.j0, wrap64_id (n := n - 1) (by omega) (by omega), within_eq]) ?_
  by_cases h : x26 = true
  · simp only [if_pos h, Option.bind_some]; exact isStep_j1 k b c d x5 _ x7
  · simp only [if_neg h]; exact isStep_j1 k b c d x5 x6 x7
theorem implStep (k b c : Int) (d : ByteArray) (n : Int) (h : 1 ≤ n ∧ n ≤ 8) : Ev (fun m => impl_isStep.f m k b c d n) (stepM k b c d n) := by
  have key : Ev (fun m => impl_isStep.j0 m n (inr b (n - 1)) (c == 0) (emp d) (decide (k = 3 ∨ k = 4)) k b c d) (stepM k b c d n) := by
    have := isStep_j0 k b c d n h (inr b (n - 1)) (c == 0) (emp d) (decide (k = 3 ∨ k = 4))
    have e : j3M k b c (inr b (n - 1)) (if decide (k = 3 ∨ k = 4) = true then inr c (n - 1) else (c == 0)) (if k = 2 ∨ k = 4 then e8 d else emp d) = stepM k b c d n := by
      unfold j3M stepM
      by_cases k1 : k = 1
      · subst k1; simp
      · by_cases k2 : k = 2
        · subst k2; simp
        · by_cases k3 : k = 3
          · subst k3; simp
          · by_cases k4 : k = 4
            · subst k4; simp
            · by_cases k5 : k = 5
              · subst k5; simp
              · rw [if_neg k5, if_neg k1, if_neg k2, if_neg k3, if_neg k4, if_neg k5, decide_eq_false (show ¬ (1 ≤ k ∧ k ≤ 5) by omega)]; simp
    rw [e] at this
    exact this
  unfold impl_isStep.f
  rw [wrap64_id (n := n - 1) (by omega) (by omega), within_eq]
  simp only [Option.bind_some]
  by_cases k3 : k = 3
  · simp only [if_pos k3]
    rw [decide_eq_true (show k = 3 ∨ k = 4 from .inl k3)] at key
    exact key
  · simp only [if_neg k3]
    rw [show decide (k = 3 ∨ k = 4) = (k == 4) by rw [Bool.eq_iff_iff]; simp [k3]] at key
    exact key
end Go.Proofs.Ytbihlagdcbdiaaa.Pure
namespace Go.Proofs.Ytbihlagdcbdiaaa.Pure
set_option linter.unusedVariables false
set_option linter.unusedSimpArgs false
open Go Go.RowKit Go.Proofs.Ytbihlagdcbdiaaa.Q Go.Proofs.YtbihlagdcbdiaaaW.PrintWords Go.Proofs.YtbihlagdcbdiaaaW.PrintLast Go.Proofs.YtbihlagdcbdiaaaW.PrintMore
def zero8 : ByteArray := (⟨#[0, 0, 0, 0, 0, 0, 0, 0]⟩ : ByteArray)
def makeM (k : Int) (d s : ByteArray) : ByteArray := if k = 1 then zero8 else if k = 2 then d else if k = 3 then s else xorM s d
theorem step_from {k b c : Int} {d : ByteArray} {n : Int} (h : stepM k b c d n = true) (hk : ¬ k = 5) (hn : 1 ≤ n) : (0 ≤ c ∧ c ≤ n - 1) ∧ (¬ k = 1 → ¬ k = 2 → ¬ k = 3 → d.size = 8) := by
  unfold stepM inr e8 at h
  by_cases k1 : k = 1
  · rw [if_pos k1] at h
    simp only [Bool.and_eq_true, decide_eq_true_eq, beq_iff_eq] at h
    exact ⟨by omega, fun x => absurd k1 x⟩
  · rw [if_neg k1] at h
    by_cases k2 : k = 2
    · rw [if_pos k2] at h
      simp only [Bool.and_eq_true, decide_eq_true_eq, beq_iff_eq] at h
      exact ⟨by omega, fun _ x => absurd k2 x⟩
    · rw [if_neg k2] at h
      by_cases k3 : k = 3
      · rw [if_pos k3] at h
        simp only [Bool.and_eq_true, decide_eq_true_eq] at h
        exact ⟨h.1.2, fun _ _ x => absurd k3 x⟩
      · rw [if_neg k3] at h
        by_cases k4 : k = 4
        · rw [if_pos k4] at h
          simp only [Bool.and_eq_true, decide_eq_true_eq, beq_iff_eq] at h
          exact ⟨h.1.2, fun _ _ _ => by omega⟩
        · rw [if_neg k4, if_neg hk] at h
          exact absurd h (by decide)
theorem implMake (k b c : Int) (d s : ByteArray) (hs : s.size = 8) (hd : ¬ k = 1 → ¬ k = 2 → ¬ k = 3 → d.size = 8) : impl_madeBy.f k b c d s = some (makeM k d s) := by
  unfold impl_madeBy.f makeM
  by_cases k1 : k = 1
  · rw [if_pos k1, if_pos k1]; rfl
  · rw [if_neg k1, if_neg k1]
    by_cases k2 : k = 2
    · rw [if_pos k2, if_pos k2]
    · rw [if_neg k2, if_neg k2]
      by_cases k3 : k = 3
      · rw [if_pos k3, if_pos k3]
      · rw [if_neg k3, if_neg k3, implXored s d hs (hd k1 k2 k3)]; rfl
theorem image_at {l : List ByteArray} {c : Int} (h : imageM l = true) (h0 : 0 ≤ c) (h1 : c < (l.length : Int)) : (rdOf ByteArray.empty l c).size = 8 := by
  unfold imageM at h
  simp only [Bool.and_eq_true, Bool.not_eq_true', List.any_eq_false, bne_iff_ne, ne_eq, Decidable.not_not] at h
  have hl : c.toNat < l.length := by omega
  have e : rdOf ByteArray.empty l c = l[c.toNat] := by simp [rdOf, hl]
  rw [e]
  have := h.2 l[c.toNat] (List.getElem_mem hl)
  omega
theorem image_len {l : List ByteArray} (h : imageM l = true) : 1 ≤ (l.length : Int) ∧ (l.length : Int) ≤ 8 := by
  unfold imageM at h
  rw [Bool.and_eq_true, decide_eq_true_iff] at h
  exact h.1
end Go.Proofs.Ytbihlagdcbdiaaa.Pure
namespace Go.Proofs.Ytbihlagdcbdiaaa.Pure
set_option linter.unusedVariables false
set_option linter.unusedSimpArgs false
open Go Go.RowKit Go.Proofs.Ytbihlagdcbdiaaa.Q Go.Proofs.YtbihlagdcbdiaaaW.PrintWords Go.Proofs.YtbihlagdcbdiaaaW.PrintLast Go.Proofs.YtbihlagdcbdiaaaW.PrintMore
abbrev Stp := S34
theorem rdSt_mid (p : List Stp) (a : Stp) (r : List Stp) : rd_T34 (p ++ a :: r) (p.length : Int) = a := by simp [rd_T34]
end Go.Proofs.Ytbihlagdcbdiaaa.Pure
namespace Go.Proofs.Ytbihlagdcbdiaaa.Pure
set_option linter.unusedVariables false
set_option linter.unusedSimpArgs false
open Go Go.RowKit Go.Proofs.Ytbihlagdcbdiaaa.Q Go.Proofs.YtbihlagdcbdiaaaW.PrintWords Go.Proofs.YtbihlagdcbdiaaaW.PrintLast Go.Proofs.YtbihlagdcbdiaaaW.PrintMore
def badM (n : Int) (x : Stp) : Bool := !(stepM x.f0 x.f1 x.f2 x.f3 n)
def dups : List Stp → List Stp → Bool
  | _, [] => false
  | p, x :: r => (x.f0 != 5 && p.any (impl_touches.is x.f1)) || dups (p ++ [x]) r
def rise : Int → List Stp → Bool
  | _, [] => true
  | lb, x :: r => if x.f0 = 5 then decide (lb < x.f2) && rise x.f2 r else rise lb r
def formM (l : List Stp) (n : Int) : Bool := decide (1 ≤ n ∧ n ≤ 8) && decide ((l.length : Int) ≤ 20) && !(l.any (badM n))
def codeM (l : List Stp) (n : Int) : Int := if formM l n = true then (if dups [] l = true then 12 else if rise (-1) l = true then 0 else 8) else 1
theorem idx_before (p : Stp → Bool) (x : Stp) (r : List Stp) (hx : p x = true) : ∀ (a : List Stp) (i : Int), (idxFrom p (a ++ x :: r) i < i + a.length ↔ a.any p = true) := by
  intro a
  induction a with
  | nil => intro i; simp [idxFrom, hx]
  | cons y a ih =>
    intro i
    rw [List.cons_append, idxFrom, List.any_cons]
    by_cases h : p y = true
    · rw [if_pos h, h]; simp; omega
    · rw [if_neg h, Bool.eq_false_iff.2 h, Bool.false_or, ← ih (i + 1)]; simp only [List.length_cons]; omega
theorem scan_eq (r : List Stp) : ∀ (p : List Stp) (lb : Int) (up : Bool), impl_stepsCode.scan (p ++ r) r (p.length : Int) lb up = if dups p r = true then 12 else if (up && rise lb r) = true then 0 else 8 := by
  induction r with
  | nil => intro p lb up; simp [impl_stepsCode.scan, dups, rise]
  | cons x r ih =>
    intro p lb up
    have e : ((p.length : Int) + 1) = ((p ++ [x]).length : Int) := by simp
    have ea : p ++ x :: r = (p ++ [x]) ++ r := by simp
    rw [impl_stepsCode.scan, dups, rise]
    by_cases h : x.f0 = 5
    · rw [if_pos h, if_pos h, e, ea, ih, show (x.f0 != 5) = false from bne_eq_false_iff_eq.2 h, Bool.false_and, Bool.false_or, Bool.and_assoc]
    · rw [if_neg h, if_neg h, show (x.f0 != 5) = true from bne_iff_ne.2 h, Bool.true_and]
      have hx : impl_touches.is x.f1 x = true := by simp [impl_touches.is, h]
      have hb := idx_before (impl_touches.is x.f1) x r hx p 0
      rw [Int.zero_add] at hb
      by_cases g : idxFrom (impl_touches.is x.f1) (p ++ x :: r) 0 < (p.length : Int)
      · rw [if_pos g, hb.1 g, Bool.true_or, if_pos rfl]
      · rw [if_neg g, Bool.eq_false_iff.2 (fun h => g (hb.2 h)), Bool.false_or, e, ea, ih]
theorem implOk (n : Int) (hn : 1 ≤ n ∧ n ≤ 8) : ∀ l : List Stp, ∃ K, ∀ k, K ≤ k → ∀ x ∈ l, impl_stepsCode.ok k n x = some (stepM x.f0 x.f1 x.f2 x.f3 n) := by
  intro l
  induction l with
  | nil => exact ⟨0, fun k _ x hx => by cases hx⟩
  | cons a r ih =>
    obtain ⟨K1, h1⟩ := ih
    obtain ⟨K2, h2⟩ := implStep a.f0 a.f1 a.f2 a.f3 n hn
    refine ⟨max K1 K2, fun k hk x hx => ?_⟩
    rcases List.mem_cons.1 hx with rfl | hx
    · exact h2 k (by omega)
    · exact h1 k (by omega) x hx
theorem implCode (l : List Stp) (n : Int) (hl : l.length ≤ 9223372036854775807) : Ev (fun k => impl_stepsCode.f k l n) (codeM l n) := by
  have hscan := scan_eq l [] (-1) true
  rw [Bool.true_and, List.nil_append] at hscan
  by_cases h1 : 1 ≤ n ∧ n ≤ 8
  · obtain ⟨K, hK⟩ := implOk n h1 l
    refine ⟨K, fun k hk => ?_⟩
    have ok := hK k hk
    show impl_stepsCode.f k l n = _
    unfold impl_stepsCode.f
    rw [if_pos ⟨hl, fun _ _ x hx => by rw [ok x hx]; rfl⟩]
    have ef : impl_stepsCode.form k l n = formM l n := by
      unfold impl_stepsCode.form formM
      have ea : l.any (impl_stepsCode.bad k n) = l.any (badM n) := by
        rw [Bool.eq_iff_iff, List.any_eq_true, List.any_eq_true]
        constructor
        · rintro ⟨x, hx, hb⟩; exact ⟨x, hx, by unfold impl_stepsCode.bad at hb; rw [ok x hx] at hb; exact hb⟩
        · rintro ⟨x, hx, hb⟩; exact ⟨x, hx, by unfold impl_stepsCode.bad; rw [ok x hx]; exact hb⟩
      rw [ea]
    rw [ef]
    unfold codeM
    rw [← hscan]
    rfl
  · refine ⟨0, fun k _ => ?_⟩
    show impl_stepsCode.f k l n = _
    unfold impl_stepsCode.f
    rw [if_pos ⟨hl, fun h => absurd h h1⟩]
    have e1 : impl_stepsCode.form k l n = false := by unfold impl_stepsCode.form; rw [decide_eq_false h1, Bool.false_and, Bool.false_and]
    have e2 : formM l n = false := by unfold formM; rw [decide_eq_false h1, Bool.false_and, Bool.false_and]
    unfold codeM
    rw [e1, e2]
    rfl
end Go.Proofs.Ytbihlagdcbdiaaa.Pure
namespace Go.Proofs.Ytbihlagdcbdiaaa.Pure
set_option linter.unusedVariables false
set_option linter.unusedSimpArgs false
open Go Go.RowKit Go.Proofs.Ytbihlagdcbdiaaa.Q Go.Proofs.YtbihlagdcbdiaaaW.PrintWords Go.Proofs.YtbihlagdcbdiaaaW.PrintLast Go.Proofs.YtbihlagdcbdiaaaW.PrintMore
def onlyW (l : List Stp) : List Stp := l.filter (fun x => !(x.f0 == 5))
theorem onlyW_length (l : List Stp) : (onlyW l).length ≤ l.length := List.length_filter_le _ _
theorem implOnlyW (l : List Stp) (h : l.length * 40 ≤ 140737488355328) : impl_writes.f l = some (onlyW l) := by
  unfold impl_writes.f; rw [if_pos h]; rfl
end Go.Proofs.Ytbihlagdcbdiaaa.Pure
namespace Go.Proofs.Ytbihlagdcbdiaaa.Pure
set_option linter.unusedVariables false
set_option linter.unusedSimpArgs false
open Go Go.RowKit Go.Proofs.Ytbihlagdcbdiaaa.Q Go.Proofs.YtbihlagdcbdiaaaW.PrintWords Go.Proofs.YtbihlagdcbdiaaaW.PrintLast Go.Proofs.YtbihlagdcbdiaaaW.PrintMore
def applyGo (im : List ByteArray) : List ByteArray → List Stp → List ByteArray
  | out, [] => out
  | out, x :: r => if x.f0 = 5 then applyGo im out r else applyGo im (out.set x.f1.toNat (makeM x.f0 x.f3 (rdOf ByteArray.empty im x.f2))) r
theorem applyGo_only (im : List ByteArray) : ∀ (r : List Stp) (out : List ByteArray), applyGo im out (onlyW r) = applyGo im out r := by
  intro r
  induction r with
  | nil => intro out; rfl
  | cons x r ih =>
    intro out
    by_cases h : x.f0 = 5
    · rw [show onlyW (x :: r) = onlyW r by simp [onlyW, h], applyGo, if_pos h, ih]
    · rw [show onlyW (x :: r) = x :: onlyW r by simp [onlyW, h], applyGo, applyGo, if_neg h, if_neg h, ih]
theorem step_to {k b c : Int} {d : ByteArray} {n : Int} (h : stepM k b c d n = true) (hk : ¬ k = 5) : 0 ≤ b ∧ b ≤ n - 1 := by
  unfold stepM inr at h
  by_cases k1 : k = 1
  · rw [if_pos k1] at h
    simp only [Bool.and_eq_true, decide_eq_true_eq] at h
    exact h.1.1
  · rw [if_neg k1] at h
    by_cases k2 : k = 2
    · rw [if_pos k2] at h
      simp only [Bool.and_eq_true, decide_eq_true_eq] at h
      exact h.1.1
    · rw [if_neg k2] at h
      by_cases k3 : k = 3
      · rw [if_pos k3] at h
        simp only [Bool.and_eq_true, decide_eq_true_eq] at h
        exact h.1.1
      · rw [if_neg k3] at h
        by_cases k4 : k = 4
        · rw [if_pos k4] at h
          simp only [Bool.and_eq_true, decide_eq_true_eq] at h
          exact h.1.1
        · rw [if_neg k4, if_neg hk] at h
          exact absurd h (by decide)
theorem implApply (im : List ByteArray) (hi : imageM im = true) (N : Nat) (hN : N ≤ 20) (r : List Stp) : ∀ (p : List Stp) (out : List ByteArray), p.length + r.length = N → out.length = im.length → (∀ x ∈ r, stepM x.f0 x.f1 x.f2 x.f3 im.length = true ∧ ¬ x.f0 = 5) →
    Ev (fun k => impl_imageApply.l0 k im out (p ++ r) (N : Int) (p.length : Int)) (applyGo im out r) := by
  have hn := image_len hi
  induction r with
  | nil => intro p out h _ _; simp at h; exact Ev.step (f := fun _ => some out) (fun k => by rw [impl_imageApply.l0, if_neg (by omega)]) (Ev.now _)
  | cons x r ih =>
    intro p out h ho hs
    simp only [List.length_cons] at h
    refine Ev.step (fun k => by rw [impl_imageApply.l0, if_pos (show (p.length : Int) < (N : Int) by omega), if_pos (by omega), if_pos (lt_mid p x r), rdSt_mid, next64 (by omega)]) ?_
    rw [applyGo]
    obtain ⟨hx, g⟩ := hs x (by simp)
    obtain ⟨⟨c0, c1⟩, hd⟩ := step_from hx g hn.1
    obtain ⟨b0, b1⟩ := step_to hx g
    simp only [if_neg g, if_pos c0, if_pos (show x.f2 < (im.length : Int) by omega)]
    rw [implMake x.f0 x.f1 x.f2 x.f3 _ (image_at hi c0 (by omega)) hd]
    simp only [Option.bind_some, if_pos b0, if_pos (show x.f1 < (out.length : Int) by omega)]
    have := ih (p ++ [x]) (out.set x.f1.toNat (makeM x.f0 x.f3 (rdOf ByteArray.empty im x.f2))) (by simp; omega) (by rw [List.length_set]; exact ho) (fun y hy => hs y (by simp [hy]))
    rw [← snoc_app, lenS_snoc] at this
    exact this
def applyM (im : List ByteArray) (l : List Stp) : List ByteArray × Int :=
  if (im.length : Int) > 400 ∨ (l.length : Int) > 400 then ([], 2) else if imageM im = true then (if codeM l im.length = 0 then (applyGo im im l, 0) else ([], codeM l im.length)) else ([], 1)
theorem code_steps {l : List Stp} {n : Int} (h : codeM l n = 0) : (l.length : Int) ≤ 20 ∧ ∀ x ∈ l, stepM x.f0 x.f1 x.f2 x.f3 n = true := by
  unfold codeM at h
  by_cases hf : formM l n = true
  · unfold formM at hf
    simp only [Bool.and_eq_true, decide_eq_true_eq, Bool.not_eq_true', List.any_eq_false] at hf
    refine ⟨hf.1.2, fun x hx => ?_⟩
    have := hf.2 x hx
    simpa [badM] using this
  · rw [if_neg hf] at h; exact absurd h (by decide)
theorem implImageApply (im : List ByteArray) (l : List Stp) (h1 : im.length ≤ 9223372036854775807) (h2 : l.length ≤ 9223372036854775807) : Ev (fun k => impl_ImageApply.f k im l) (applyM im l) := by
  unfold impl_ImageApply.f applyM
  by_cases g1 : (im.length : Int) > 400
  · simp only [if_pos g1, if_pos (show (im.length : Int) > 400 ∨ (l.length : Int) > 400 from .inl g1)]
    exact Ev.step (f := fun _ => some ([], 2)) (fun k => by rw [impl_ImageApply.j0, if_pos rfl]) (Ev.now _)
  · simp only [if_neg g1]
    by_cases g2 : (l.length : Int) > 400
    · rw [if_pos (.inr g2), decide_eq_true g2]
      exact Ev.step (f := fun _ => some ([], 2)) (fun k => by rw [impl_ImageApply.j0, if_pos rfl]) (Ev.now _)
    · rw [if_neg (by omega), decide_eq_false g2]
      refine Ev.step (fun k => by rw [impl_ImageApply.j0, if_neg (by decide), implImage im h1]) ?_
      simp only [Option.bind_some]
      by_cases hi : imageM im = true
      · simp only [if_pos hi]
        unfold impl_size_string.f
        simp only [Option.bind_some]
        refine Ev.bind (implCode l im.length h2) ?_
        by_cases hc : codeM l im.length = 0
        · simp only [if_pos hc]
          obtain ⟨hl, hst⟩ := code_steps hc
          have hn := image_len hi
          refine Ev.bind (a := applyGo im im l) ?_ (Ev.now _)
          unfold impl_imageApply.f
          rw [show slices_Clone_string_string.f im = some im by unfold slices_Clone_string_string.f; rw [if_pos (by omega)], implOnlyW l (by omega)]
          simp only [Option.bind_some]
          have hw := onlyW_length l
          have := implApply im hi (onlyW l).length (by omega) (onlyW l) [] im (by simp) rfl (fun x hx => by
            unfold onlyW at hx
            rw [List.mem_filter] at hx
            exact ⟨hst x hx.1, by simpa using hx.2⟩)
          rw [applyGo_only] at this
          exact this
        · simp only [if_neg hc]; exact Ev.now _
      · simp only [if_neg hi]; exact Ev.now _
end Go.Proofs.Ytbihlagdcbdiaaa.Pure
namespace Go.Proofs.Ytbihlagdcbdiaaa.Pure
set_option linter.unusedVariables false
set_option linter.unusedSimpArgs false
open Go Go.RowKit Go.Proofs.YtbihlagdcbdiaaaW.PrintWords Go.Proofs.YtbihlagdcbdiaaaW.PrintLast Go.Proofs.YtbihlagdcbdiaaaW.PrintMore
def bl (s : ByteArray) : List Int := s.data.toList.map (fun b => (b.toNat : Int))
theorem bl_length (s : ByteArray) : (bl s).length = s.size := by rw [bl, List.length_map, Array.length_toList]; rfl
theorem bt_bl (s : ByteArray) (i : Nat) : bt s (i : Int) = ((bl s)[i]?).getD 0 := by
  unfold bt bl
  by_cases h : i < s.size
  · have h2 : i < s.data.size := h
    rw [dif_pos (by simpa using h)]
    simp only [Int.toNat_natCast, List.getElem?_map, Array.getElem?_toList, Array.getElem?_eq_getElem h2, Option.map_some, Option.getD_some]
    rfl
  · have h2 : s.data.size ≤ i := Nat.not_lt.1 h
    rw [dif_neg (by simpa using h)]
    simp [Array.getElem?_eq_none h2]
theorem bl_nums (l : List Int) (h : ∀ x ∈ l, 0 ≤ x ∧ x < 256) : bl (strOfNums l) = l := by
  unfold bl
  rw [strOfNums_data, List.map_map]
  refine (List.map_congr_left (fun x hx => ?_)).trans (List.map_id l)
  have := h x hx
  simp only [Function.comp, UInt8.toNat_ofNat']
  show ((x.toNat % 2 ^ 8 : Nat) : Int) = id x
  rw [show (2 : Nat) ^ 8 = 256 from rfl]; simp only [id]; omega
end Go.Proofs.Ytbihlagdcbdiaaa.Pure
namespace Go.Proofs.Ytbihlagdcbdiaaa.Pure
set_option linter.unusedVariables false
set_option linter.unusedSimpArgs false
open Go Go.RowKit Go.Proofs.Ytbihlagdcbdiaaa.Q Go.Proofs.YtbihlagdcbdiaaaW.PrintWords Go.Proofs.YtbihlagdcbdiaaaW.PrintLast Go.Proofs.YtbihlagdcbdiaaaW.PrintMore
theorem xor8b {a b : Nat} (ha : a < 256) (hb : b < 256) : Go.bits .xor .u8 (a : Int) (b : Int) = ((a ^^^ b : Nat) : Int) := by
  have hx := Nat.xor_lt_two_pow (n := 8) ha hb
  simp [Go.bits]
  rw [show IntKind.u8.bits = 8 from rfl, Nat.mod_eq_of_lt (show a < 2 ^ 8 by omega), Nat.mod_eq_of_lt (show b < 2 ^ 8 by omega)]
  generalize a ^^^ b = c at hx ⊢
  simp [IntKind.wrap, IntKind.signed, IntKind.bits]; omega
theorem xor_rng (a b : ByteArray) (i : Int) : 0 ≤ Go.bits .xor .u8 (bt a i) (bt b i) ∧ Go.bits .xor .u8 (bt a i) (bt b i) < 256 := by
  obtain ⟨x, hx⟩ := Int.eq_ofNat_of_zero_le (bt_nonneg a i)
  obtain ⟨y, hy⟩ := Int.eq_ofNat_of_zero_le (bt_nonneg b i)
  have h1 := bt_le a i
  have h2 := bt_le b i
  rw [hx, hy, xor8b (by omega) (by omega)]
  have : x ^^^ y < 256 := Nat.xor_lt_two_pow (n := 8) (by omega) (by omega)
  omega
theorem xs_range (a b : ByteArray) : ∀ (n : Nat), ∀ x ∈ impl_xored.xs a b n, 0 ≤ x ∧ x < 256 := by
  intro n
  induction n with
  | zero => intro x hx; simp [impl_xored.xs] at hx
  | succ n ih =>
    intro x hx
    rw [impl_xored.xs, List.mem_append, List.mem_singleton] at hx
    rcases hx with hx | rfl
    · exact ih x hx
    · exact xor_rng a b n
theorem xs_get (a b : ByteArray) : ∀ (n j : Nat), j < n → (impl_xored.xs a b n)[j]? = some (Go.bits .xor .u8 (bt a j) (bt b j)) := by
  intro n
  induction n with
  | zero => intro j h; omega
  | succ n ih =>
    intro j h
    rw [impl_xored.xs]
    by_cases e : j = n
    · subst e; rw [List.getElem?_append_right (by rw [xs_length]; exact Nat.le_refl _), xs_length]; simp
    · rw [List.getElem?_append_left (by rw [xs_length]; omega)]; exact ih j (by omega)
theorem bl_xorM (a b : ByteArray) : bl (xorM a b) = impl_xored.xs a b 8 := bl_nums _ (xs_range a b 8)
theorem xorM_size (a b : ByteArray) : (xorM a b).size = 8 := by rw [← bl_length, bl_xorM, xs_length]
theorem bt_xorM (a b : ByteArray) (j : Nat) (h : j < 8) : bt (xorM a b) (j : Int) = Go.bits .xor .u8 (bt a j) (bt b j) := by rw [bt_bl, bl_xorM, xs_get a b 8 j h]; rfl
theorem bl_inj {a b : ByteArray} (h : bl a = bl b) : a = b := by
  have hd : a.data.toList = b.data.toList := by
    unfold bl at h
    refine List.map_inj_right (f := fun x : UInt8 => (x.toNat : Int)) (fun x y hxy => ?_) |>.1 h
    exact UInt8.toNat_inj.1 (by have h2 : (x.toNat : Int) = (y.toNat : Int) := hxy; omega)
  rcases a with ⟨⟨a⟩⟩; rcases b with ⟨⟨b⟩⟩
  simpa using hd
theorem bt_ext {a b : ByteArray} (hs : a.size = b.size) (h : ∀ j : Nat, j < a.size → bt a (j : Int) = bt b (j : Int)) : a = b := by
  refine bl_inj (List.ext_getElem? (fun j => ?_))
  by_cases hj : j < a.size
  · have := h j hj
    rw [bt_bl, bt_bl] at this
    rw [List.getElem?_eq_getElem (show j < (bl a).length by rw [bl_length]; exact hj), List.getElem?_eq_getElem (show j < (bl b).length by rw [bl_length]; omega)] at this ⊢
    simpa using this
  · rw [List.getElem?_eq_none (by rw [bl_length]; omega), List.getElem?_eq_none (by rw [bl_length]; omega)]
theorem xor_twice (x y : Int) (hx : 0 ≤ x ∧ x ≤ 255) (hy : 0 ≤ y ∧ y ≤ 255) : Go.bits .xor .u8 x (Go.bits .xor .u8 x y) = y ∧ Go.bits .xor .u8 (Go.bits .xor .u8 x y) y = x := by
  obtain ⟨a, rfl⟩ := Int.eq_ofNat_of_zero_le hx.1
  obtain ⟨b, rfl⟩ := Int.eq_ofNat_of_zero_le hy.1
  have ha : a < 256 := by omega
  have hb : b < 256 := by omega
  have hl : a ^^^ b < 256 := Nat.xor_lt_two_pow (n := 8) ha hb
  rw [xor8b ha hb, xor8b ha hl, xor8b hl hb]
  constructor
  · rw [← Nat.xor_assoc, Nat.xor_self, Nat.zero_xor]
  · rw [Nat.xor_assoc, Nat.xor_self, Nat.xor_zero]
/-- a with (a with b) is b. -/
theorem xor_left (a b : ByteArray) (hb : b.size = 8) : xorM a (xorM a b) = b := by
  refine bt_ext (by rw [xorM_size, hb]) (fun j hj => ?_)
  rw [xorM_size] at hj
  rw [bt_xorM _ _ j hj, bt_xorM _ _ j hj]
  exact (xor_twice _ _ ⟨bt_nonneg _ _, bt_le _ _⟩ ⟨bt_nonneg _ _, bt_le _ _⟩).1
end Go.Proofs.Ytbihlagdcbdiaaa.Pure
namespace Go.Proofs.Ytbihlagdcbdiaaa.Pure
set_option linter.unusedVariables false
set_option linter.unusedSimpArgs false
open Go Go.RowKit Go.Proofs.Ytbihlagdcbdiaaa.Q Go.Proofs.YtbihlagdcbdiaaaW.PrintWords Go.Proofs.YtbihlagdcbdiaaaW.PrintLast Go.Proofs.YtbihlagdcbdiaaaW.PrintMore
theorem idx_at (p : ByteArray → Bool) : ∀ (r q : List ByteArray), 0 ≤ idxFrom p r (q.length : Int) → (q.length : Int) ≤ idxFrom p r (q.length : Int) ∧ p (rdOf ByteArray.empty (q ++ r) (idxFrom p r (q.length : Int))) = true := by
  intro r
  induction r with
  | nil => intro q h; simp [idxFrom] at h
  | cons x r ih =>
    intro q h
    rw [idxFrom] at h ⊢
    by_cases g : p x = true
    · rw [if_pos g]
      exact ⟨Int.le_refl _, by rw [rdS_mid]; exact g⟩
    · rw [if_neg g] at h ⊢
      have := ih (q ++ [x])
      rw [lenS_snoc, ← snoc_app] at this
      have e : ((q.length + 1 : Nat) : Int) = (q.length : Int) + 1 := by omega
      rw [e] at this
      obtain ⟨a, b⟩ := this h
      exact ⟨by omega, b⟩
theorem idx_hit (p : ByteArray → Bool) (l : List ByteArray) (h : 0 ≤ idxFrom p l 0) : p (rdOf ByteArray.empty l (idxFrom p l 0)) = true := (idx_at p l [] h).2
theorem mix_eq (b x : ByteArray) (hx : x.size = 8) : impl_stepsFor.mix b x = xorM x b := by unfold impl_stepsFor.mix xorM; rw [hx]
theorem emp_nil : emp (⟨#[]⟩ : ByteArray) = true := by unfold emp; rw [toList_data]; rfl
/-- One step: it is right for so many blocks, writes block i, and makes it. -/
theorem step_ok (old : List ByteArray) (n : Int) (hn : n = old.length) (h8 : n ≤ 8) (ho : ∀ x ∈ old, x.size = 8) (i : Int) (hi : 0 ≤ i ∧ i < n) (b : ByteArray) (hb : b.size = 8) :
    (impl_stepsFor.step old i b).f1 = i ∧ (impl_stepsFor.step old i b).f0 ≠ 5 ∧ stepM (impl_stepsFor.step old i b).f0 (impl_stepsFor.step old i b).f1 (impl_stepsFor.step old i b).f2 (impl_stepsFor.step old i b).f3 n = true
      ∧ makeM (impl_stepsFor.step old i b).f0 (impl_stepsFor.step old i b).f3 (rdOf ByteArray.empty old (impl_stepsFor.step old i b).f2) = b := by
  have hin : ∀ x : Int, 0 ≤ x → x < n → inr x (n - 1) = true := fun x a c => by unfold inr; exact decide_eq_true (by omega)
  have hmem : ∀ x : Int, 0 ≤ x → x < (old.length : Int) → (rdOf ByteArray.empty old x).size = 8 := fun x a c => ho _ (by
    rw [rdOf, List.getD_eq_getElem?_getD, List.getElem?_eq_getElem (show x.toNat < old.length by omega)]
    exact List.getElem_mem _)
  have he8 : ∀ d : ByteArray, d.size = 8 → e8 d = true := fun d hd => by unfold e8; rw [hd]; rfl
  unfold impl_stepsFor.step
  by_cases g : b.toList = ([0, 0, 0, 0, 0, 0, 0, 0] : List UInt8)
  · rw [if_pos g]
    refine ⟨rfl, (show (1 : Int) ≠ 5 by decide), ?_, ?_⟩
    · show stepM 1 i 0 (⟨#[]⟩ : ByteArray) n = true
      unfold stepM; rw [if_pos rfl, hin i hi.1 hi.2, emp_nil]; rfl
    · show makeM 1 (⟨#[]⟩ : ByteArray) _ = b
      unfold makeM; rw [if_pos rfl]; exact toList_inj (by rw [g, toList_data]; rfl)
  · rw [if_neg g]
    by_cases g1 : 0 ≤ idxFrom (impl_stepsFor.same b) old 0
    · rw [if_pos g1]
      have hlt : idxFrom (impl_stepsFor.same b) old 0 < (old.length : Int) := by rcases impl_stepsFor.idx_lt (impl_stepsFor.same b) old 0 with h | h <;> omega
      refine ⟨rfl, (show (3 : Int) ≠ 5 by decide), ?_, ?_⟩
      · show stepM 3 i (idxFrom (impl_stepsFor.same b) old 0) (⟨#[]⟩ : ByteArray) n = true
        unfold stepM; rw [if_neg (show ¬ (3 : Int) = 1 by decide), if_neg (show ¬ (3 : Int) = 2 by decide), if_pos rfl, hin i hi.1 hi.2, hin _ g1 (by omega), emp_nil]; rfl
      · show makeM 3 (⟨#[]⟩ : ByteArray) (rdOf ByteArray.empty old (idxFrom (impl_stepsFor.same b) old 0)) = b
        unfold makeM; rw [if_neg (show ¬ (3 : Int) = 1 by decide), if_neg (show ¬ (3 : Int) = 2 by decide), if_pos rfl]
        have := idx_hit _ old g1
        exact (toList_inj (of_decide_eq_true this)).symm
    · rw [if_neg g1]
      by_cases g2 : 0 ≤ idxFrom (impl_stepsFor.near b) old 0
      · rw [if_pos g2]
        have hlt : idxFrom (impl_stepsFor.near b) old 0 < (old.length : Int) := by rcases impl_stepsFor.idx_lt (impl_stepsFor.near b) old 0 with h | h <;> omega
        have hs := hmem _ g2 hlt
        refine ⟨rfl, (show (4 : Int) ≠ 5 by decide), ?_, ?_⟩
        · show stepM 4 i (idxFrom (impl_stepsFor.near b) old 0) (impl_stepsFor.mix b (rdOf ByteArray.empty old (idxFrom (impl_stepsFor.near b) old 0))) n = true
          unfold stepM; rw [if_neg (show ¬ (4 : Int) = 1 by decide), if_neg (show ¬ (4 : Int) = 2 by decide), if_neg (show ¬ (4 : Int) = 3 by decide), if_pos rfl, hin i hi.1 hi.2, hin _ g2 (by omega), mix_eq b _ hs, he8 _ (xorM_size _ _)]; rfl
        · show makeM 4 (impl_stepsFor.mix b (rdOf ByteArray.empty old (idxFrom (impl_stepsFor.near b) old 0))) (rdOf ByteArray.empty old (idxFrom (impl_stepsFor.near b) old 0)) = b
          unfold makeM; rw [if_neg (show ¬ (4 : Int) = 1 by decide), if_neg (show ¬ (4 : Int) = 2 by decide), if_neg (show ¬ (4 : Int) = 3 by decide), mix_eq b _ hs, xor_left _ _ hb]
      · rw [if_neg g2]
        refine ⟨rfl, (show (2 : Int) ≠ 5 by decide), ?_, ?_⟩
        · show stepM 2 i 0 b n = true
          unfold stepM; rw [if_neg (show ¬ (2 : Int) = 1 by decide), if_pos rfl, hin i hi.1 hi.2, he8 b hb]; rfl
        · show makeM 2 b _ = b
          unfold makeM; rw [if_neg (show ¬ (2 : Int) = 1 by decide), if_pos rfl]
theorem steps_all (old : List ByteArray) (n : Int) (hn : n = old.length) (h8 : n ≤ 8) (ho : ∀ x ∈ old, x.size = 8) : ∀ (r : List ByteArray) (i : Int), 0 ≤ i → i + r.length ≤ n → (∀ x ∈ r, x.size = 8) →
    ∀ x ∈ impl_stepsFor.steps old r i, i ≤ x.f1 ∧ x.f0 ≠ 5 ∧ stepM x.f0 x.f1 x.f2 x.f3 n = true := by
  intro r
  induction r with
  | nil => intro i _ _ _ x hx; simp [impl_stepsFor.steps] at hx
  | cons b r ih =>
    intro i h0 h1 hs x hx
    simp only [List.length_cons] at h1
    have hr := ih (i + 1) (by omega) (by omega) (fun y hy => hs y (by simp [hy]))
    rw [impl_stepsFor.steps] at hx
    split at hx
    · obtain ⟨a, c, d⟩ := hr x hx; exact ⟨by omega, c, d⟩
    · obtain ⟨a, c, d, _⟩ := step_ok old n hn h8 ho i ⟨h0, by omega⟩ b (hs b (by simp))
      rcases List.mem_cons.1 hx with rfl | hx
      · exact ⟨by omega, c, d⟩
      · obtain ⟨a, c, d⟩ := hr x hx; exact ⟨by omega, c, d⟩
theorem steps_dups (old : List ByteArray) (n : Int) (hn : n = old.length) (h8 : n ≤ 8) (ho : ∀ x ∈ old, x.size = 8) : ∀ (r : List ByteArray) (i : Int) (p : List Stp), 0 ≤ i → i + r.length ≤ n → (∀ x ∈ r, x.size = 8) → (∀ y ∈ p, y.f1 < i) →
    dups p (impl_stepsFor.steps old r i) = false := by
  intro r
  induction r with
  | nil => intro i p _ _ _ _; simp [impl_stepsFor.steps, dups]
  | cons b r ih =>
    intro i p h0 h1 hs hp
    simp only [List.length_cons] at h1
    have hs' : ∀ y ∈ r, y.size = 8 := fun y hy => hs y (by simp [hy])
    rw [impl_stepsFor.steps]
    split
    · exact ih (i + 1) p (by omega) (by omega) hs' (fun y hy => by have := hp y hy; omega)
    · obtain ⟨a, _⟩ := step_ok old n hn h8 ho i ⟨h0, by omega⟩ b (hs b (by simp))
      rw [dups, a]
      have hany : p.any (impl_touches.is i) = false := by
        rw [List.any_eq_false]
        intro y hy
        have := hp y hy
        unfold impl_touches.is
        simp only [Bool.and_eq_true, beq_iff_eq, not_and]
        intro _ e; omega
      rw [hany, Bool.and_false, Bool.false_or]
      refine ih (i + 1) _ (by omega) (by omega) hs' (fun y hy => ?_)
      rcases List.mem_append.1 hy with hy | hy
      · have := hp y hy; omega
      · rw [List.mem_singleton] at hy; subst hy; omega
theorem rise_none : ∀ (l : List Stp) (lb : Int), (∀ x ∈ l, x.f0 ≠ 5) → rise lb l = true := by
  intro l
  induction l with
  | nil => intro lb _; rfl
  | cons x l ih =>
    intro lb h
    rw [rise, if_neg (h x (by simp))]
    exact ih lb (fun y hy => h y (by simp [hy]))
theorem steps_apply (old : List ByteArray) (n : Int) (hn : n = old.length) (h8 : n ≤ 8) (ho : ∀ x ∈ old, x.size = 8) : ∀ (r : List ByteArray) (i : Nat) (out : List ByteArray), i + r.length = old.length → (∀ x ∈ r, x.size = 8) → out.length = old.length → out.drop i = old.drop i →
    applyGo old out (impl_stepsFor.steps old r (i : Int)) = out.take i ++ r := by
  intro r
  induction r with
  | nil =>
    intro i out h _ hl _
    simp only [List.length_nil] at h
    rw [impl_stepsFor.steps, applyGo, List.append_nil, List.take_of_length_le (by omega)]
  | cons b r ih =>
    intro i out h hs hl hd
    simp only [List.length_cons] at h
    have hi : i < old.length := by omega
    have hi2 : i < out.length := by omega
    have hs' : ∀ y ∈ r, y.size = 8 := fun y hy => hs y (by simp [hy])
    have e1 : rdOf ByteArray.empty old (i : Int) = old[i] := by simp [rdOf, hi]
    have hd' : out[i] = old[i] ∧ out.drop (i + 1) = old.drop (i + 1) := by
      rw [List.drop_eq_getElem_cons hi2, List.drop_eq_getElem_cons hi] at hd
      exact List.cons.inj hd
    rw [impl_stepsFor.steps, e1]
    by_cases g : old[i].toList = b.toList
    · rw [if_pos g]
      have := ih (i + 1) out (by omega) hs' hl hd'.2
      rw [show ((i : Int) + 1) = ((i + 1 : Nat) : Int) by omega, this, List.take_succ_eq_append_getElem hi2, hd'.1, toList_inj g]
      simp
    · rw [if_neg g]
      obtain ⟨a, c, _, m⟩ := step_ok old n hn h8 ho (i : Int) ⟨by omega, by omega⟩ b (hs b (by simp))
      rw [applyGo, if_neg c, a, m, Int.toNat_natCast]
      have := ih (i + 1) (out.set i b) (by omega) hs' (by rw [List.length_set]; exact hl) (by rw [List.drop_set_of_lt (by omega)]; exact hd'.2)
      rw [show ((i : Int) + 1) = ((i + 1 : Nat) : Int) by omega, this, List.take_succ_eq_append_getElem (by rw [List.length_set]; exact hi2)]
      rw [List.take_set_of_le (Nat.le_refl _), List.getElem_set_self]
      simp
theorem steps_self (old : List ByteArray) (d : Nat) : ∀ i : Nat, i + d = old.length → impl_stepsFor.steps old (old.drop i) (i : Int) = [] := by
  induction d with
  | zero => intro i h; rw [List.drop_eq_nil_of_le (by omega)]; rfl
  | succ d ih =>
    intro i h
    have hi : i < old.length := by omega
    rw [List.drop_eq_getElem_cons hi, impl_stepsFor.steps, if_pos (by simp [rdOf, hi])]
    exact ih (i + 1) (by omega)
theorem forM_self (a : List ByteArray) : forM a a = [] := by
  unfold forM
  split
  · exact steps_self a a.length 0 (Nat.zero_add _)
  · rfl
theorem forM_apply (a b : List ByteArray) (ha : imageM a = true) (hb : imageM b = true) (hl : a.length = b.length) : applyM a (forM a b) = (b, 0) := by
  obtain ⟨a1, a2⟩ := image_all ha
  obtain ⟨b1, b2⟩ := image_all hb
  have hF := forM_length a b
  have eF : forM a b = impl_stepsFor.steps a b 0 := by unfold forM; rw [if_pos ⟨⟨ha, hb⟩, hl⟩]
  rw [eF] at hF ⊢
  have hall := steps_all a (a.length : Int) rfl (by omega) a2 b 0 (by omega) (by omega) b2
  have hd := steps_dups a (a.length : Int) rfl (by omega) a2 b 0 [] (by omega) (by omega) b2 (by simp)
  have hap := steps_apply a (a.length : Int) rfl (by omega) a2 b 0 a (by omega) b2 rfl rfl
  have hr := rise_none (impl_stepsFor.steps a b 0) (-1) (fun x hx => (hall x hx).2.1)
  unfold applyM
  rw [if_neg (by omega), if_pos ha]
  have hc : codeM (impl_stepsFor.steps a b 0) a.length = 0 := by
    unfold codeM
    have hf : formM (impl_stepsFor.steps a b 0) a.length = true := by
      unfold formM
      rw [decide_eq_true (show 1 ≤ (a.length : Int) ∧ (a.length : Int) ≤ 8 by omega), decide_eq_true (show ((impl_stepsFor.steps a b 0).length : Int) ≤ 20 by omega), Bool.true_and, Bool.true_and, Bool.not_eq_true', List.any_eq_false]
      intro x hx
      unfold badM
      rw [(hall x hx).2.2]; decide
    rw [if_pos hf, if_neg (by rw [hd]; decide), if_pos hr]
  rw [if_pos hc]
  have hap' : applyGo a a (impl_stepsFor.steps a b 0) = b := by simpa using hap
  rw [hap']
end Go.Proofs.Ytbihlagdcbdiaaa.Pure
namespace Go.Proofs.Ytbihlagdcbdiaaa.Pure
set_option linter.unusedVariables false
set_option linter.unusedSimpArgs false
open Go Go.RowKit Go.Proofs.Ytbihlagdcbdiaaa.Q Go.Proofs.YtbihlagdcbdiaaaW.PrintWords Go.Proofs.YtbihlagdcbdiaaaW.PrintLast Go.Proofs.YtbihlagdcbdiaaaW.PrintMore
/-- Where a source stands in its bytes. -/
def St (b : List Int) (i : Int) : Prop := 0 ≤ i ∧ i ≤ b.length ∧ b.length ≤ 1048576
theorem out_range (v m a : Int) (ha : 1 < a) (h : a ≤ 9223372036854775807) : 0 ≤ spec_l01Src_n.out v m a ∧ spec_l01Src_n.out v m a < a := by
  unfold spec_l01Src_n.out
  have h0 : 0 ≤ IntKind.u64.wrap (v + m / 1048576) := by rw [wrap_u64]; omega
  rw [wrap_u64_id (n := a) (by omega) (by omega)]
  generalize IntKind.u64.wrap (v + m / 1048576) = x at h0
  have h1 : 0 ≤ Int.tmod x a := Int.tmod_nonneg _ h0
  have h2 : Int.tmod x a < a := Int.tmod_lt_of_pos _ (by omega)
  rw [wrap64_id (by omega) (by omega)]
  exact ⟨h1, h2⟩
theorem draw_n (b : List Int) (i m s a : Int) (h : St b i) (ha : a ≤ 9223372036854775807) :
    ∃ r i' m', spec_l01Src_n.f b i m s a = some (r, i', m', s) ∧ St b i' ∧ 0 ≤ r ∧ (a ≤ 1 → r = 0) ∧ (1 < a → r < a) := by
  obtain ⟨h0, h1, h2⟩ := h
  unfold spec_l01Src_n.f
  by_cases g : a ≤ 1
  · exact ⟨0, i, m, by rw [if_pos g], ⟨h0, h1, h2⟩, by omega, fun _ => rfl, fun _ => by omega⟩
  · rw [if_neg g, if_neg (by rw [wrap_u64_id (by omega) (by omega)]; omega)]
    by_cases g2 : i < (b.length : Int)
    · have := out_range (IntKind.u64.wrap (rd b i)) (spec_l01Src_n.mix m) a (by omega) ha
      exact ⟨_, _, _, by rw [if_pos g2, if_pos h0, wrap64_id (by omega) (by omega)], ⟨by omega, by omega, h2⟩, this.1, fun _ => by omega, fun _ => this.2⟩
    · have := out_range 0 (spec_l01Src_n.mix m) a (by omega) ha
      exact ⟨_, _, _, by rw [if_neg g2], ⟨h0, h1, h2⟩, this.1, fun _ => by omega, fun _ => this.2⟩
theorem source_l0 (N : Nat) (hN : N ≤ 1048576) (l : List Int) (hl : l.length = N) (d : Nat) : ∀ (i : Nat) (m : Int), i + d = N → ∃ m' s', 0 ≤ s' ∧ s' ≤ 12 ∧ Ev (fun k => spec_l01Source.l0 k l (i : Int) l 0 m 0) (l, 0, m', s') := by
  have fin : ∀ m : Int, ∃ m' s', 0 ≤ s' ∧ s' ≤ 12 ∧ Ev (fun _ => (if (wrap64 ((l.length : Int) / 20)) > 12 then (some (l, (0 : Int), m, (12 : Int))) else (some (l, 0, m, wrap64 ((l.length : Int) / 20))))) (l, 0, m', s') := by
    intro m
    rw [wrap64_id (by omega) (by omega)]
    by_cases g : (l.length : Int) / 20 > 12
    · exact ⟨m, 12, by omega, by omega, by rw [if_pos g]; exact Ev.now _⟩
    · exact ⟨m, (l.length : Int) / 20, by omega, by omega, by rw [if_neg g]; exact Ev.now _⟩
  induction d with
  | zero =>
    intro i m h
    obtain ⟨m', s', a, b, e⟩ := fin m
    exact ⟨m', s', a, b, Ev.step (fun k => by rw [spec_l01Source.l0, if_neg (by omega)]) e⟩
  | succ d ih =>
    intro i m h
    by_cases g : (i : Int) < 64
    · obtain ⟨m', s', a, b, e⟩ := ih (i + 1) (IntKind.u64.wrap ((Go.bits .xor .u64 m (IntKind.u64.wrap (rd l (i : Int)))) * 1099511628211)) (by omega)
      exact ⟨m', s', a, b, Ev.step (fun k => by rw [spec_l01Source.l0, if_pos (by omega), if_pos g, if_pos (by omega), next64 (by omega)]) e⟩
    · obtain ⟨m', s', a, b, e⟩ := fin m
      exact ⟨m', s', a, b, Ev.step (fun k => by rw [spec_l01Source.l0, if_pos (by omega), if_neg g]) e⟩
theorem draw_source (l : List Int) (h : l.length ≤ 1048576) : ∃ m s, 0 ≤ s ∧ s ≤ 12 ∧ St l 0 ∧ Ev (fun k => spec_l01Source.f k l) (l, 0, m, s) := by
  obtain ⟨m, s, a, b, e⟩ := source_l0 l.length h l rfl l.length 0 88172645463325252 (by omega)
  exact ⟨m, s, a, b, ⟨by omega, by omega, h⟩, e⟩
end Go.Proofs.Ytbihlagdcbdiaaa.Pure
namespace Go.Proofs.Ytbihlagdcbdiaaa.Pure
set_option linter.unusedVariables false
set_option linter.unusedSimpArgs false
open Go Go.RowKit Go.Proofs.Ytbihlagdcbdiaaa.Q Go.Proofs.YtbihlagdcbdiaaaW.PrintWords Go.Proofs.YtbihlagdcbdiaaaW.PrintLast Go.Proofs.YtbihlagdcbdiaaaW.PrintMore
theorem draw_one (b : List Int) (i m s a : Int) (h : St b i) (ha : a ≤ 9223372036854775807) :
    ∃ r i' m', spec_l01Src_one.f b i m s a = some (r, i', m', s) ∧ St b i' := by
  obtain ⟨r, i', m', e, h', _⟩ := draw_n b i m s a h ha
  unfold spec_l01Src_one.f
  rw [e]
  exact ⟨_, _, _, rfl, h'⟩
end Go.Proofs.Ytbihlagdcbdiaaa.Pure
namespace Go.Proofs.Ytbihlagdcbdiaaa.Pure
set_option linter.unusedVariables false
set_option linter.unusedSimpArgs false
open Go Go.RowKit Go.Proofs.Ytbihlagdcbdiaaa.Q Go.Proofs.YtbihlagdcbdiaaaW.PrintWords Go.Proofs.YtbihlagdcbdiaaaW.PrintLast Go.Proofs.YtbihlagdcbdiaaaW.PrintMore
theorem draw_bytes_l0 (b : List Int) (s n : Int) (hn : n ≤ 1000000) (d : Nat) : ∀ (j : Nat) (acc : List Int) (i m : Int), (j : Int) + d = n → acc.length = j → St b i →
    ∃ r i' m', Ev (fun k => spec_l01Src_bytes.l0 k n acc (j : Int) b i m s) (r, i', m', s) ∧ St b i' ∧ (r.size : Int) = n := by
  induction d with
  | zero =>
    intro j acc i m h hl hs
    exact ⟨strOfNums acc, i, m, Ev.step (fun k => by rw [spec_l01Src_bytes.l0, if_neg (by omega)]) (Ev.now _), hs, by rw [strOfNums_size]; omega⟩
  | succ d ih =>
    intro j acc i m h hl hs
    obtain ⟨r, i', m', e, h', _⟩ := draw_n b i m s 256 hs (by omega)
    obtain ⟨r2, i2, m2, e2, h2, b2⟩ := ih (j + 1) (acc ++ [r % 256]) i' m' (by omega) (by simp; omega) h'
    refine ⟨r2, i2, m2, Ev.step (fun k => by rw [spec_l01Src_bytes.l0, if_pos (by omega), e, next64 (by omega)]) ?_, h2, b2⟩
    simp only [Option.bind_some, if_pos (show acc.length < 140737488355328 by omega)]
    exact e2
theorem draw_bytes (b : List Int) (i m s n : Int) (hn0 : 0 ≤ n) (hn : n ≤ 1000000) (hs : St b i) :
    ∃ r i' m', Ev (fun k => spec_l01Src_bytes.f k b i m s n) (r, i', m', s) ∧ St b i' ∧ (r.size : Int) = n := by
  unfold spec_l01Src_bytes.f
  exact draw_bytes_l0 b s n hn n.toNat 0 [] i m (by omega) (by simp) hs
end Go.Proofs.Ytbihlagdcbdiaaa.Pure
namespace Go.Proofs.Ytbihlagdcbdiaaa.Pure
set_option linter.unusedVariables false
set_option linter.unusedSimpArgs false
open Go Go.RowKit Go.Proofs.Ytbihlagdcbdiaaa.Q Go.Proofs.YtbihlagdcbdiaaaW.PrintWords Go.Proofs.YtbihlagdcbdiaaaW.PrintLast Go.Proofs.YtbihlagdcbdiaaaW.PrintMore
theorem draw_data (b : List Int) (i m s : Int) (h : St b i) : ∃ r i' m', spec_l01Src_l06Data.f b i m s = some (r, i', m', s) ∧ St b i' := by
  unfold spec_l01Src_l06Data.f spec_l01Src_pick.f
  generalize hL : ([(⟨#[97, 97, 97, 97, 97, 97, 97, 97]⟩ : ByteArray), (⟨#[97, 98, 97, 98, 97, 98, 97, 98]⟩ : ByteArray), (⟨#[104, 101, 108, 108, 111, 32, 32, 33]⟩ : ByteArray), (⟨#[0, 0, 0, 0, 0, 0, 0, 0]⟩ : ByteArray), (⟨#[0, 0, 0, 1, 0, 0, 0, 0]⟩ : ByteArray)] : List ByteArray) = L
  have hl : (L.length : Int) = 5 := by subst hL; rfl
  obtain ⟨r, i', m', e, h', c0, _, c1⟩ := draw_n b i m s (L.length : Int) h (by omega)
  have c1 := c1 (by omega)
  rw [e]
  simp only [Option.bind_some, if_pos c0, if_pos c1]
  exact ⟨_, _, _, rfl, h'⟩
theorem draw_image_l0 (b : List Int) (s : Int) (d : Nat) : ∀ (acc : List ByteArray) (i m : Int), d + acc.length ≤ 1000 → St b i → ∃ r i' m', Ev (fun k => spec_l01Src_l07Image.l0 k (d : Int) acc b i m s) (r, i', m', s) ∧ St b i' ∧ r.length = acc.length + d := by
  induction d with
  | zero =>
    intro acc i m _ hs
    exact ⟨acc, i, m, Ev.step (fun k => by rw [spec_l01Src_l07Image.l0, if_neg (by omega)]) (Ev.now _), hs, rfl⟩
  | succ d ih =>
    intro acc i m hl hs
    obtain ⟨r, i', m', e, h'⟩ := draw_data b i m s hs
    obtain ⟨r2, i2, m2, e2, h2, l2⟩ := ih (acc ++ [r]) i' m' (by simp; omega) h'
    refine ⟨r2, i2, m2, Ev.step (fun k => by rw [spec_l01Src_l07Image.l0, if_pos (by omega), e, wrap64_id (by omega) (by omega)]) ?_, h2, by rw [l2, List.length_append, List.length_singleton]; omega⟩
    simp only [Option.bind_some, if_pos (show acc.length < 8796093022208 by omega)]
    rw [show ((d + 1 : Nat) : Int) - 1 = (d : Int) by omega]
    exact e2
theorem draw_image (b : List Int) (i m s n : Int) (h0 : 0 ≤ n) (h1 : n ≤ 1000) (hs : St b i) : ∃ r i' m', Ev (fun k => spec_l01Src_l07Image.f k b i m s n) (r, i', m', s) ∧ St b i' ∧ (r.length : Int) = n := by
  unfold spec_l01Src_l07Image.f
  obtain ⟨r, i', m', e, h', l⟩ := draw_image_l0 b s n.toNat [] i m (by simp; omega) hs
  rw [Int.toNat_of_nonneg h0] at e
  exact ⟨r, i', m', e, h', by rw [l]; simp; omega⟩
theorem draw_odd (b : List Int) (i m s : Int) (hs : St b i) : ∃ r i' m', Ev (fun k => spec_l01Src_l07Odd.f k b i m s) (r, i', m', s) ∧ St b i' ∧ r.length ≤ 9 := by
  unfold spec_l01Src_l07Odd.f
  obtain ⟨r1, i1, m1, e1, s1, a1, _, c1⟩ := draw_n b i m s 5 hs (by omega)
  have c1 := c1 (by omega)
  simp only [e1, Option.bind_some]
  rw [wrap64_id (n := 1 + r1) (by omega) (by omega)]
  obtain ⟨r2, i2, m2, e2, s2, l2⟩ := draw_image b i1 m1 s (1 + r1) (by omega) (by omega) s1
  obtain ⟨r3, i3, m3, e3, s3⟩ := draw_one b i2 m2 s 12 s2 (by omega)
  obtain ⟨r4, i4, m4, e4, s4, _⟩ := draw_n b i3 m3 s 3 s3 (by omega)
  obtain ⟨r5, i5, m5, e5, s5, a5, _, c5⟩ := draw_n b i4 m4 s 2 s4 (by omega)
  have c5 := c5 (by omega)
  obtain ⟨r6, i6, m6, e6, s6, _⟩ := draw_bytes b i5 m5 s (7 + 2 * r5) (by omega) (by omega) s5
  obtain ⟨r7, i7, m7, e7, s7, l7⟩ := draw_image b i5 m5 s (8 + r5) (by omega) (by omega) s5
  by_cases g1 : r3 = true
  · by_cases g2 : r4 = 0
    · refine ⟨r2.set (0 : Int).toNat r6, i6, m6, Ev.bind e2 ?_, s6, by rw [List.length_set]; omega⟩
      simp only [e3, Option.bind_some, if_pos g1, e4, if_pos g2, e5]
      rw [wrap64_id (n := 2 * r5) (by omega) (by omega), wrap64_id (n := 7 + 2 * r5) (by omega) (by omega)]
      refine Ev.bind e6 ?_
      simp only [if_pos (show (0 : Int) < (r2.length : Int) by omega)]
      exact Ev.now _
    · by_cases g3 : r4 = 1
      · refine ⟨[], i4, m4, Ev.bind e2 ?_, s4, by simp⟩
        simp only [e3, Option.bind_some, if_pos g1, e4, if_neg g2, if_pos g3]
        exact Ev.now _
      · refine ⟨r7, i7, m7, Ev.bind e2 ?_, s7, by omega⟩
        simp only [e3, Option.bind_some, if_pos g1, e4, if_neg g2, if_neg g3, e5]
        rw [wrap64_id (n := 8 + r5) (by omega) (by omega)]
        exact Ev.bind e7 (Ev.now _)
  · refine ⟨r2, i3, m3, Ev.bind e2 ?_, s3, by omega⟩
    simp only [e3, Option.bind_some, if_neg g1]
    exact Ev.now _
end Go.Proofs.Ytbihlagdcbdiaaa.Pure
namespace Go.Proofs.Ytbihlagdcbdiaaa.Pure
set_option linter.unusedVariables false
set_option linter.unusedSimpArgs false
open Go Go.RowKit Go.Proofs.Ytbihlagdcbdiaaa.Q Go.Proofs.YtbihlagdcbdiaaaW.PrintWords Go.Proofs.YtbihlagdcbdiaaaW.PrintLast Go.Proofs.YtbihlagdcbdiaaaW.PrintMore
theorem lwTexts_l0 (N : Nat) (hN : N < 9223372036854775807) (r : List ByteArray) : ∀ p : List ByteArray, p.length + r.length = N → Ev (fun k => laws_lwTexts.l0 k (p ++ r) (p ++ r) (p.length : Int)) true := by
  induction r with
  | nil => intro p h; exact Ev.step (fun k => by rw [laws_lwTexts.l0, if_neg (not_lt_end p)]) (Ev.now _)
  | cons a r ih =>
    intro p h
    simp only [List.length_cons] at h
    refine Ev.step (fun k => by rw [laws_lwTexts.l0, if_pos (lt_mid p a r), if_pos (by omega), if_pos (lt_mid p a r), if_pos rfl, next64 (by omega)]) ?_
    have := ih (p ++ [a]) (by simp; omega)
    rw [← snoc_app, lenS_snoc] at this
    exact this
theorem lwImage_same (l : List ByteArray) (c : Int) (h : l.length < 9223372036854775807) : Ev (fun k => laws_lwImage.f k l c l c) true := by
  unfold laws_lwImage.f
  simp only [if_true]
  refine Ev.bind ?_ (Ev.now _)
  unfold laws_lwTexts.f
  simp only [if_true]
  exact lwTexts_l0 l.length h l [] (by simp)
theorem draw_For_l0 (b : List Int) (s : Int) (a : List ByteArray) (ha : a.length ≤ 9) (d : Nat) : ∀ (j : Nat) (x : List ByteArray) (i m : Int), j + d = x.length → x.length ≤ 9 → St b i →
    ∃ y, Ev (fun k => spec_DrawStepsFor.l0 k a x (j : Int) b i m s) (a, y) ∧ y.length ≤ 9 := by
  induction d with
  | zero =>
    intro j x i m h hx hs
    obtain ⟨r1, i1, m1, e1, s1⟩ := draw_one b i m s 12 hs (by omega)
    obtain ⟨r2, i2, m2, e2, s2, l2⟩ := draw_odd b i1 m1 s s1
    by_cases g : r1 = true
    · refine ⟨r2, Ev.step (fun k => by rw [spec_DrawStepsFor.l0, if_neg (by omega), e1]) ?_, l2⟩
      simp only [Option.bind_some, if_pos g]
      exact Ev.bind e2 (Ev.now _)
    · refine ⟨x, Ev.step (fun k => by rw [spec_DrawStepsFor.l0, if_neg (by omega), e1]) ?_, hx⟩
      simp only [Option.bind_some, if_neg g]
      exact Ev.now _
  | succ d ih =>
    intro j x i m h hx hs
    obtain ⟨r1, i1, m1, e1, s1⟩ := draw_one b i m s 2 hs (by omega)
    obtain ⟨r2, i2, m2, e2, s2⟩ := draw_data b i1 m1 s s1
    by_cases g : r1 = true
    · obtain ⟨y, e, l⟩ := ih (j + 1) (x.set j r2) i2 m2 (by rw [List.length_set]; omega) (by rw [List.length_set]; exact hx) s2
      refine ⟨y, Ev.step (fun k => by rw [spec_DrawStepsFor.l0, if_pos (by omega), e1]) ?_, l⟩
      simp only [Option.bind_some, if_pos g, e2, if_pos (show (0 : Int) ≤ (j : Int) by omega), next64 (show j < 9223372036854775807 by omega), Int.toNat_natCast]
      exact e
    · obtain ⟨y, e, l⟩ := ih (j + 1) x i1 m1 (by omega) hx s1
      refine ⟨y, Ev.step (fun k => by rw [spec_DrawStepsFor.l0, if_pos (by omega), e1]) ?_, l⟩
      simp only [Option.bind_some, if_neg g, next64 (show j < 9223372036854775807 by omega)]
      exact e
theorem draw_StepsFor (l : List Int) (h : l.length ≤ 1048576) : ∃ a b, Ev (fun k => spec_DrawStepsFor.f k l) (a, b) ∧ a.length ≤ 9 ∧ b.length ≤ 9 := by
  unfold spec_DrawStepsFor.f
  obtain ⟨m, s, _, _, hs, e0⟩ := draw_source l h
  obtain ⟨a, i1, m1, e1, s1, l1⟩ := draw_odd l 0 m s hs
  obtain ⟨b, e2, l2⟩ := draw_For_l0 l s a l1 a.length 0 a i1 m1 (Nat.zero_add _) l1 s1
  refine ⟨a, b, Ev.bind e0 (Ev.bind e1 ?_), l1, l2⟩
  simp only [Option.bind_some, List.length_nil, List.nil_append, if_pos (show 0 + a.length < 8796093022208 by omega)]
  exact e2
theorem diff_l0 (a b : List ByteArray) (L : List S34) (N : Nat) (hN : N < 1000) (hC : Ev (fun k => (spec_ImageRight.f k a).bind fun t364 => (if t364 = true then ((spec_ImageRight.f k b).bind fun t365 => (if t365 = true then (laws_FnDiff.j1 k a b L ((a.length : Int) != (b.length : Int))) else (laws_FnDiff.j1 k a b L true))) else (laws_FnDiff.j1 k a b L true))) true) (r : List S34) :
    ∀ p : List S34, p ++ r = L → p.length + r.length = N → Ev (fun k => laws_FnDiff.l0 k a b L L (p.length : Int)) true := by
  induction r with
  | nil =>
    intro p hp h
    rw [List.append_nil] at hp
    subst hp
    exact Ev.step (fun k => by rw [laws_FnDiff.l0, if_neg (by omega)]) hC
  | cons x r ih =>
    intro p hp h
    simp only [List.length_cons] at h
    have hlt : (p.length : Int) < (L.length : Int) := by rw [← hp]; exact lt_mid p x r
    refine Ev.step (fun k => by rw [laws_FnDiff.l0, if_pos hlt, if_pos (by omega), if_pos hlt, if_neg (by simp), next64 (by omega)]) ?_
    have := ih (p ++ [x]) (by rw [← hp]; simp) (by simp; omega)
    rw [lenS_snoc] at this
    exact this
theorem FnDiff : laws_FnDiff.Pure := by
  intro l _ _ _
  refine Ev.rounds ?_
  unfold laws_FnDiff.f
  by_cases g0 : (l.length : Int) > 1048576
  · simp only [if_pos g0]; exact Ev.now _
  simp only [if_neg g0]
  obtain ⟨a, b, e0, la, lb⟩ := draw_StepsFor l (by omega)
  have hF := forM_length a b
  refine Ev.bind e0 (Ev.bind1 (implStepsFor a b (by omega) (by omega)) (Ev.bind (specStepsFor a b) ?_))
  simp only [if_true]
  refine diff_l0 a b (forM a b) (forM a b).length (by omega) ?_ (forM a b) [] rfl (Nat.zero_add _)
  have bad : forM a b = [] → Ev (fun k => laws_FnDiff.j1 k a b (forM a b) true) true := by
    intro e
    refine Ev.step (f := fun _ => some true) (fun k => by rw [laws_FnDiff.j1, if_pos rfl, e]; rfl) (Ev.now _)
  refine Ev.bind (specImage a) ?_
  by_cases h1 : imageM a = true
  · simp only [if_pos h1]
    refine Ev.bind (specImage b) ?_
    by_cases h2 : imageM b = true
    · simp only [if_pos h2]
      by_cases h3 : a.length = b.length
      · rw [show ((a.length : Int) != (b.length : Int)) = false by simp [h3]]
        have hi := implImageApply a (forM a b) (by omega) (by omega)
        rw [forM_apply a b h1 h2 h3] at hi
        refine Ev.step (fun k => by rw [laws_FnDiff.j1, if_neg (by decide)]) (Ev.bind hi (Ev.bind (lwImage_same b 0 (by omega)) ?_))
        simp only [if_true]
        refine Ev.bind1 (implStepsFor a a (by omega) (by omega)) ?_
        rw [forM_self]
        exact Ev.now _
      · rw [show ((a.length : Int) != (b.length : Int)) = true by simp; omega]
        exact bad (by unfold forM; rw [if_neg (fun h => h3 h.2)])
    · simp only [if_neg h2]
      exact bad (by unfold forM; rw [if_neg (fun h => h2 h.1.2)])
  · simp only [if_neg h1]
    exact bad (by unfold forM; rw [if_neg (fun h => h1 h.1.1)])
end Go.Proofs.Ytbihlagdcbdiaaa.Pure
